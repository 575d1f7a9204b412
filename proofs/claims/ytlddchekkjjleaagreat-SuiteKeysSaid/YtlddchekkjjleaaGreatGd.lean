/- Part Gd of the proof. -/
import Derived.Test.YtlddchekkjjleaaGreatGc
import Derived.Still
set_option linter.unusedVariables false
set_option linter.unusedSimpArgs false
namespace Go.Sx
open Go Go.RowKit
section
variable {P:Program} {T:List K} {w0:World} {m:M} {σ:St} {a:Act} {w:World} {o:Oper} {nn nid:Nat} {p:Plan} {K:Act → World → Prop} {Q:Exit → Act → World → Prop}
theorem findK_ok {f:FuncId}:∀ (T T':List Sx.K) (n g:Nat) (κ:Sx.K),(∀ i,T'[n + i]?=T[i]?) → findK T f n=some (g,κ) → T'[g]?=some κ ∧ κ.fn=f:=by
 intro T
 induction T with
 | nil=>intro T' n g κ _ h; simp [findK] at h
 | cons k T ih =>
  intro T' n g κ hi h
  unfold findK at h
  simp only at h
  split at h
  ·rename_i hk
   simp at h hk
   obtain ⟨rfl,rfl⟩:=h
   exact ⟨by simpa using hi 0,hk⟩
  ·exact ih T' (n + 1) g κ (fun i=>by have:=hi (i + 1); rwa [show n + (i + 1)=n + 1 + i by omega] at this) h
theorem ret_rel {nv:Nat} {al:Nat → Bool} {vs:List V} {us:List Value} (h:VRels m nv al vs us):(retS vs).rel m nv al (retV us):=by
 have hl:=h.length
 match vs,us,h with
 | [],[],_=>exact ⟨[],rfl,trivial⟩
 | [v],[u],h=>exact h.1
 | v :: v' :: vs,u :: u' :: us,h=>exact ⟨_,rfl,h⟩
 | [v],u :: u' :: us,h=>simp at hl
 | v :: v' :: vs,[u],h=>simp at hl
theorem run_callValue {c:Call} {x:Operand} {f:FuncId} {caps:Array Value} (ho:o.op=.call c) (hc:c.callee=.value x) (hx:a.eval x=.func (.func f) #[] caps) :
  (execOp a.eval o).run P w=(callFunc f (c.args.map a.eval ++ caps)).run P w:=by
 simp only [execOp,ho,resolve,hc,hx,Deferred.ofValue]
 simp [invoke]
theorem exec_pure (h:Rep w0 m σ a w) (hp:PureOk P m σ a w o p.val) (he:p.eff=.none)
  (hK:∀ m' a' w',m'.env=m.env → MExt m σ.nv σ.al m' σ.nv (applyP σ p nid o.dst).al → Rep w0 m' (applyP σ p nid o.dst) a' w' → K a' w'):o.wp P a w K Q:=by
 obtain ⟨v,h1,h2⟩:=hp
 unfold Oper.wp
 rw [h1]
 have e:applyP σ p nid o.dst=σ.put o.dst p.val:=by simp [applyP_def,he]
 have hal:(σ.put o.dst p.val).al=σ.al:=by cases o.dst <;> rfl
 refine hK m _ _ rfl ?_ ?_
 ·rw [e,hal]; exact MExt.refl _ _ _
 ·rw [e]; exact h.put h2 _
theorem exec_new (h:Rep w0 m σ a w) (hn:σ.boxes[nid]?=some none) {e:TypeId} {cs:List C} {f:Addr → Value} {s:SV} (hpe:p={val:=s,eff:=.new {cells:=cs,elem:=e,own:=true } }) (hp:NewOk P m σ a w o e cs f)
  (hs:∀ m' nv al,al nid=true → m'.rho nid=(w.heap.size,0) → s.rel m' nv al (f ⟨w.heap.size,0,none⟩))
  (hK:∀ m' a' w',m'.env=m.env → MExt m σ.nv σ.al m' σ.nv (applyP σ p nid o.dst).al → Rep w0 m' (applyP σ p nid o.dst) a' w' → K a' w'):o.wp P a w K Q:=by
 obtain ⟨vs,h1,h2⟩:=hp
 unfold Oper.wp
 rw [h1]
 subst hpe
 have hb:Below w.heap.size w (w.alloc (.cells vs.toArray e)):=(Below.refl _ _).alloc (Nat.le_refl _) _
 obtain ⟨g1,g2⟩:=h.new hn hb (Nat.le_refl _) (e:=e) (vs:=vs) (by show (w.heap.push _)[w.heap.size]?=_; simp) h2
 have eq:applyP σ {val:=s,eff:=.new {cells:=cs,elem:=e,own:=true } } nid o.dst=(σ.setBox nid {cells:=cs,elem:=e,own:=true }).put o.dst s:=by rw [applyP_def]; rfl
 have hnl:nid < σ.boxes.length:=(List.getElem?_eq_some_iff.1 hn).1
 have hal:((σ.setBox nid {cells:=cs,elem:=e,own:=true }).put o.dst s).al=(σ.setBox nid {cells:=cs,elem:=e,own:=true }).al:=by cases o.dst <;> rfl
 refine hK (m.bind nid w.heap.size) _ _ rfl ?_ ?_
 ·rw [eq,hal]; exact g2
 ·rw [eq]
  exact g1.put (hs _ _ _ (by rw [al_setBox]; simp [hnl]) (by simp [M.bind])) _
theorem op_exec (hT:∀ (g:Nat) κ,T[g]?=some κ → κ.ok P) (h:Rep w0 m σ a w) (hp:plan P T σ nn nid o.op=.ok p) (hn:isNew p.eff=true → σ.boxes[nid]?=some none)
  (ht:Told T m.env nn p.defs) (ht2:Told T m.env (nn + p.defs.length) p.post) (hle:nn + p.defs.length + p.post.length ≤ σ.nv) (hz:∀ x ∈ p.nz,x.ev m.env ≠ 0)
  (hr:∀ q ∈ p.reqs,match T[q.1]? with | some κ=>κ.pre (q.2.map (·.ev m.env)) | none=>False)
  (hK:∀ m' a' w',m'.env=m.env → MExt m σ.nv σ.al m' σ.nv (applyP σ p nid o.dst).al → Rep w0 m' (applyP σ p nid o.dst) a' w' → K a' w'):o.wp P a w K Q:=by
 have hd:DefsOk T m.env σ.nv nn p.defs:=⟨by omega,ht⟩
 cases ho:o.op with
 | move x=>exact exec_pure h (pure_move h (.inl ho) hp) (by rw [ho] at hp; simp only [plan] at hp; split at hp <;> cases hp; rfl) hK
 | assign x=>exact exec_pure h (pure_move h (.inr ho) hp) (by rw [ho] at hp; simp only [plan] at hp; split at hp <;> cases hp; rfl) hK
 | pick c x y =>
  refine exec_pure h (pure_pick h ho hp) ?_ hK
  rw [ho] at hp; simp only [plan] at hp
  repeat' split at hp
  all_goals (first | (cases hp; done) | (cases hp; rfl))
 | alloc e =>
  obtain ⟨cs,h1,h2⟩:=new_alloc (m:=m) (σ:=σ) (a:=a) (w:=w) ho hp
  exact exec_new h (hn (by rw [h1]; rfl)) h1 h2 (fun m' nv al h3 h4=>⟨h3,by simp [M.at,h4]⟩) hK
 | box e x =>
  obtain ⟨cs,h1,h2⟩:=new_box h ho hp
  exact exec_new h (hn (by rw [h1]; rfl)) h1 h2 (fun m' nv al h3 h4=>⟨h3,by simp [M.at,h4]⟩) hK
 | buildSlice t len ps =>
  cases he:emptyP P nid t len ps with
  | some q =>
   rw [ho] at hp
   simp only [plan,he] at hp
   cases hp
   obtain ⟨_,_,_,_,_,_,_,_,hq⟩:=empty_spec he
   exact empty_exec h ho he (hn (by rw [hq]; rfl)) hK
  | none =>
  obtain ⟨cs,e,h1,h2⟩:=new_buildSlice h ho he hp
  exact exec_new h (hn (by rw [h1]; rfl)) h1 h2 (fun m' nv al h3 h4=>⟨h3,by simp [M.at,h4]⟩) hK
 | build t ps =>
  refine exec_pure h (pure_build h ho hp) ?_ hK
  rw [ho] at hp; simp only [plan] at hp
  repeat' split at hp
  all_goals (first | (cases hp; done) | (cases hp; rfl))
 | load t x =>
  refine exec_pure h (pure_load h ho hp hd) ?_ hK
  rw [ho] at hp; simp only [plan,loadRow] at hp
  repeat' split at hp
  all_goals (first | (cases hp; done) | (cases hp; rfl))
 | nilCheck x =>
  refine exec_pure h (pure_nilCheck h ho hp) ?_ hK
  rw [ho] at hp; simp only [plan] at hp
  repeat' split at hp
  all_goals (first | (cases hp; done) | (cases hp; rfl))
 | binOp op t x y yt =>
  refine exec_pure h (pure_binOp h ho hp hd hz) ?_ hK
  rw [ho] at hp; simp only [plan] at hp
  split at hp
  ·split at hp
   ·rename_i q hq
    cases hp
    obtain ⟨_,_,_,_,_,_,_,_,_,rfl⟩:=rowNil_spec hq
    rfl
   ·simp only [planBin,binInt,mkP,okP] at hp
    repeat' split at hp
    all_goals (first | (cases hp; done) | (cases hp; rfl))
  ·cases hp
 | unOp op t x =>
  refine exec_pure h (pure_unOp h ho hp hd) ?_ hK
  rw [ho] at hp; simp only [plan,mkP] at hp
  repeat' split at hp
  all_goals (first | (cases hp; done) | (cases hp; rfl))
 | convert s d x =>
  refine exec_pure h (pure_convert h ho hp hd) ?_ hK
  rw [ho] at hp; simp only [plan,mkP,okP] at hp
  repeat' split at hp
  all_goals (first | (cases hp; done) | (cases hp; rfl))
 | sliceToArrayPointer t x =>
  refine exec_pure h (pure_sl2arr h ho hp) ?_ hK
  rw [ho] at hp; simp only [plan,okP] at hp
  repeat' split at hp
  all_goals (first | (cases hp; done) | (cases hp; rfl))
 | makeFunc fn first caps =>
  refine exec_pure h (pure_makeFunc h ho hp) ?_ hK
  rw [ho] at hp; simp only [plan,okP] at hp
  repeat' split at hp
  all_goals (first | (cases hp; done) | (cases hp; rfl))
 | slice t x lo hi mx =>
  refine exec_pure h (pure_slice h ho hp hd hz) ?_ hK
  rw [ho] at hp; simp only [plan,okP,partP] at hp
  repeat' split at hp
  all_goals (first | (cases hp; done) | (cases hp; rfl))
 | fieldAddr s x f =>
  refine exec_pure h (pure_fieldAddr h ho hp) ?_ hK
  rw [ho] at hp; simp only [plan,okP] at hp
  repeat' split at hp
  all_goals (first | (cases hp; done) | (cases hp; rfl))
 | field t x f =>
  refine exec_pure h (pure_field h ho hp) ?_ hK
  rw [ho] at hp; simp only [plan,partC,okP] at hp
  repeat' split at hp
  all_goals (first | (cases hp; done) | (cases hp; rfl))
 | indexAddr t x i =>
  refine exec_pure h (pure_indexAddr h ho hp hd hz) ?_ hK
  rw [ho] at hp; simp only [plan,okP] at hp
  repeat' split at hp
  all_goals (first | (cases hp; done) | (cases hp; rfl))
 | index t x i =>
  refine exec_pure h (pure_index h ho hp hd hz) ?_ hK
  rw [ho] at hp; simp only [plan,partC,okP] at hp
  repeat' split at hp
  all_goals (first | (cases hp; done) | (cases hp; rfl))
 | extract x i =>
  refine exec_pure h (pure_extract h ho hp) ?_ hK
  rw [ho] at hp; simp only [plan] at hp
  repeat' split at hp
  all_goals (first | (cases hp; done) | (cases hp; rfl))
 | store t x y =>
  obtain ⟨id,u,b,w',h0,h1,h2,h3,h4⟩:=run_store_ok h ho hp hd
  unfold Oper.wp
  rw [h3]
  have eq:applyP σ p nid o.dst=(σ.setBox id (b.upd u)).put o.dst (.tup []):=by
   simp only [applyP_def,h0,h1,h2]; rfl
  have hal0:(σ.setBox id (b.upd u)).al=σ.al:=by
   funext i
   rw [al_setBox]
   split
   ·rename_i hi; rw [hi.1]; exact (al_iff.2 ⟨b,h2⟩).symm
   ·rfl
  have hal:((σ.setBox id (b.upd u)).put o.dst (.tup [])).al=σ.al:=by
   rw [← hal0]; cases o.dst <;> rfl
  refine hK m _ _ rfl ?_ ?_
  ·rw [eq,hal]; exact MExt.refl _ _ _
  ·rw [eq]; exact h4.put (s:=.tup []) (v:=undef) ⟨[],rfl,trivial⟩ _
 | call c =>
  rw [ho] at hp
  simp only [plan] at hp
  split at hp
  ·cases hp
  ·rename_i args hargs
   have hvr:=args_ok h _ _ hargs
   split at hp
   ·
    rename_i hcal
    have key:∀ n:Nat,(Builtin.len_ c.argTypes o.type (c.args.map a.eval)).run P w=.ok (goInt n) w → p={val:=.vl (.one (.int .i64 (.lit n))) } → (n:Int) ≤ 9223372036854775807 → o.wp P a w K Q:=by
     intro n hlen hpn hb
     refine exec_pure h ⟨.int .i64 n,?_,?_⟩ (by rw [hpn]) hK
     ·simp only [execOp,ho,resolve,hcal]
      simp [invoke,builtin,hlen,goInt]
     ·rw [hpn]; exact ⟨⟨trivial,trivial⟩,by simp only [A.ev,has,lo,hi]; omega,rfl⟩
    split at hp
    ·cases hp
    ·rename_i t hct
     split at hp
     ·rename_i e id off n cap hu
      split at hp
      ·rename_i hb
       cases hp
       match hcl:c.args.toList.map a.eval,hvr with
       | [v],hvr =>
        have hca:c.args.map a.eval=#[v]:=Array.ext' (by simpa using hcl)
        refine key n ?_ rfl (by omega)
        have hv:=hvr.1.2
        rw [hca,hv]
        simp [Builtin.len_,hct,run_underlying hu]
      ·cases hp
     ·rename_i e hu
      cases hp
      match hcl:c.args.toList.map a.eval,hvr with
      | [v],hvr =>
       have hca:c.args.map a.eval=#[v]:=Array.ext' (by simpa using hcl)
       refine key 0 ?_ rfl (by omega)
       have hv:v=.slice none 0 0:=hvr.1
       rw [hca,hv]
       simp [Builtin.len_,hct,run_underlying hu]
     ·rename_i e id hu
      split at hp
      ·rename_i r hrow
       cases hp
       match hcl:c.args.toList.map a.eval,hvr with
       | [v],hvr =>
        have hca:c.args.map a.eval=#[v]:=Array.ext' (by simpa using hcl)
        have hv:σ.al id=true ∧ v=m.sv id ∧ v.oneCell'=true:=hvr.1
        obtain ⟨q1,q2,q5,q6,q3⟩:=h.row_ok hrow
        have q4:=q3.1.1
        obtain ⟨bb,cap,hlen⟩:=q3.len
        have d0:m.env nn=((dec (A.ev m.env r.x)).length:Int):=by
         have:=DefsOk.snd (i:=0) hd rfl
         simpa [D.ev,q6] using this
        have hpo:PureOk P m σ a w o (.vl (.one (.int .i64 (.var nn)))):=by
         refine ⟨.int .i64 (dec (A.ev m.env r.x)).length,?_,⟨?_,trivial⟩,?_,?_⟩
         ·simp only [execOp,ho,resolve,hcal]
          simp [invoke,builtin,Builtin.len_,hct,run_underlying hu,hca,hv.2.1,hlen,goInt]
         ·have:=hd.1; simp only [A.ok,List.length_cons,List.length_nil] at *; omega
         ·show has .i64 (m.env nn)
          rw [d0]; simp only [has,lo,hi]; omega
         ·show _=Value.int .i64 (m.env nn)
          rw [d0]
        exact exec_pure h hpo rfl hK
      ·cases hp
     ·rename_i e id lo' hi' k' hu
      split at hp
      ·rename_i r hrow
       split at hp
       ·rename_i hzl
        have hz0:=isZ_ok hzl
        subst hz0
        cases hp
        match hcl:c.args.toList.map a.eval,hvr with
        | [v],hvr =>
         have hca:c.args.map a.eval=#[v]:=Array.ext' (by simpa using hcl)
         obtain ⟨b1,b2,b3,b4,b5,b6⟩:=(show C.rel m σ.nv σ.al (.slv id (.lit 0) hi' k') v from hvr.1)
         obtain ⟨q1,q2,q5,q6,q3⟩:=h.row_ok hrow
         obtain ⟨bb,cap,hlen⟩:=q3.len
         have hv:v=.slice bb (hi'.ev m.env).toNat cap:=by rw [b5,hlen]; exact subV_zero ..
         have c1:0 ≤ hi'.ev m.env:=b4.2.1
         have c3:=b4.2.2.2
         have hpo:PureOk P m σ a w o (.vl (.one (.int .i64 hi'))):=by
          refine ⟨.int .i64 (hi'.ev m.env),?_,b3,?_,rfl⟩
          ·simp only [execOp,ho,resolve,hcal]
           have:((hi'.ev m.env).toNat:Int)=hi'.ev m.env:=by omega
           simp [invoke,builtin,Builtin.len_,hct,run_underlying hu,hca,hv,goInt,this]
          ·simp only [has,lo,Sx.hi]; omega
         exact exec_pure h hpo rfl hK
       ·cases hp
      ·cases hp
     ·rename_i n e v0 hu
      split at hp
      ·rename_i hb
       cases hp
       match hcl:c.args.toList.map a.eval,hvr with
       | [v],hvr =>
        have hca:c.args.map a.eval=#[v]:=Array.ext' (by simpa using hcl)
        refine key n ?_ rfl (by omega)
        rw [hca]
        simp [Builtin.len_,hct,run_underlying hu]
      ·cases hp
     ·rename_i s hu
      split at hp
      ·rename_i hb
       cases hp
       match hcl:c.args.toList.map a.eval,hvr with
       | [v],hvr =>
        have hca:c.args.map a.eval=#[v]:=Array.ext' (by simpa using hcl)
        refine key s.size ?_ rfl (by omega)
        have hv:v=.string s:=hvr.1
        rw [hca,hv]
        simp [Builtin.len_,hct,run_underlying hu]
      ·cases hp
     ·cases hp
   ·
    rename_i hcal
    have key:∀ (id:Nat) (r:Row) (bb:Option Addr) (n cap:Nat) (v:Value),σ.row id=some r → r.full=true → (Builtin.cap_ c.argTypes o.type (c.args.map a.eval)).run P w=.ok (goInt cap) w → m.sv id=.slice bb n cap → p={val:=.vl (.one (.int .i64 (.var nn))),defs:=[(.int .i64,.llen r.x0)] } → o.wp P a w K Q:=by
     intro id r bb n cap v hrow hfull hrun hsv hpe
     obtain ⟨q1,q2,q5,q6,q3⟩:=h.row_ok hrow
     have q4:=q3.1.1
     have hfl:=q3.2.2 hfull
     have hlv:=q3.lenV
     rw [hsv] at hfl hlv
     have hfl:n=cap:=hfl
     have hlv:n=(dec (A.ev m.env r.x)).length:=hlv
     subst hpe
     have d0:m.env nn=(cap:Int):=by
      have:=DefsOk.snd (i:=0) hd rfl
      rw [Nat.add_zero] at this
      rw [this]; simp only [D.ev]; omega
     have hpo:PureOk P m σ a w o (.vl (.one (.int .i64 (.var nn)))):=by
      refine ⟨.int .i64 cap,?_,⟨?_,trivial⟩,?_,?_⟩
      ·simp only [execOp,ho,resolve,hcal]
       simp [invoke,builtin,hrun,goInt]
      ·have:=hd.1; simp only [A.ok,List.length_cons,List.length_nil] at *; omega
      ·show has .i64 (m.env nn)
       rw [d0]; simp only [has,lo,hi]; omega
      ·show _=Value.int .i64 (m.env nn)
       rw [d0]
     exact exec_pure h hpo rfl hK
    split at hp
    ·cases hp
    ·rename_i t hct
     split at hp
     ·rename_i e id hu
      split at hp
      ·rename_i r hrow
       split at hp
       ·rename_i hfull
        cases hp
        match hcl:c.args.toList.map a.eval,hvr with
        | [v],hvr =>
         have hca:c.args.map a.eval=#[v]:=Array.ext' (by simpa using hcl)
         have hv:σ.al id=true ∧ v=m.sv id ∧ v.oneCell'=true:=hvr.1
         obtain ⟨q1,q2,q5,q6,q3⟩:=h.row_ok hrow
         obtain ⟨bb,cap,hlen⟩:=q3.len
         refine key id r bb _ cap v hrow hfull ?_ hlen rfl
         simp [Builtin.cap_,hct,run_underlying hu,hca,hv.2.1,hlen]
       ·cases hp
      ·cases hp
     ·rename_i e id lo' hi' k' hu
      split at hp
      ·rename_i r hrow
       split at hp
       ·rename_i hfull
        simp only [Bool.and_eq_true] at hfull
        have hz0:=isZ_ok hfull.2
        subst hz0
        cases hp
        match hcl:c.args.toList.map a.eval,hvr with
        | [v],hvr =>
         have hca:c.args.map a.eval=#[v]:=Array.ext' (by simpa using hcl)
         obtain ⟨b1,b2,b3,b4,b5,b6⟩:=(show C.rel m σ.nv σ.al (.slv id (.lit 0) hi' k') v from hvr.1)
         obtain ⟨q1,q2,q5,q6,q3⟩:=h.row_ok hrow
         obtain ⟨bb,cap,hlen⟩:=q3.len
         have hv:v=.slice bb (hi'.ev m.env).toNat cap:=by rw [b5,hlen]; exact subV_zero ..
         refine key id r bb _ cap v hrow hfull.1 ?_ hlen rfl
         simp [Builtin.cap_,hct,run_underlying hu,hca,hv]
       ·cases hp
      ·cases hp
     ·cases hp
   ·
    rename_i hcal
    split at hp
    ·rename_i k x k' y
     split at hp
     ·rename_i hk
      have hk:=kind_ok hk
      subst hk
      cases hp
      match hcl:c.args.toList.map a.eval,hvr with
      | [u,v],hvr =>
       have hca:c.args.map a.eval=#[u,v]:=Array.ext' (by simpa using hcl)
       have hx:C.rel m σ.nv σ.al (.int k x) u:=hvr.1
       have hy:C.rel m σ.nv σ.al (.int k y) v:=hvr.2.1
       have e0:m.env nn=b2i (decide (x.ev m.env < y.ev m.env)):=(hd.2 0 _ _ rfl).1
       have e1:m.env (nn + 1)=(if m.env nn=((1:Nat):Int) then y.ev m.env else x.ev m.env):=(hd.2 1 _ _ rfl).1
       have e2:m.env (nn + 1)=(if x.ev m.env < y.ev m.env then y.ev m.env else x.ev m.env):=by
        rw [e1,e0]
        by_cases hc:x.ev m.env < y.ev m.env <;> simp [hc,b2i]
       have hpo:PureOk P m σ a w o (.vl (.one (.int k (.var (nn + 1))))):=by
        refine ⟨.int k (if x.ev m.env < y.ev m.env then y.ev m.env else x.ev m.env),?_,⟨?_,trivial⟩,?_,?_⟩
        ·simp only [execOp,ho,resolve,hcal]
         simp [invoke,builtin,Builtin.max_,Builtin.max2,hca,hx.2.2,hy.2.2]
        ·have:=hd.1; simp only [A.ok,List.length_cons,List.length_nil] at *; omega
        ·show has k (m.env (nn + 1))
         rw [e2]; split
         ·exact hy.2.1
         ·exact hx.2.1
        ·show _=Value.int k (m.env (nn + 1))
         rw [e2]
       exact exec_pure h hpo rfl hK
     ·cases hp
    ·cases hp
   ·
    rename_i hcal
    split at hp
    ·rename_i k x k' y
     split at hp
     ·rename_i hk
      have hk:=kind_ok hk
      subst hk
      cases hp
      match hcl:c.args.toList.map a.eval,hvr with
      | [u,v],hvr =>
       have hca:c.args.map a.eval=#[u,v]:=Array.ext' (by simpa using hcl)
       have hx:C.rel m σ.nv σ.al (.int k x) u:=hvr.1
       have hy:C.rel m σ.nv σ.al (.int k y) v:=hvr.2.1
       have e0:m.env nn=b2i (decide (y.ev m.env < x.ev m.env)):=(hd.2 0 _ _ rfl).1
       have e1:m.env (nn + 1)=(if m.env nn=((1:Nat):Int) then y.ev m.env else x.ev m.env):=(hd.2 1 _ _ rfl).1
       have e2:m.env (nn + 1)=(if y.ev m.env < x.ev m.env then y.ev m.env else x.ev m.env):=by
        rw [e1,e0]
        by_cases hc:y.ev m.env < x.ev m.env <;> simp [hc,b2i]
       have hpo:PureOk P m σ a w o (.vl (.one (.int k (.var (nn + 1))))):=by
        refine ⟨.int k (if y.ev m.env < x.ev m.env then y.ev m.env else x.ev m.env),?_,⟨?_,trivial⟩,?_,?_⟩
        ·simp only [execOp,ho,resolve,hcal]
         simp [invoke,builtin,Builtin.min_,Builtin.min2,hca,hx.2.2,hy.2.2]
        ·have:=hd.1; simp only [A.ok,List.length_cons,List.length_nil] at *; omega
        ·show has k (m.env (nn + 1))
         rw [e2]; split
         ·exact hy.2.1
         ·exact hx.2.1
        ·show _=Value.int k (m.env (nn + 1))
         rw [e2]
       exact exec_pure h hpo rfl hK
     ·cases hp
    ·cases hp
   ·
    split at hp
    ·rename_i g hg
     cases hp
     simp only [applyP_def] at hK
     exact cat_exec (T:=T) h (hn rfl) (by rw [ho]; exact hg) ht (hz (.var (nn + (g.defs.length + 1))) (by simp [catPl])) (hz (.var (nn + (g.defs.length + 3))) (by simp [catPl])) ht2 (by simp only [catPl,catD,List.length_append,List.length_cons,List.length_nil] at hle; omega) hK
    ·cases hp
   ·cases hp
   ·cases hp
   ·rename_i x hcal
    split at hp
    ·rename_i f caps hx
     have hfx:=h.cell hx
     split at hp
     ·rename_i g κ hfk
      obtain ⟨hg,hfn⟩:=findK_ok T T 0 g κ (fun i=>by rw [Nat.zero_add]) hfk
      split at hp
      ·cases hp
      ·rename_i d hdi
       obtain ⟨d1,d2⟩:=d
       split at hp
       ·cases hp
       ·rename_i q hqo
        obtain ⟨q1,q2,q3⟩:=q
        cases hp
        simp only at ht ht2 hle hr hK hn
        have hall:VRels m σ.nv σ.al (args ++ caps.map fun p=>V.one (.ptr p.1 p.2)) (c.args.toList.map a.eval ++ caps.map fun p=>Value.pointer (some (m.at p.1 p.2))):=by
         refine hvr.append ?_
         have hc:=hfx.1
         clear hK hn hqo hdi hfx hx
         induction caps with
         | nil=>trivial
         | cons q caps ih=>exact ⟨⟨hc q (List.mem_cons_self ..),rfl⟩,ih fun z hz=>hc z (List.mem_cons_of_mem _ hz)⟩
        have hins:=(takeIns_ok (T:=T) _ _ _ _ _ hdi h hall).2 m.env (fun _ _=>rfl) ht
        have hpre:κ.pre (d2.map (·.ev m.env)):=by
         have:=hr (g,d2) (List.mem_singleton.2 rfl)
         simpa [hg] using this
        have hok:=hT g κ hg w _ _ hins hpre
        have hrun:(execOp a.eval o).run P w=(callFunc κ.fn (c.args.toList.map a.eval ++ caps.map fun p=>Value.pointer (some (m.at p.1 p.2))).toArray).run P w:=by
         rw [run_callValue ho hcal hfx.2,hfn]
         congr 2
         apply Array.ext'
         simp
        have fin:∀ (us:List Value) (w':World),outsRel w.heap.size w' κ.outs (κ.sem (d2.map (·.ev m.env))) us → Below w.heap.size w w' → K (a.put o.dst (retV us)) w':=by
         intro us w' hout hbel
         obtain ⟨b,vb,hb1,hb2⟩:=putK_val (T:=T) (args:=d2) (nid:=nid) hg (m:=m) (nv:=σ.nv) (al:=σ.al) hqo _ us hout (fun i y hi=>by rw [Nat.zero_add,List.getD_eq_getElem?_getD,hi]; rfl) ht2 (by omega)
         cases q3 with
         | none =>
          have hv:=hb2 m σ.al (MExt.refl _ _ _) (fun _ h=>by cases h)
          have hw:=h.world hbel
          have eq:applyP σ {val:=retS q2,defs:=d1,eff:=.none,reqs:=[(g,d2)],post:=q1 } nid o.dst=σ.put o.dst (retS q2):=rfl
          have hal:(σ.put o.dst (retS q2)).al=σ.al:=by cases o.dst <;> rfl
          refine hK m _ _ rfl ?_ ?_
          ·rw [eq,hal]; exact MExt.refl _ _ _
          ·rw [eq]; exact hw.put (ret_rel hv) _
         | some bx =>
          have hnid:=hn rfl
          have hnl:nid < σ.boxes.length:=(List.getElem?_eq_some_iff.1 hnid).1
          have eq:applyP σ {val:=retS q2,defs:=d1,eff:=.new bx,reqs:=[(g,d2)],post:=q1 } nid o.dst=(σ.setBox nid bx).put o.dst (retS q2):=by rw [applyP_def]; rfl
          have hal:((σ.setBox nid bx).put o.dst (retS q2)).al=(σ.setBox nid bx).al:=by cases o.dst <;> rfl
          have haln:(σ.setBox nid bx).al nid=true:=by rw [al_setBox]; simp [hnl]
          have go:∀ m',m'.env=m.env → Rep w0 m' (σ.setBox nid bx) a w' → MExt m σ.nv σ.al m' σ.nv (σ.setBox nid bx).al → (bx.own=true → m'.rho nid=(b,0)) → (bx.own=false → m'.sv nid=vb) → K (a.put o.dst (retV us)) w':=by
           intro m' he r1 r2 k1 k2
           have hv:=hb2 _ _ r2 (fun bx' hbx=>by cases hbx; exact ⟨haln,k1,k2⟩)
           refine hK m' _ _ he ?_ ?_
           ·show MExt m σ.nv σ.al m' σ.nv (applyP σ {val:=retS q2,defs:=d1,eff:=.new bx,reqs:=[(g,d2)],post:=q1 } nid o.dst).al
            rw [eq]
            exact r2.trans (by rw [← hal]; exact MExt.refl _ _ _)
           ·show Rep w0 m' (applyP σ {val:=retS q2,defs:=d1,eff:=.new bx,reqs:=[(g,d2)],post:=q1 } nid o.dst) _ _
            rw [eq]
            exact r1.put (ret_rel hv) _
          rcases hb1 bx rfl with ⟨o1,o2,g1,zs,g2,g3⟩ | ⟨r,rfl,o1,o2,o3,o4,o5,o6⟩
          ·obtain ⟨bcells,belem,bown,brow⟩:=bx
           simp only at o1 o2 g2 g3
           subst o1 o2
           obtain ⟨r1,r2⟩:=h.new hnid hbel g1 g2 g3
           exact go (m.bind nid b) rfl r1 r2 (fun _=>by simp [M.bind]) (fun h=>by cases h)
          ·have o5':w'.ownsRow w0.heap.size r.elem r.k.sz vb (dec (r.x.ev m.env)).length (flat r.k (dec (r.x.ev m.env))):=by
            refine ⟨o5.1,?_⟩
            rcases o5.2 with h1 | ⟨g,cap,cur,e1,e2,e3⟩
            ·exact .inl h1
            ·exact .inr ⟨g,cap,cur,e1,Nat.le_trans h.below.size e2,e3⟩
           obtain ⟨r1,r2⟩:=h.newRow hnid hbel (r:=r) (v:=vb) o2 (by rw [o3]; exact o2) (by rw [o3]) ⟨o4,by rw [o1]; exact o5',o6⟩ (fun g _ hg=>(o5.lt g hg).1)
           exact go (m.row nid vb) rfl r1 r2 (fun h=>by cases h) (fun _=>by simp [M.row])
        unfold Oper.wp
        rw [hrun]
        cases hext:κ.ext with
        | true =>
         rw [hext] at hok
         simp only [if_true] at hok
         obtain ⟨us,h1,h2⟩:=hok
         rw [h1]
         exact fin us w h2 (Below.refl _ _)
        | false =>
         rw [hext] at hok
         simp only [Bool.false_eq_true,if_false] at hok
         obtain ⟨h1,h2⟩:=hok
         rw [h1]
         refine h2.mono fun e w' ⟨us,he,hout,hbel⟩=>?_
         subst he
         exact fin us w' hout hbel
     ·cases hp
    ·cases hp
 | _=>rw [ho] at hp; simp [plan] at hp
end
end Go.Sx

namespace Go.Sx
open Go Go.RowKit
section
variable {P:Program} {T:List K} {w0:World} {m:M} {σ:St} {a:Act} {w:World} {o:Oper} {nn nid:Nat} {p:Plan}
theorem not_bit (T:List K) (e:Nat → Int) (a:A):KK.bit.has ((D.not a).ev T e):=by
 by_cases h:a.ev e=0 <;> simp [KK.has,D.ev,h]
theorem mkP_gen {kk:KK} {d:D} {c:A → C} (hp:mkP nn kk d c=.ok p) (h1:d.ok nn) (h2:kk.has (d.ev T m.env)):GenOk T m.env nn p.defs:=by
 unfold mkP at hp
 cases hp
 exact mk_gen h1 h2
theorem eqN_ok' {f:List C → List C → Option (List (A × A) × List C × List C)} {R:C → Prop} {S:A × A → Prop} (hf:∀ xs ys ps xs' ys',f xs ys=some (ps,xs',ys') → (∀ c ∈ xs,R c) → (∀ c ∈ ys,R c) → (∀ q ∈ ps,S q) ∧ (∀ c ∈ xs',R c) ∧ (∀ c ∈ ys',R c)) :
  ∀ n xs ys ps xs' ys',eqN f n xs ys=some (ps,xs',ys') → (∀ c ∈ xs,R c) → (∀ c ∈ ys,R c) → (∀ q ∈ ps,S q) ∧ (∀ c ∈ xs',R c) ∧ (∀ c ∈ ys',R c):=by
 intro n
 induction n with
 | zero=>intro xs ys ps xs' ys' h hx hy; simp [eqN] at h; obtain ⟨rfl,rfl,rfl⟩:=h; exact ⟨by simp,hx,hy⟩
 | succ n ih =>
  intro xs ys ps xs' ys' h hx hy
  unfold eqN at h
  split at h
  ·cases h
  ·rename_i r hr
   obtain ⟨p1,x1,y1⟩:=r
   simp only at h
   split at h
   ·cases h
   ·rename_i q hq
    obtain ⟨p2,x2,y2⟩:=q
    simp at h
    obtain ⟨rfl,rfl,rfl⟩:=h
    obtain ⟨g1,g2,g3⟩:=hf _ _ _ _ _ hr hx hy
    obtain ⟨k1,k2,k3⟩:=ih _ _ _ _ _ hq g2 g3
    exact ⟨fun q hq=>(List.mem_append.1 hq).elim (g1 q) (k1 q),k2,k3⟩
theorem eqFs_ok' {f:TypeId → List C → List C → Option (List (A × A) × List C × List C)} {sz:TypeId → Option Nat} {R:C → Prop} {S:A × A → Prop} (hf:∀ t xs ys ps xs' ys',f t xs ys=some (ps,xs',ys') → (∀ c ∈ xs,R c) → (∀ c ∈ ys,R c) → (∀ q ∈ ps,S q) ∧ (∀ c ∈ xs',R c) ∧ (∀ c ∈ ys',R c)) :
  ∀ fs n xs ys ps n' xs' ys',eqFs f sz fs n xs ys=some (ps,n',xs',ys') → (∀ c ∈ xs,R c) → (∀ c ∈ ys,R c) → (∀ q ∈ ps,S q) ∧ (∀ c ∈ xs',R c) ∧ (∀ c ∈ ys',R c):=by
 intro fs
 induction fs with
 | nil=>intro n xs ys ps n' xs' ys' h hx hy; simp [eqFs] at h; obtain ⟨rfl,rfl,rfl,rfl⟩:=h; exact ⟨by simp,hx,hy⟩
 | cons fd fs ih =>
  intro n xs ys ps n' xs' ys' h hx hy
  unfold eqFs at h
  split at h
  ·cases h
  ·split at h
   ·rename_i r s hr hs
    obtain ⟨p1,x1,y1⟩:=r
    simp only at h
    split at h
    ·cases h
    ·rename_i q hq
     obtain ⟨p2,n2,x2,y2⟩:=q
     simp at h
     obtain ⟨rfl,rfl,rfl,rfl⟩:=h
     obtain ⟨g1,g2,g3⟩:=hf _ _ _ _ _ _ hr hx hy
     obtain ⟨k1,k2,k3⟩:=ih _ _ _ _ _ _ _ hq g2 g3
     exact ⟨fun q hq=>(List.mem_append.1 hq).elim (g1 q) (k1 q),k2,k3⟩
   ·cases h
def C.okA (n:Nat):C → Prop
 | .int _ a=>a.ok n
 | .bool a=>a.ok n
 | _=>True
theorem eqW_names {n:Nat}:∀ d t xs ys ps xs' ys',eqW P d t xs ys=some (ps,xs',ys') → (∀ c ∈ xs,C.okA n c) → (∀ c ∈ ys,C.okA n c) → (∀ q ∈ ps,q.1.ok n ∧ q.2.ok n) ∧ (∀ c ∈ xs',C.okA n c) ∧ (∀ c ∈ ys',C.okA n c):=by
 intro d
 induction d with
 | zero=>intro t xs ys ps xs' ys' h; simp [eqW] at h
 | succ d ih =>
  intro t xs ys ps xs' ys' h hx hy
  unfold eqW at h
  split at h
  ·split at h
   ·split at h
    ·simp at h
     obtain ⟨rfl,rfl,rfl⟩:=h
     simp only [List.mem_cons,forall_eq_or_imp] at hx hy
     exact ⟨by simpa using ⟨hx.1,hy.1⟩,hx.2,hy.2⟩
    ·cases h
   ·cases h
  ·split at h
   ·split at h
    ·simp at h
     obtain ⟨rfl,rfl,rfl⟩:=h
     simp only [List.mem_cons,forall_eq_or_imp] at hx hy
     exact ⟨by simpa using ⟨hx.1,hy.1⟩,hx.2,hy.2⟩
    ·cases h
   ·cases h
  ·split at h
   ·exact eqN_ok' (fun xs ys ps xs' ys'=>ih _ xs ys ps xs' ys') _ _ _ _ _ _ h hx hy
   ·cases h
  ·split at h
   ·cases h
   ·split at h
    ·rename_i r hr
     obtain ⟨r1,r2,r3,r4⟩:=r
     split at h
     ·simp at h
      obtain ⟨rfl,rfl,rfl⟩:=h
      exact eqFs_ok' (fun t xs ys ps xs' ys'=>ih t xs ys ps xs' ys') _ _ _ _ _ _ _ _ hr hx hy
     ·cases h
    ·cases h
  ·cases h
theorem Rels.okA {m:M} {nv:Nat} {al:Nat → Bool}:∀ {cs:List C} {vs:List Value},Rels m nv al cs vs → ∀ c ∈ cs,C.okA nv c
 | [],[],_,c,hc=>by cases hc
 | c :: cs,v :: vs,h,d,hd=>by
  rcases List.mem_cons.1 hd with rfl | hd
  ·cases d <;> first | trivial | exact h.1.1.1
  ·exact Rels.okA h.2 d hd
theorem ints_rel {m:M} {nv:Nat} {al:Nat → Bool} {k:IntKind}:∀ {as:List A} {vs:List Value},Rels m nv al (as.map (.int k)) vs → ∀ x ∈ as,x.ok nv ∧ has k (x.ev m.env)
 | [],[],_,x,hx=>by cases hx
 | y :: as,v :: vs,h,x,hx=>by
  rcases List.mem_cons.1 hx with rfl | hx
  ·exact ⟨h.1.1.1,h.1.2.1⟩
  ·exact ints_rel h.2 x hx
theorem ints_names {m:M} {nv nn:Nat} {al:Nat → Bool} {k:IntKind} {as:List A} {vs:List Value} (h:Rels m nv al (as.map (.int k)) vs) (hn:nv ≤ nn):∀ x ∈ as,x.ok nn:=fun x hx=>A.ok_mono (ints_rel h x hx).1 hn
theorem ints_has {m:M} {nv:Nat} {al:Nat → Bool} {k:IntKind} {as:List A} {vs:List Value} (h:Rels m nv al (as.map (.int k)) vs):∀ x ∈ as,has k (x.ev m.env):=fun x hx=>(ints_rel h x hx).2
theorem has_zero (k:IntKind):has k 0:=by cases k <;> simp only [has,lo,hi] <;> omega
theorem sel_has {m:M} {nv:Nat} {al:Nat → Bool} {k:IntKind} {as:List A} {vs:List Value} (h:Rels m nv al (as.map (.int k)) vs) (i:A):KK.has (.int k) ((D.sel i as).ev T m.env):=by
 simp only [KK.has,D.ev,List.getD_eq_getElem?_getD,List.getElem?_map]
 cases hq:as[(i.ev m.env).toNat]? with
 | none=>exact has_zero k
 | some z=>exact ints_has h z (List.mem_of_getElem? hq)
theorem put_gen {e:Nat → Int} {k:IntKind} {i x:A} {nn0:Nat} (hi:i.ok nn0) (hx:x.ok nn0) (hxk:has k (x.ev e)):∀ (as:List A) (j nn:Nat),(∀ y ∈ as,y.ok nn0 ∧ has k (y.ev e)) → ∀ e':Nat → Int,(∀ q,q < nn0 → e' q=e q) → (hn:nn0 ≤ nn:=by omega) → GenOk T e' nn (putDs k i x as j)
 | [],_,_,_,_,_,_=>trivial
 | y :: as,j,nn,hy,e',he,hn=>by
  obtain ⟨y1,y2⟩:=hy y (List.mem_cons_self ..)
  refine ⟨⟨A.ok_mono hi hn,A.ok_mono hx hn,A.ok_mono y1 hn⟩,?_,put_gen hi hx hxk as (j + 1) (nn + 1) (fun z hz=>hy z (List.mem_cons_of_mem _ hz)) _ (fun q hq=>?_) (by omega)⟩
  ·simp only [KK.has,D.ev]
   split
   ·rw [A.ev_congr hx he]; exact hxk
   ·rw [A.ev_congr y1 he]; exact y2
  ·simp only [upd]; rw [if_neg (by omega)]; exact he q hq
theorem range_gen {e:Nat → Int} {nn len:Nat} {y:A} {ds:Defs} (hy:y.ok nn) (hd:∀ e':Nat → Int,(∀ q,q < nn → e' q=e q) → GenOk T e' (nn + 2) ds):GenOk T e nn (inRange y len ++ ds):=by
 refine ⟨⟨trivial,hy⟩,b2i_bit _,⟨A.ok_mono hy (by omega),trivial⟩,b2i_bit _,hd _ fun q hq=>?_⟩
 simp only [upd]; rw [if_neg (by omega),if_neg (by omega)]
theorem tup_gen:∀ (ls:List LL) (e:Nat → Int) (n j z:Nat),z < n → llHas ls ((dec (e z)).drop j) → GenOk T e n (tupDs (.var z) j ls)
 | [],_,_,_,_,_,_=>trivial
 | l :: ls,e,n,j,z,hz,h=>by
  cases hd:(dec (e z)).drop j with
  | nil=>rw [hd] at h; exact h.elim
  | cons x xs =>
   rw [hd] at h
   have e1:(dec (e z)).getD ((j:Nat):Int).toNat 0=x:=by
    rw [Int.toNat_natCast,List.getD_eq_getElem?_getD,← List.head?_drop,hd]; rfl
   have e2:(dec (e z)).drop (j + 1)=xs:=by rw [← List.tail_drop,hd]; rfl
   refine ⟨⟨hz,trivial⟩,?_,tup_gen ls _ (n + 1) (j + 1) z (by omega) ?_⟩
   ·show l.kk.has ((dec (e z)).getD ((j:Nat):Int).toNat 0)
    rw [e1]
    cases l <;> exact h.1
   ·simp only [upd]
    rw [if_neg (by omega),e2]
    exact h.2
theorem shift_gen {e:Nat → Int} {op:BinOp} {k:IntKind} {a b:A} {nn:Nat} (wa:a.ok nn) (wb:b.ok nn) (hh:(KK.int k).has (binE op k (a.ev e) (b.ev e))):GenOk T e nn [(.bit,.cmp .leq (.lit 0) b),(.int k,.bin op k a b)]:=by
 refine ⟨⟨trivial,wb⟩,b2i_bit _,⟨A.ok_mono wa (by omega),A.ok_mono wb (by omega)⟩,?_,trivial⟩
 rw [D.ev_congr (d:=.bin op k a b) (n:=nn) (e:=e) ⟨wa,wb⟩ fun i hi=>by simp [upd]; omega]
 exact hh
theorem llen_gen (h:Rep w0 m σ a w) {id:Nat} {r:Row} (hr:σ.row id=some r) (hnn:σ.nv ≤ nn):GenOk T m.env nn [(.int .i64,.llen r.x0)]:=by
 obtain ⟨q1,q2,q5,q6,q3⟩:=h.row_ok hr
 have q4:=q3.1.1
 refine ⟨A.ok_mono q5.1 hnn,?_,trivial⟩
 simp only [KK.has,D.ev,q6,has,lo,hi]; omega
theorem put2_gen {e:Nat → Int} {k:IntKind} {x y:A} {d:D} (hx:x.ok nn) (hy:y.ok nn) (hxk:has k (x.ev e)) (hyk:has k (y.ev e)) (hd:d.ok nn) (hb:KK.bit.has (d.ev T e)):GenOk T e nn [(.bit,d),(.int k,.put (.var nn) 1 y x)]:=by
 have key:∀ v:Int,(KK.int k).has ((D.put (.var nn) 1 y x).ev T (upd e nn v)):=by
  intro v
  have low:∀ i,i < nn → upd e nn v i=e i:=fun i hi=>by simp [upd]; omega
  simp only [KK.has,D.ev]
  rw [A.ev_congr hx low,A.ev_congr hy low]
  split
  ·exact hyk
  ·exact hxk
 exact ⟨hd,hb,⟨Nat.lt_succ_self _,A.ok_mono hy (by omega),A.ok_mono hx (by omega)⟩,key _,trivial⟩
theorem two_gen (_h:Rep w0 m σ a w) {k k':IntKind} {x y:A} {vs:List Value} (hvr:VRels m σ.nv σ.al [.one (.int k x),.one (.int k' y)] vs) (hnn:σ.nv ≤ nn) (hk:(k == k')=true:=by assumption):GenOk T m.env nn [(.bit,.cmp .lss x y),(.int k,.put (.var nn) 1 y x)]:=by
 have hk:=kind_ok hk
 subst hk
 match vs,hvr with
 | [u,v],hvr =>
  have hx:C.rel m σ.nv σ.al (.int k x) u:=hvr.1
  have hy:C.rel m σ.nv σ.al (.int k y) v:=hvr.2.1
  exact put2_gen (A.ok_mono hx.1.1 hnn) (A.ok_mono hy.1.1 hnn) hx.2.1 hy.2.1 ⟨A.ok_mono hx.1.1 hnn,A.ok_mono hy.1.1 hnn⟩ (b2i_bit _)
theorem two_gen' (_h:Rep w0 m σ a w) {k k':IntKind} {x y:A} {vs:List Value} (hvr:VRels m σ.nv σ.al [.one (.int k x),.one (.int k' y)] vs) (hnn:σ.nv ≤ nn) (hk:(k == k')=true:=by assumption):GenOk T m.env nn [(.bit,.cmp .lss y x),(.int k,.put (.var nn) 1 y x)]:=by
 have hk:=kind_ok hk
 subst hk
 match vs,hvr with
 | [u,v],hvr =>
  have hx:C.rel m σ.nv σ.al (.int k x) u:=hvr.1
  have hy:C.rel m σ.nv σ.al (.int k y) v:=hvr.2.1
  exact put2_gen (A.ok_mono hx.1.1 hnn) (A.ok_mono hy.1.1 hnn) hx.2.1 hy.2.1 ⟨A.ok_mono hy.1.1 hnn,A.ok_mono hx.1.1 hnn⟩ (b2i_bit _)
theorem bnd_ok (h:Rep w0 m σ a w) {o:Option Operand} {l:Option A} (hl:bndA σ o=some l):∀ y,l=some y → y.ok σ.nv:=by
 intro y hy
 unfold bndA at hl
 split at hl
 ·split at hl
  ·rename_i hc
   cases hl
   cases hy
   exact (h.cell hc).1.1
  ·cases hl
 ·cases hl; cases hy
theorem part_gen (h:Rep w0 m σ a w) {id:Nat} {r:Row} (hr:σ.row id=some r) {lo hi:Option Operand} {l h':Option A} (hl:bndA σ lo=some l) (hh:bndA σ hi=some h') {d:A} (hd:∀ z,d.ok (nn + (z + 1)))
  (hp:partP nn id r (l.getD (.lit 0)) (h'.getD d)=.ok p) (hnn:σ.nv ≤ nn):GenOk T m.env nn p.defs:=by
 unfold partP at hp
 cases hp
 obtain ⟨q1,q2,q5,q6,q3⟩:=h.row_ok hr
 have q4:=q3.1.1
 have wl:∀ z,(l.getD (.lit 0)).ok (nn + z):=fun z=>by
  cases l with
  | none=>exact trivial
  | some y=>exact A.ok_mono (bnd_ok h hl y rfl) (by omega)
 have wh:∀ z,(h'.getD d).ok (nn + (z + 1)):=fun z=>by
  cases h' with
  | none=>exact hd z
  | some y=>exact A.ok_mono (bnd_ok h hh y rfl) (by omega)
 refine ⟨A.ok_mono q5.1 hnn,?_,⟨trivial,wl 1⟩,b2i_bit _,⟨wl 2,wh 1⟩,b2i_bit _,⟨wh 2,?_⟩,b2i_bit _,trivial⟩
 ·simp only [KK.has,D.ev,q6,has,Sx.lo,Sx.hi]; omega
 ·show nn < nn + 1 + 1 + 1; omega
theorem plan_gen (h:Rep w0 m σ a w) (hp:plan P T σ nn nid o.op=.ok p) (hnn:σ.nv ≤ nn):GenOk T m.env nn p.defs:=by
  have nodefs:p.defs=[] → GenOk T m.env nn p.defs:=fun e=>by rw [e]; trivial
  cases ho:o.op with
  | binOp op t x y yt =>
    rw [ho] at hp
    simp only [plan] at hp
    split at hp
    · rename_i u v hu hv
      have h1:=h.v_ hu
      have h2:=h.v_ hv
      split at hp
      · rename_i q hq
        cases hp
        obtain ⟨id,r,e,n,rfl,rfl,hr,hut,hn,rfl⟩:=rowNil_spec hq
        obtain ⟨q1,q2,q5,q6,q3⟩:=h.row_ok hr
        have q4:=q3.1.1
        exact ⟨A.ok_mono q5.1 hnn,by simp only [KK.has,D.ev,q6,has,lo,hi]; omega,⟨trivial,show nn < nn + 1 by omega⟩,b2i_bit _,trivial⟩
      rename_i hnone
      clear hnone
      unfold planBin at hp
      split at hp
      · rename_i k a k' b
        have w1:a.ok nn ∧ b.ok nn:=⟨A.ok_mono h1.1.1 hnn,A.ok_mono h2.1.1 hnn⟩
        have hb:∀ op b',(KK.int k).has (binE op k (a.ev m.env) b'):=fun op b'=>binE_has h1.2.1
        have hc:∀ b,KK.bit.has (b2i b):=b2i_bit
        unfold binInt at hp
        split at hp
        all_goals (repeat' split at hp)
        all_goals first
          | (cases hp; done)
          | exact mkP_gen hp w1 (by simp only [D.ev]; exact hb _ _)
          | exact mkP_gen hp w1 (by simp only [D.ev]; exact hc _)
          | (cases hp; exact shift_gen w1.1 w1.2 (hb _ _))
          | (cases hp; exact mk_gen w1 (by simp only [D.ev]; exact hb _ _))
      · rename_i a b
        have w1:a.ok nn ∧ b.ok nn:=⟨A.ok_mono h1.1.1 hnn,A.ok_mono h2.1.1 hnn⟩
        split at hp
        · exact mkP_gen hp w1 (b2i_bit _)
        · exact mkP_gen hp w1 (b2i_bit _)
        · cases hp
      · rename_i a b
        have w1:a.ok nn ∧ b.ok nn:=⟨A.ok_mono h1.1.1 hnn,A.ok_mono h2.1.1 hnn⟩
        split at hp
        · exact mkP_gen hp w1 (b2i_bit _)
        · cases hp
          exact ⟨w1,b2i_bit _,Nat.lt_succ_self nn,not_bit _ _ _,trivial⟩
        · cases hp
      · split at hp
        · cases hp; trivial
        · cases hp; trivial
        · cases hp
      · obtain ⟨vx,hx1,hx2⟩:=h1
        obtain ⟨vy,hy1,hy2⟩:=h2
        split at hp
        · cases hp
        · split at hp
          · rename_i l hl
            have hok:∀ q ∈ l,q.1.ok nn ∧ q.2.ok nn:=fun q hq=>by
              have:=(eqW_names 20 t _ _ _ _ _ hl (Rels.okA hx2) (Rels.okA hy2)).1 q hq
              exact ⟨A.ok_mono this.1 hnn,A.ok_mono this.2 hnn⟩
            split at hp
            · exact mkP_gen hp hok (b2i_bit _)
            · split at hp
              · cases hp; trivial
              · cases hp
                exact ⟨hok,b2i_bit _,Nat.lt_succ_self nn,not_bit _ _ _,trivial⟩
            · cases hp
          · cases hp
      · repeat' split at hp
        all_goals (first | (cases hp; done) | (unfold okP at hp; cases hp; trivial))
      · cases hp
    · cases hp
  | unOp op t x =>
    rw [ho] at hp
    simp only [plan] at hp
    split at hp
    · rename_i hx
      have h1:=h.cell hx
      exact mkP_gen hp (A.ok_mono h1.1.1 hnn) (not_bit _ _ _)
    · rename_i hx
      have h1:=h.cell hx
      exact mkP_gen hp ⟨trivial,A.ok_mono h1.1.1 hnn⟩ (wr_has _ _)
    · rename_i hx
      have h1:=h.cell hx
      exact mkP_gen hp ⟨trivial,A.ok_mono h1.1.1 hnn⟩ (wr_has _ _)
    · cases hp
  | convert s d x =>
    rw [ho] at hp
    simp only [plan] at hp
    split at hp
    · rename_i hx
      have h1:=h.cell hx
      split at hp
      · unfold okP at hp; cases hp; trivial
      · exact mkP_gen hp (A.ok_mono h1.1.1 hnn) (wr_has _ _)
    · rename_i e c hs hu hx
      have h1:=h.cell hx
      split at hp
      · rename_i ds y he htk
        cases hp
        exact ((takeSh_ok (T:=T) htk h (u:=a.eval x) h1).1 hnn).1
      · cases hp
    · cases hp
  | call c =>
    rw [ho] at hp
    simp only [plan] at hp
    split at hp
    · cases hp
    · rename_i args hargs
      have hvr:=args_ok h _ _ hargs
      split at hp
      · repeat' split at hp
        all_goals first
          | (cases hp; done)
          | (unfold okP at hp; cases hp; trivial)
          | (rename_i r hr
             cases hp
             exact llen_gen h hr hnn)
      · repeat' split at hp
        all_goals first
          | (cases hp; done)
          | (rename_i r hr hf
             cases hp
             exact llen_gen h hr hnn)
      · split at hp
        · split at hp
          · cases hp
            exact two_gen h hvr hnn
          · cases hp
        · cases hp
      · split at hp
        · split at hp
          · cases hp
            exact two_gen' h hvr hnn
          · cases hp
        · cases hp
      · split at hp
        · rename_i g hg
          cases hp
          exact cat_gen h (by rw [ho]; exact hg) hnn
        · cases hp
      · cases hp
      · cases hp
      · split at hp
        · rename_i f caps hx
          have hfx:=h.cell hx
          split at hp
          · split at hp
            · cases hp
            · rename_i d hdi
              split at hp
              · cases hp
              · cases hp
                have hall:VRels m σ.nv σ.al (args ++ caps.map fun p=>V.one (.ptr p.1 p.2)) (c.args.toList.map a.eval ++ caps.map fun p=>Value.pointer (some (m.at p.1 p.2))):=by
                  refine hvr.append ?_
                  have hc:=hfx.1
                  clear hdi hfx hx
                  induction caps with
                  | nil=>trivial
                  | cons q caps ih=>exact ⟨⟨hc q (List.mem_cons_self ..),rfl⟩,ih fun z hz=>hc z (List.mem_cons_of_mem _ hz)⟩
                exact ((takeIns_ok (T:=T) _ _ _ _ _ hdi h hall).1 hnn).1
          · cases hp
        · cases hp
  | load t x =>
    rw [ho] at hp
    simp only [plan] at hp
    split at hp
    · repeat' split at hp
      all_goals (first | (cases hp; done) | (unfold okP at hp; cases hp; trivial) | (cases hp; trivial))
    · rename_i id off i n hx
      have h1:=h.cell hx
      split at hp
      · rename_i b d hb hdt
        split at hp
        · cases hp
        · split at hp
          · rename_i r hr
            split at hp
            · rename_i hl
              cases hp
              have hcs:=intsOf_ok hr
              have hl':r.2.length=n:=by simpa using hl
              have hen:n ≤ (b.cells.drop off).length:=by
                have:=congrArg List.length hcs
                rw [List.length_map,hl',List.length_take] at this
                omega
              obtain ⟨vs,hvl,hrel,hv⟩:=h.reads hb off n hen
              rw [hcs] at hrel
              exact ⟨⟨A.ok_mono h1.2.1.1 hnn,ints_names hrel hnn⟩,sel_has hrel _,trivial⟩
            · cases hp
          · cases hp
      · cases hp
    · rename_i id i k hx
      have h1:=h.cell hx
      split at hp
      · rename_i r d n hr hdt hn
        split at hp
        · rename_i hc
          have e2:=LKeq_ok hc
          subst e2
          obtain ⟨q1,q2,_,_,q3⟩:=h.row_ok hr
          have hi:(i.ev m.env).toNat < (dec (A.ev m.env r.x)).length:=by have:=h1.2.2.1; rw [q3.lenV] at this; omega
          have hz:r.k.has ((dec (A.ev m.env r.x)).getD (i.ev m.env).toNat 0):=by
            refine q3.1.2 _ ?_
            rw [List.getD_eq_getElem?_getD,List.getElem?_eq_getElem hi]
            exact List.getElem_mem hi
          have wok:(D.lget r.x i).ok nn:=⟨A.ok_mono q2.1 hnn,A.ok_mono h1.2.1.1 hnn⟩
          unfold loadRow at hp
          split at hp
          · rename_i hk
            rw [hk] at hz
            split at hp
            · cases hp; exact ⟨wok,hz,trivial⟩
            · cases hp
          · rename_i kk hk
            rw [hk] at hz
            split at hp
            · cases hp
            · cases hp; exact ⟨wok,hz,trivial⟩
          · rename_i l0 ls hk
            rw [hk] at hz
            split at hp
            · cases hp
              refine ⟨wok,trivial,tup_gen (l0 :: ls) _ (nn + 1) 0 nn (by omega) ?_⟩
              simp only [upd,if_true,List.drop_zero]
              exact hz
            · cases hp
        · cases hp
      · cases hp
    · cases hp
  | store t x y =>
    rw [ho] at hp
    simp only [plan] at hp
    split at hp
    · repeat' split at hp
      all_goals (first | (cases hp; done) | (unfold okP at hp; cases hp; trivial) | (cases hp; trivial))
    · rename_i id off i n k x' hx hy
      have h1:=h.cell hx
      have h2:C.rel m σ.nv σ.al (.int k x') (a.eval y):=h.v_ hy
      split at hp
      · rename_i b hb hn
        split at hp
        · rename_i r hr
          split at hp
          · rename_i hc
            simp only [Bool.and_eq_true,beq_iff_eq] at hc
            obtain ⟨⟨hc1,hc2⟩,hc3⟩:=hc
            cases hp
            have hcs:=intsOf_ok hr
            have hen:n ≤ (b.cells.drop off).length:=by
              have:=congrArg List.length hcs
              rw [List.length_map,hc2,List.length_take] at this
              omega
            obtain ⟨vs,hvl,hrel,hv⟩:=h.reads hb off n hen
            rw [hcs] at hrel
            have hkk:r.1=k:=hc3
            rw [hkk] at hrel
            exact put_gen (A.ok_mono h1.2.1.1 hnn) (A.ok_mono h2.1.1 hnn) h2.2.1 _ _ _ (fun y hy=>⟨ints_names hrel hnn y hy,ints_has hrel y hy⟩) _ (fun _ _=>rfl)
          · cases hp
        · cases hp
      · cases hp
    · rename_i id i k v hx hy
      have h1:=h.cell hx
      split at hp
      · rename_i r s hr hs
        split at hp
        · rename_i hc
          simp only [Bool.and_eq_true,beq_iff_eq] at hc
          obtain ⟨⟨⟨hc1,hc2⟩,hc3⟩,hc4⟩:=hc
          have hk:=LKeq_ok hc2
          subst hk
          split at hp
          · rename_i ds y htk
            cases hp
            obtain ⟨q1,q2,q5,q6,q3⟩:=h.row_ok hr
            obtain ⟨vs,g1,g2,g3⟩:=V.rel_cells (h.v_ hy) hc4
            obtain ⟨k1,k3⟩:=takeK_ok (T:=T) htk m σ.nv vs g2
            obtain ⟨k1,k4⟩:=k1 hnn
            refine gen_append _ _ _ _ k1 fun e' he ht=>⟨⟨A.ok_mono q2.1 (by omega),A.ok_mono h1.2.1.1 (by omega),k4⟩,?_,trivial⟩
            obtain ⟨v1,v2⟩:=k3 e' (fun i hi=>he i (by omega)) ht
            simp only [KK.has,D.ev,dec_enc]
            rw [A.ev_congr q2.1 (fun i hi=>he i (by omega))]
            refine ⟨by rw [List.length_set]; exact q3.1.1,fun x hx=>?_⟩
            rcases List.mem_or_eq_of_mem_set hx with h2 | h2
            · exact q3.1.2 x h2
            · rw [h2]; exact v2
          · cases hp
        · cases hp
      · cases hp
    · cases hp
  | indexAddr t x i =>
    rw [ho] at hp
    simp only [plan] at hp
    split at hp
    · repeat' split at hp
      all_goals (first | (cases hp; done) | (unfold okP at hp; cases hp; trivial))
    · repeat' split at hp
      all_goals (first | (cases hp; done) | (unfold okP at hp; cases hp; trivial))
    · split at hp
      · rename_i k y hy hs
        cases hp
        have h2:=h.cell hy
        exact (range_gen (ds:=[]) (A.ok_mono h2.1.1 hnn) fun _ _=>trivial)
      · cases hp
    · split at hp
      · rename_i k y hy hs
        cases hp
        have h2:=h.cell hy
        exact (range_gen (ds:=[]) (A.ok_mono h2.1.1 hnn) fun _ _=>trivial)
      · cases hp
    · rename_i e id hu hx
      split at hp
      · rename_i r k y s hr hy hs
        split at hp
        · cases hp
          have h2:=h.cell hy
          obtain ⟨q1,q2,q5,q6,q3⟩:=h.row_ok hr
          have w1:=A.ok_mono h2.1.1 hnn
          have q4:=q3.1.1
          refine ⟨A.ok_mono q5.1 hnn,?_,⟨trivial,A.ok_mono w1 (by omega)⟩,b2i_bit _,⟨A.ok_mono w1 (by omega),?_⟩,b2i_bit _,trivial⟩
          · simp only [KK.has,D.ev,q6,has,lo,hi]; omega
          · show nn < nn + 1 + 1; omega
        · cases hp
      · cases hp
    · rename_i e id lo' hi' k' hu hx
      obtain ⟨b1,b2,b3,b4,b5,b6⟩:=h.cell hx
      split at hp
      · rename_i r k y s hr hy hs
        split at hp
        · cases hp
          have h2:=h.cell hy
          have w1:=A.ok_mono h2.1.1 hnn
          exact ⟨⟨trivial,w1⟩,b2i_bit _,⟨A.ok_mono w1 (by omega),A.ok_mono b3.1 (by omega)⟩,b2i_bit _,trivial⟩
        · cases hp
      · cases hp
    · cases hp
  | slice t x lo hi mx =>
    rw [ho] at hp
    simp only [plan] at hp
    split at hp
    · cases hp
    · split at hp
      · split at hp
        · repeat' split at hp
          all_goals (first | (cases hp; done) | (unfold okP at hp; cases hp; trivial))
        · split at hp
          · rename_i y s hy hs _
            cases hp
            have w1:y.ok nn:=by
              obtain ⟨bh1,bh2⟩:=bndA_ok h hy
              cases hi with
              | none=>cases bh2 rfl
              | some z =>
                obtain ⟨y',k,e1,e2,e3⟩:=bh1 _ rfl
                cases e1
                exact A.ok_mono e2.1 hnn
            exact ⟨⟨trivial,w1⟩,b2i_bit _,⟨A.ok_mono w1 (by omega),trivial⟩,b2i_bit _,trivial⟩
          · cases hp
      · repeat' split at hp
        all_goals (first | (cases hp; done) | (unfold okP at hp; cases hp; trivial))
      · rename_i e id hu hx
        split at hp
        · rename_i r l h' s hr hl hh hs
          split at hp
          · exact part_gen h hr hl hh (d:=.var nn) (fun z=>by show nn < nn + (z + 1); omega) hp hnn
          · cases hp
        · cases hp
      · rename_i e id lo' hi' k hu hx
        obtain ⟨b1,b2,b3,b4,b5,b6⟩:=h.cell hx
        split at hp
        · rename_i r l h' s hr hl hh hs
          split at hp
          · exact part_gen h hr hl hh (d:=hi') (fun z=>A.ok_mono b3.1 (by omega)) hp hnn
          · cases hp
        · cases hp
      · cases hp
  | index t x i =>
    rw [ho] at hp
    simp only [plan] at hp
    split at hp
    · simp only [partC,okP] at hp
      repeat' split at hp
      all_goals (first | (cases hp; done) | (cases hp; trivial))
    · rename_i len e cs hu hx hi
      obtain ⟨vs,h1,hr⟩:=h.v_ hx
      split at hp
      · rename_i k y d r hy hdt hs hin
        split at hp
        · cases hp
        · cases hp
          have h2:=h.cell hy
          rw [intsOf_ok hin] at hr
          have w1:=A.ok_mono h2.1.1 hnn
          refine range_gen w1 fun e' he=>⟨⟨A.ok_mono w1 (by omega),fun z hz=>A.ok_mono (ints_names hr hnn z hz) (by omega)⟩,?_,trivial⟩
          rw [D.ev_congr (d:=.sel y r.2) (n:=nn) ⟨w1,ints_names hr hnn⟩ he]; exact sel_has hr _
      · cases hp
    · split at hp
      · cases hp; trivial
      · cases hp
    · rename_i s hu hx hidx
      split at hp
      · rename_i k y hy
        cases hp
        have h2:=h.cell hy
        have w1:=A.ok_mono h2.1.1 hnn
        have hl:∀ z ∈ bytesA s,∃ b:UInt8,z=.lit b.toNat:=fun z hz=>by
          obtain ⟨b,_,rfl⟩:=List.mem_map.1 hz
          exact ⟨b,rfl⟩
        refine range_gen w1 fun e' he=>⟨⟨A.ok_mono w1 (by omega),fun z hz=>by obtain ⟨b,rfl⟩:=hl z hz; trivial⟩,?_,trivial⟩
        simp only [KK.has,D.ev,List.getD_eq_getElem?_getD,List.getElem?_map]
        cases hq:(bytesA s)[(A.ev e' y).toNat]? with
        | none=>exact has_zero _
        | some z =>
          obtain ⟨b,rfl⟩:=hl z (List.mem_of_getElem? hq)
          simp only [Option.map_some,Option.getD_some,A.ev,has,lo,hi]; have:=b.toNat_lt; omega
      · cases hp
    · cases hp
  | buildSlice t len ps =>
    refine nodefs ?_
    rw [ho] at hp
    simp only [plan] at hp
    split at hp
    · rename_i q he
      cases hp
      obtain ⟨_,_,_,_,_,_,_,_,rfl⟩:=empty_spec he
      rfl
    · repeat' split at hp
      all_goals (first | (cases hp; done) | (cases hp; rfl))
  | _ =>
    refine nodefs ?_
    rw [ho] at hp
    simp only [plan,okP,partC] at hp
    repeat' split at hp
    all_goals (first | (cases hp; done) | (cases hp; rfl))
theorem plan_post (hT:∀ (g:Nat) κ,T[g]?=some κ → κ.ok P) (h:Rep w0 m σ a w) (hp:plan P T σ nn nid o.op=.ok p) (hnn:σ.nv ≤ nn) {e:Nat → Int} (he:∀ i,i < nn → e i=m.env i) (ht:Told T e nn p.defs)
  (hr:∀ q ∈ p.reqs,match T[q.1]? with | some κ=>κ.pre (q.2.map (·.ev e)) | none=>False) (hz:∀ x ∈ p.nz,x.ev e ≠ 0):GenOk T e (nn + p.defs.length) p.post:=by
 have nodefs:p.post=[] → GenOk T e (nn + p.defs.length) p.post:=fun e=>by rw [e]; trivial
 cases ho:o.op with
 | call c =>
  rw [ho] at hp
  simp only [plan] at hp
  split at hp
  ·cases hp
  ·rename_i args hargs
   have hvr:=args_ok h _ _ hargs
   split at hp
   ·repeat' split at hp
    all_goals (first | (cases hp; done) | (unfold okP at hp; cases hp; trivial) | (cases hp; trivial))
   ·repeat' split at hp
    all_goals (first | (cases hp; done) | (cases hp; trivial))
   ·repeat' split at hp
    all_goals (first | (cases hp; done) | (cases hp; trivial))
   ·repeat' split at hp
    all_goals (first | (cases hp; done) | (cases hp; trivial))
   ·split at hp
    ·rename_i g hg
     cases hp
     exact cat_post h (by rw [ho]; exact hg) hnn he ht (hz (.var (nn + (g.defs.length + 1))) (by simp [catPl])) (hz (.var (nn + (g.defs.length + 3))) (by simp [catPl]))
    ·cases hp
   ·cases hp
   ·cases hp
   ·split at hp
    ·rename_i f caps hx
     have hfx:=h.cell hx
     split at hp
     ·rename_i g κ hfk
      obtain ⟨hg,hfn⟩:=findK_ok T T 0 g κ (fun i=>by rw [Nat.zero_add]) hfk
      split at hp
      ·cases hp
      ·rename_i d hdi
       obtain ⟨d1,d2⟩:=d
       split at hp
       ·cases hp
       ·rename_i q hqo
        obtain ⟨q1,q2,q3⟩:=q
        cases hp
        simp only at ht hr ⊢
        have hall:VRels m σ.nv σ.al (args ++ caps.map fun p=>V.one (.ptr p.1 p.2)) (c.args.toList.map a.eval ++ caps.map fun p=>Value.pointer (some (m.at p.1 p.2))):=by
         refine hvr.append ?_
         have hc:=hfx.1
         clear hqo hdi hfx hx
         induction caps with
         | nil=>trivial
         | cons q caps ih=>exact ⟨⟨hc q (List.mem_cons_self ..),rfl⟩,ih fun z hz=>hc z (List.mem_cons_of_mem _ hz)⟩
        have hti:=takeIns_ok (T:=T) _ _ _ _ _ hdi h hall
        have hins:=hti.2 e (fun i hi=>he i (by omega)) ht
        have hpre:κ.pre (d2.map (·.ev e)):=by
         have:=hr (g,d2) (List.mem_singleton.2 rfl)
         simpa [hg] using this
        have hok:=hT g κ hg w _ _ hins hpre
        have hout:∃ us n0 w',outsRel n0 w' κ.outs (κ.sem (d2.map (·.ev e))) us:=by
         cases hext:κ.ext with
         | true =>
          rw [hext] at hok
          simp only [if_true] at hok
          obtain ⟨us,_,h2⟩:=hok
          exact ⟨us,_,_,h2⟩
         | false =>
          rw [hext] at hok
          simp only [Bool.false_eq_true,if_false] at hok
          obtain ⟨_,_,_,⟨us,_,h2,_⟩,_⟩:=hok.2 []
          exact ⟨us,_,_,h2⟩
        obtain ⟨us,n0,w',hout⟩:=hout
        exact putK_gen (T:=T) hg hqo _ us (hti.1 hnn).2 hout e (fun i y hi=>by rw [Nat.zero_add,List.getD_eq_getElem?_getD,hi]; rfl)
     ·cases hp
    ·cases hp
 | buildSlice t len ps =>
  refine nodefs ?_
  rw [ho] at hp
  simp only [plan] at hp
  split at hp
  ·rename_i q he
   cases hp
   obtain ⟨_,_,_,_,_,_,_,_,rfl⟩:=empty_spec he
   rfl
  ·repeat' split at hp
   all_goals (first | (cases hp; done) | (cases hp; rfl))
 | _ =>
  refine nodefs ?_
  rw [ho] at hp
  simp only [plan,okP,partC,planBin,binInt,mkP,loadRow,partP] at hp
  repeat' split at hp
  all_goals (first | (cases hp; done) | (cases hp; rfl) | (cases hp; rename_i hq; obtain ⟨_,_,_,_,_,_,_,_,_,rfl⟩:=rowNil_spec hq; rfl))
end
end Go.Sx

namespace Go.Sx
open Go Go.RowKit
theorem gen_ok {T:List K}:∀ (ds:Defs) (e:Nat → Int) (nn:Nat),GenOk T e nn ds → ∀ (i:Nat) kk d,ds[i]?=some (kk,d) → d.ok (nn + i):=by
 intro ds
 induction ds with
 | nil=>intro e nn _ i kk d h; simp at h
 | cons x ds ih =>
  intro e nn h i kk d hi
  obtain ⟨k0,d0⟩:=x
  cases i with
  | zero=>simp at hi; obtain ⟨rfl,rfl⟩:=hi; exact h.1
  | succ i=>have:=ih _ _ h.2.2 i kk d (by simpa using hi); rwa [show nn + 1 + i=nn + (i + 1) by omega] at this
theorem told_congr {T:List K} {ds:Defs} {e e':Nat → Int} {nn:Nat} (hok:∀ (i:Nat) kk d,ds[i]?=some (kk,d) → d.ok (nn + i)) (h:Told T e nn ds) (he:∀ i,i < nn + ds.length → e' i=e i):Told T e' nn ds:=by
 intro i kk d hi
 have hl:=(List.getElem?_eq_some_iff.1 hi).1
 have h1:=h i kk d hi
 rw [he (nn + i) (by omega),D.ev_congr (hok i kk d hi) fun j hj=>he j (by omega)]
 exact h1
section
variable {P:Program} {T:List K} {w0:World} {m:M} {σ:St} {a:Act} {w:World} {o:Oper} {nn nid:Nat} {p:Plan} {K:Act → World → Prop} {Q:Exit → Act → World → Prop} {goal:Gl} {t:Tree}
theorem takeSh_nv (nv':Nat) (nn:Nat) (s:Sh) (v:V):takeSh {σ with nv:=nv' } nn s v=takeSh σ nn s v:=by
 cases s <;> cases v <;> (try rfl)
theorem takeIns_nv (nv':Nat):∀ (ss:List Sh) (vs:List V) (nn:Nat),takeIns {σ with nv:=nv' } nn ss vs=takeIns σ nn ss vs:=by
 intro ss
 induction ss with
 | nil=>intro vs nn; cases vs <;> rfl
 | cons s ss ih=>intro vs nn; cases vs with
  | nil=>rfl
  | cons v vs=>simp only [takeIns,takeSh_nv,ih]
theorem catP_nv (nv':Nat) (op:Op):catP P {σ with nv:=nv' } nn op=catP P σ nn op:=by
 simp only [catP,srcK,takeSh_nv]; rfl
theorem plan_nv (nv':Nat) (op:Op):plan P T {σ with nv:=nv' } nn nid op=plan P T σ nn nid op:=by
 cases op with
 | call c=>simp only [plan,takeIns_nv,catP_nv]; rfl
 | _=>rfl
theorem plan_atoms (h:Rep w0 m σ a w) (hp:plan P T σ nn nid o.op=.ok p) (hnn:σ.nv ≤ nn):(∀ q ∈ p.reqs,∀ x ∈ q.2,x.ok (nn + p.defs.length)) ∧ ∀ x ∈ p.nz,x.ok (nn + p.defs.length):=by
 have non:p.reqs=[] → p.nz=[] → (∀ q ∈ p.reqs,∀ x ∈ q.2,x.ok (nn + p.defs.length)) ∧ ∀ x ∈ p.nz,x.ok (nn + p.defs.length):=fun e1 e2=>by rw [e1,e2]; simp
 cases ho:o.op with
 | call c =>
  rw [ho] at hp
  simp only [plan] at hp
  split at hp
  ·cases hp
  ·rename_i args hargs
   have hvr:=args_ok h _ _ hargs
   split at hp
   ·repeat' split at hp
    all_goals (first | (cases hp; done) | (unfold okP at hp; cases hp; simp) | (cases hp; simp))
   ·repeat' split at hp
    all_goals (first | (cases hp; done) | (cases hp; simp))
   ·repeat' split at hp
    all_goals (first | (cases hp; done) | (cases hp; simp))
   ·repeat' split at hp
    all_goals (first | (cases hp; done) | (cases hp; simp))
   ·split at hp
    ·rename_i g hg
     cases hp
     refine ⟨by simp [catPl],fun x hx=>?_⟩
     simp only [catPl,List.mem_cons,List.not_mem_nil,or_false] at hx
     rcases hx with rfl | rfl <;> (simp only [A.ok,catPl,catD,List.length_append,List.length_cons,List.length_nil]; omega)
    ·cases hp
   ·cases hp
   ·cases hp
   ·split at hp
    ·rename_i f caps hx
     have hfx:=h.cell hx
     split at hp
     ·split at hp
      ·cases hp
      ·rename_i d hdi
       split at hp
       ·cases hp
       ·cases hp
        have hall:VRels m σ.nv σ.al (args ++ caps.map fun p=>V.one (.ptr p.1 p.2)) (c.args.toList.map a.eval ++ caps.map fun p=>Value.pointer (some (m.at p.1 p.2))):=by
         refine hvr.append ?_
         have hc:=hfx.1
         clear hdi hfx hx
         induction caps with
         | nil=>trivial
         | cons q caps ih=>exact ⟨⟨hc q (List.mem_cons_self ..),rfl⟩,ih fun z hz=>hc z (List.mem_cons_of_mem _ hz)⟩
        refine ⟨fun q hq=>?_,by simp⟩
        rw [List.mem_singleton.1 hq]
        exact ((takeIns_ok (T:=T) _ _ _ _ _ hdi h hall).1 hnn).2
     ·cases hp
    ·cases hp
 | binOp op t x y yt =>
  rw [ho] at hp
  simp only [plan] at hp
  split at hp
  ·rename_i u v hu hv
   have h1:=h.v_ hu
   have h2:=h.v_ hv
   split at hp
   ·rename_i q hq
    cases hp
    obtain ⟨id,r,e,n,rfl,rfl,hr,hut,hn,rfl⟩:=rowNil_spec hq
    exact ⟨by simp,by simp [A.ok]⟩
   rename_i hnone
   clear hnone
   unfold planBin at hp
   split at hp
   ·rename_i k a k' b
    have w1:∀ z,b.ok (nn + z):=fun z=>A.ok_mono h2.1.1 (by omega)
    simp only [binInt,mkP] at hp
    repeat' split at hp
    all_goals (first | (cases hp; done) | (cases hp; exact non rfl rfl) | (cases hp; exact ⟨by simp,by simpa using w1 _⟩) | (cases hp; exact ⟨by simp,by simp [A.ok]⟩))
   all_goals
    try simp only [mkP,okP] at hp
    repeat' split at hp
    all_goals (first | (cases hp; done) | (cases hp; exact non rfl rfl))
  ·cases hp
 | indexAddr t x i =>
  rw [ho] at hp
  simp only [plan,okP] at hp
  repeat' split at hp
  all_goals (first | (cases hp; done) | (cases hp; exact non rfl rfl) | (cases hp; exact ⟨by simp,by simp [inRange,inRow,inView,A.ok]⟩))
 | index t x i =>
  rw [ho] at hp
  simp only [plan,okP,partC] at hp
  repeat' split at hp
  all_goals (first | (cases hp; done) | (cases hp; exact non rfl rfl) | (cases hp; exact ⟨by simp,by simp [inRange,A.ok]⟩))
 | slice t x lo hi mx =>
  rw [ho] at hp
  simp only [plan,okP,partP] at hp
  repeat' split at hp
  all_goals (first | (cases hp; done) | (cases hp; exact non rfl rfl) | (cases hp; exact ⟨by simp,by simp [A.ok,inView']⟩))
 | buildSlice t len ps =>
  refine (fun (q:p.reqs=[] ∧ p.nz=[])=>non q.1 q.2) ?_
  rw [ho] at hp
  simp only [plan] at hp
  split at hp
  ·rename_i q he
   cases hp
   obtain ⟨_,_,_,_,_,_,_,_,rfl⟩:=empty_spec he
   exact ⟨rfl,rfl⟩
  ·repeat' split at hp
   all_goals (first | (cases hp; done) | (cases hp; exact ⟨rfl,rfl⟩))
 | _ =>
  rw [ho] at hp
  simp only [plan,okP,partC,mkP,loadRow] at hp
  repeat' split at hp
  all_goals (first | (cases hp; done) | (cases hp; exact non rfl rfl))
theorem reqs_holds {e:Nat → Int}:∀ (l:List (Nat × List A)),(reqs l t).holds T goal e → (∀ q ∈ l,match T[q.1]? with | some κ=>κ.pre (q.2.map (·.ev e)) | none=>False) ∧ t.holds T goal e:=by
 intro l
 induction l with
 | nil=>intro h; exact ⟨by simp,h⟩
 | cons q l ih =>
  intro h
  obtain ⟨g,as⟩:=q
  obtain ⟨h1,h2⟩:=h
  obtain ⟨g1,g2⟩:=ih h2
  exact ⟨by simp only [List.mem_cons,forall_eq_or_imp]; exact ⟨h1,g1⟩,g2⟩
theorem nzs_holds {e:Nat → Int}:∀ (l:List A),(nzs l t).holds T goal e → (∀ x ∈ l,x.ev e ≠ 0) ∧ t.holds T goal e:=by
 intro l
 induction l with
 | nil=>intro h; exact ⟨by simp,h⟩
 | cons q l ih =>
  intro h
  obtain ⟨h1,h2⟩:=h
  obtain ⟨g1,g2⟩:=ih h2
  exact ⟨by simp only [List.mem_cons,forall_eq_or_imp]; exact ⟨h1,g1⟩,g2⟩
structure Fine (T:List Sx.K) (e:Nat → Int) (nn:Nat) (p:Plan):Prop where
 defs:Told T e nn p.defs
 post:Told T e (nn + p.defs.length) p.post
 nz:∀ x ∈ p.nz,x.ev e ≠ 0
 req:∀ q ∈ p.reqs,match T[q.1]? with | some κ=>κ.pre (q.2.map (·.ev e)) | none=>False
theorem plan_env (hT:∀ (g:Nat) κ,T[g]?=some κ → κ.ok P) (h:Rep w0 m σ a w) (hp:plan P T σ nn nid o.op=.ok p) (hnn:σ.nv ≤ nn) (hh:(planT nn p t).holds T goal m.env) :
  ∃ e,(∀ i,i < nn → e i=m.env i) ∧ Fine T e nn p ∧ t.holds T goal e ∧ (∀ i,nn + p.defs.length + p.post.length ≤ i → e i=m.env i):=by
 unfold planT at hh
 have g1:=plan_gen h hp hnn
 obtain ⟨e1,a1,a2,a3,a4⟩:=letts_holds _ _ _ hh g1
 obtain ⟨r1,r2⟩:=reqs_holds _ a4
 obtain ⟨z1,z2⟩:=nzs_holds _ r2
 have g2:=plan_post hT h hp hnn a1 a3 r1 z1
 obtain ⟨e2,b1,b2,b3,b4⟩:=letts_holds _ _ _ z2 g2
 obtain ⟨at1,at2⟩:=plan_atoms h hp hnn
 refine ⟨e2,fun i hi=>(b1 i (by omega)).trans (a1 i hi),⟨told_congr (gen_ok _ _ _ g1) a3 fun i hi=>b1 i hi,b3,fun x hx=>?_,fun q hq=>?_⟩,b4,fun i hi=>(b2 i hi).trans (a2 i (by omega))⟩
 ·rw [A.ev_congr (at2 x hx) fun i hi=>b1 i (by omega)]; exact z1 x hx
 ·have:=r1 q hq
  rw [map_ev_congr (at1 q hq) fun i hi=>b1 i hi]; exact this
theorem op_step (hT:∀ (g:Nat) κ,T[g]?=some κ → κ.ok P) (h:Rep w0 m σ a w) (hp:plan P T σ nn nid o.op=.ok p) (hnn:σ.nv ≤ nn) (hn:isNew p.eff=true → σ.boxes[nid]?=some none)
  (nv':Nat) (hnv:nn + p.defs.length + p.post.length ≤ nv') (hh:(planT nn p t).holds T goal m.env)
  (hK:∀ m' a' w',(∀ i,i < nn → m'.env i=m.env i) → Fine T m'.env nn p → MExt m σ.nv σ.al m' nv' (applyP {σ with nv:=nv' } p nid o.dst).al → Rep w0 m' (applyP {σ with nv:=nv' } p nid o.dst) a' w' → t.holds T goal m'.env → K a' w'):o.wp P a w K Q:=by
 obtain ⟨e,he,hf,ht,_⟩:=plan_env hT h hp hnn hh
 have hr:=h.names e (fun i hi=>he i (by omega)) nv' (by omega)
 have hx:MExt m σ.nv σ.al {m with env:=e } nv' σ.al:=⟨fun i hi=>he i (by omega),fun _ _=>rfl,rfl,fun _ _=>rfl,by omega,fun _ h=>h⟩
 refine op_exec hT hr (by rw [plan_nv]; exact hp) hn hf.defs hf.post hnv hf.nz hf.req fun m' a' w' h1 h2 h3=>?_
 have h1':m'.env=e:=h1
 exact hK m' a' w' (by rw [h1']; exact he) (by rw [h1']; exact hf) (hx.trans h2) h3 (by rw [h1']; exact ht)
end
end Go.Sx

namespace Go.Sx
open Go Go.RowKit
def C.okN (N:Nat) (al:Nat → Bool):C → Prop
 | .int _ a=>a.ok N
 | .bool a=>a.ok N
 | .ptr id _=>al id=true
 | .slice id _ _ _=>al id=true
 | .fn _ caps=>∀ p ∈ caps,al p.1=true
 | .ptrS id _ i _=>al id=true ∧ i.ok N
 | .sl id=>al id=true
 | .lp id i _=>al id=true ∧ i.ok N
 | .slv id lo hi _=>al id=true ∧ lo.ok N ∧ hi.ok N
 | .sv a=>a.ok N
 | .slS id _ hi _=>al id=true ∧ hi.ok N
 | _=>True
def V.okN (N:Nat) (al:Nat → Bool) (v:V):Prop:=∀ c ∈ v.cells,C.okN N al c
def SV.okN (N:Nat) (al:Nat → Bool):SV → Prop
 | .vl v=>v.okN N al
 | .tup l=>∀ v ∈ l,v.okN N al
section
variable {m:M} {nv:Nat} {al:Nat → Bool}
theorem C.rel_okN {c:C} {v:Value} (h:c.rel m nv al v):c.okN nv al:=by
 cases c <;> simp only [C.rel] at h <;> simp only [C.okN]
 case int=>exact h.1.1
 case bool=>exact h.1.1
 case ptr=>exact h.1
 case slice=>exact h.1
 case fn=>exact h.1
 case ptrS=>exact ⟨h.1,h.2.1.1⟩
 case sl=>exact h.1
 case lp=>exact ⟨h.1,h.2.1.1⟩
 case slv=>exact ⟨h.1,h.2.1.1,h.2.2.1.1⟩
 case sv=>exact h.1.1
 case slS=>exact ⟨h.1,h.2.1.1⟩
theorem Rels.okN:∀ {cs:List C} {vs:List Value},Rels m nv al cs vs → ∀ c ∈ cs,C.okN nv al c
 | [],[],_,c,hc=>by cases hc
 | c :: cs,v :: vs,h,d,hd=>by
  rcases List.mem_cons.1 hd with rfl | hd
  ·exact C.rel_okN h.1
  ·exact Rels.okN h.2 d hd
theorem V.rel_okN {x:V} {v:Value} (h:x.rel m nv al v):x.okN nv al:=by
 cases x with
 | one c=>intro d hd; simp only [V.cells,List.mem_singleton] at hd; subst hd; exact C.rel_okN h
 | agg cs=>obtain ⟨vs,_,hr⟩:=h; exact Rels.okN hr
theorem VRels.okN:∀ {l:List V} {vs:List Value},VRels m nv al l vs → ∀ v ∈ l,v.okN nv al
 | [],[],_,c,hc=>by cases hc
 | c :: cs,v :: vs,h,d,hd=>by
  rcases List.mem_cons.1 hd with rfl | hd
  ·exact V.rel_okN h.1
  ·exact VRels.okN h.2 d hd
theorem SV.rel_okN {x:SV} {v:Value} (h:x.rel m nv al v):x.okN nv al:=by
 cases x with
 | vl x=>exact V.rel_okN h
 | tup l=>obtain ⟨vs,_,hr⟩:=h; exact VRels.okN hr
variable {N nv':Nat} {al':Nat → Bool} {E:Nat → Int}
theorem C.rel_cut {c:C} {v:Value} (h:c.rel m nv al v) (hk:c.okN N al') (hE:∀ i,i < N → E i=m.env i) (hN:N ≤ nv'):c.rel {m with env:=E } nv' al' v:=by
 cases c <;> simp only [C.rel] at h ⊢ <;> simp only [C.okN] at hk
 case int k a =>
  obtain ⟨h1,h2,h3⟩:=h
  rw [A.ev_congr hk hE]
  exact ⟨A.wf_congr (nv:=N) ⟨hk,h1.2⟩ hE hN,h2,h3⟩
 case bool a =>
  obtain ⟨h1,h2,h3⟩:=h
  rw [A.ev_congr hk hE]
  exact ⟨A.wf_congr (nv:=N) ⟨hk,h1.2⟩ hE hN,h2,h3⟩
 case sv a =>
  obtain ⟨h1,h2,h3⟩:=h
  rw [A.ev_congr hk hE]
  exact ⟨A.wf_congr (nv:=N) ⟨hk,h1.2⟩ hE hN,h2,h3⟩
 case ptr=>exact ⟨hk,h.2⟩
 case slice=>exact ⟨hk,h.2⟩
 case sl=>exact ⟨hk,h.2⟩
 case lp id i k =>
  obtain ⟨h1,h2,h3,h4⟩:=h
  rw [A.ev_congr hk.2 hE]
  exact ⟨hk.1,A.wf_congr (nv:=N) ⟨hk.2,h2.2⟩ hE hN,h3,h4⟩
 case slv id lo hi k =>
  obtain ⟨h1,h2,h3,h4,h5⟩:=h
  rw [A.ev_congr hk.2.1 hE,A.ev_congr hk.2.2 hE]
  exact ⟨hk.1,A.wf_congr (nv:=N) ⟨hk.2.1,h2.2⟩ hE hN,A.wf_congr (nv:=N) ⟨hk.2.2,h3.2⟩ hE hN,h4,h5⟩
 case fn=>exact ⟨hk,h.2⟩
 case ptrS=>rw [A.ev_congr hk.2 hE]; exact ⟨hk.1,A.wf_congr (nv:=N) ⟨hk.2,h.2.1.2⟩ hE hN,h.2.2⟩
 case slS=>rw [A.ev_congr hk.2 hE]; exact ⟨hk.1,A.wf_congr (nv:=N) ⟨hk.2,h.2.1.2⟩ hE hN,h.2.2⟩
 all_goals exact h
theorem Rels.cut (hE:∀ i,i < N → E i=m.env i) (hN:N ≤ nv'):∀ {cs:List C} {vs:List Value},Rels m nv al cs vs → (∀ c ∈ cs,C.okN N al' c) → Rels {m with env:=E } nv' al' cs vs
 | [],[],_,_=>trivial
 | c :: _,_ :: _,h,hk=>⟨C.rel_cut h.1 (hk c (List.mem_cons_self ..)) hE hN,Rels.cut hE hN h.2 fun d hd=>hk d (List.mem_cons_of_mem _ hd)⟩
theorem V.rel_cut {x:V} {v:Value} (h:x.rel m nv al v) (hk:x.okN N al') (hE:∀ i,i < N → E i=m.env i) (hN:N ≤ nv'):x.rel {m with env:=E } nv' al' v:=by
 cases x with
 | one c=>exact C.rel_cut h (hk c (List.mem_singleton.2 rfl)) hE hN
 | agg cs=>obtain ⟨vs,rfl,hr⟩:=h; exact ⟨vs,rfl,hr.cut hE hN hk⟩
theorem SV.rel_cut {x:SV} {v:Value} (h:x.rel m nv al v) (hk:x.okN N al') (hE:∀ i,i < N → E i=m.env i) (hN:N ≤ nv'):x.rel {m with env:=E } nv' al' v:=by
 cases x with
 | vl x=>exact V.rel_cut h hk hE hN
 | tup l =>
  obtain ⟨vs,rfl,hr⟩:=h
  refine ⟨vs,rfl,?_⟩
  have key:∀ (l:List V) (vs:List Value),VRels m nv al l vs → (∀ v ∈ l,v.okN N al') → VRels {m with env:=E } nv' al' l vs:=by
   intro l
   induction l with
   | nil=>intro vs h _; match vs,h with | [],_=>trivial
   | cons x l ih=>intro vs h hk; match vs,h with
    | u :: us,h=>exact ⟨V.rel_cut h.1 (hk x (List.mem_cons_self ..)) hE hN,ih us h.2 fun v hv=>hk v (List.mem_cons_of_mem _ hv)⟩
  exact key l vs hr hk
end
def okL:L → Bool | .cst c=>cstB c | _=>true
theorem okL_of {ls:List L} (h:ls.all noCst=true):ls.all okL=true:=by
 rw [List.all_eq_true] at *
 intro l hl
 have:=h l hl
 cases l <;> first | rfl | (simp [noCst] at this)
theorem in_rel {m:M} {nv:Nat} {al:Nat → Bool}:∀ (ls:List L) (nn:Nat) (xs:List Int),ls.all okL=true → lhas ls xs → (∀ (i:Nat) x,xs[i]?=some x → m.env (nn + i)=x) → nn + lcount ls ≤ nv →
  Rels m nv al (inLs nn ls) (lvals ls xs):=by
 intro ls
 induction ls with
 | nil=>intro nn xs _ _ _ _; trivial
 | cons l ls ih =>
  intro nn xs hc hh he hle
  simp only [List.all_cons,Bool.and_eq_true] at hc
  have tail:∀ (y:Int) (ys:List Int),lhas ls ys → (∀ (i:Nat) x,(y :: ys)[i]?=some x → m.env (nn + i)=x) → nn + 1 + lcount ls ≤ nv → m.env nn=y ∧ Rels m nv al (inLs (nn + 1) ls) (lvals ls ys):=by
   intro y ys h1 h2 h3
   refine ⟨h2 0 y rfl,ih (nn + 1) ys hc.2 h1 (fun i x hi=>?_) h3⟩
   have:=h2 (i + 1) x (by simpa using hi)
   rwa [show nn + (i + 1)=nn + 1 + i by omega] at this
  cases l with
  | cst c =>
   have hcr:=cst_rel (m:=m) (nv:=nv) (al:=al) c
   rw [if_pos (show cstB c=true from hc.1)] at hcr
   exact ⟨hcr,ih nn xs hc.2 hh he (by simpa [lcount,L.n] using hle)⟩
  | int k=>cases xs with
   | nil=>cases hh
   | cons y ys =>
    have hle':nn + 1 + lcount ls ≤ nv:=by simp [lcount,L.n] at hle; omega
    obtain ⟨h2,h3⟩:=tail y ys hh.2 he hle'
    exact ⟨⟨⟨show nn < nv by omega,trivial⟩,by simp only [A.ev,h2]; exact hh.1,by simp only [A.ev,h2]⟩,h3⟩
  | bool=>cases xs with
   | nil=>cases hh
   | cons y ys =>
    have hle':nn + 1 + lcount ls ≤ nv:=by simp [lcount,L.n] at hle; omega
    obtain ⟨h2,h3⟩:=tail y ys hh.2 he hle'
    exact ⟨⟨⟨show nn < nv by omega,trivial⟩,by simp only [A.ev,h2]; exact hh.1,by simp only [A.ev,h2]⟩,h3⟩
  | num=>cases xs with
   | nil=>cases hh
   | cons y ys =>
    have hle':nn + 1 + lcount ls ≤ nv:=by simp [lcount,L.n] at hle; omega
    obtain ⟨h2,h3⟩:=tail y ys hh.2 he hle'
    have hl:∀ q:Nat,C.rel m nv al (.int .u64 (.limb nn q)) (.int .u64 (y / p64 q % 18446744073709551616)):=by
     intro q
     refine ⟨⟨show nn < nv by omega,by simp only [A.good,h2]; exact hh.1⟩,?_,by simp only [A.ev,h2]⟩
     simp only [A.ev,has,lo,hi]; omega
    exact Rels.append (vs:=limbs y) ⟨hl 0,hl 1,hl 2,hl 3,hl 4,hl 5,trivial⟩ h3
  | lst k=>cases xs with
   | nil=>cases hh
   | cons y ys =>
    have hle':nn + 1 + lcount ls ≤ nv:=by simp [lcount,L.n] at hle; omega
    exact (tail y ys hh.2 he hle').2
def V.with (v:V) (cs:List C):V:=match v with | .one _=>.one (cs.headD .top) | .agg _=>.agg cs
theorem setH_tmps {σ:St} {cs:List C} {h:Hp} {i:Nat} {s:SV} (hi:(setH σ cs h).tmps[i]?=some s) :
  (σ.tmps[i]?=some s ∧ (h=.slot i → ∀ v,s ≠ .vl v)) ∨ (h=.slot i ∧ ∃ v,σ.tmps[i]?=some (.vl v) ∧ s=.vl (v.with cs)):=by
 cases h with
 | box t =>
  left
  refine ⟨?_,by simp⟩
  simp only [setH] at hi
  split at hi
  ·split at hi <;> exact hi
  ·exact hi
 | slot t =>
  simp only [setH] at hi
  by_cases ht:t=i
  ·subst ht
   split at hi
   ·rename_i c hc
    have hl:=(List.getElem?_eq_some_iff.1 hc).1
    simp [hl] at hi
    exact .inr ⟨rfl,_,hc,by rw [← hi]; simp [V.with]⟩
   ·rename_i c hc
    have hl:=(List.getElem?_eq_some_iff.1 hc).1
    simp [hl] at hi
    exact .inr ⟨rfl,_,hc,hi.symm⟩
   ·rename_i h1 h2
    left
    refine ⟨hi,fun _ v hv=>?_⟩
    subst hv
    cases v with
    | one c=>exact h1 _ hi
    | agg cs=>exact h2 _ hi
  ·left
   refine ⟨?_,fun h=>absurd (by injection h) ht⟩
   split at hi
   ·rwa [List.getElem?_set_ne ht] at hi
   ·rwa [List.getElem?_set_ne ht] at hi
   ·exact hi
theorem setH_len (σ:St) (cs:List C) (h:Hp):(setH σ cs h).tmps.length=σ.tmps.length:=by
 cases h <;> simp only [setH] <;> (repeat' split) <;> simp
theorem putH_tmps:∀ (hav:List (Hp × List L)) (nn:Nat) (σ:St) (i:Nat) (s:SV),(putH σ nn hav).tmps[i]?=some s →
  (σ.tmps[i]?=some s ∧ ((∃ q ∈ hav,q.1=.slot i) → ∀ v,s ≠ .vl v)) ∨ ∃ (j:Nat) (ls:List L),hav[j]?=some (.slot i,ls) ∧ ∃ v,σ.tmps[i]?=some (.vl v) ∧ s=.vl (v.with (inLs (nn + hcount (hav.take j)) ls)):=by
 intro hav
 induction hav with
 | nil=>intro nn σ i s h; exact .inl ⟨h,by simp⟩
 | cons q hav ih =>
  intro nn σ i s h
  obtain ⟨hp,ls⟩:=q
  rcases ih _ _ _ _ h with ⟨h1,h2⟩ | ⟨j,ls',h1,v,h2,h3⟩
  ·rcases setH_tmps h1 with ⟨h3,h4⟩ | ⟨h3,v,h4,h5⟩
   ·left
    refine ⟨h3,fun hex v=>?_⟩
    obtain ⟨q,hq,hq2⟩:=hex
    rcases List.mem_cons.1 hq with rfl | hq
    ·exact h4 hq2 v
    ·exact h2 ⟨q,hq,hq2⟩ v
   ·right
    exact ⟨0,ls,by simp [h3],v,h4,by simpa [hcount] using h5⟩
  ·right
   refine ⟨j + 1,ls',by simpa using h1,?_⟩
   have e:nn + lcount ls + hcount (hav.take j)=nn + hcount (((hp,ls) :: hav).take (j + 1)):=by simp [hcount]; omega
   rw [e] at h3
   rcases setH_tmps h2 with ⟨h4,_⟩ | ⟨h4,v',h5,h6⟩
   ·exact ⟨v,h4,h3⟩
   ·injection h6 with h6
    subst h6
    refine ⟨v',h5,?_⟩
    rw [h3]
    cases v' <;> rfl
theorem setH_boxes {σ:St} {cs:List C} {h:Hp} {id:Nat} {b:Box} (hi:(setH σ cs h).boxes[id]?=some (some b)) :
  σ.boxes[id]?=some (some b) ∨ ∃ t b0,h=.box t ∧ σ.get t=.vl (.one (.ptr id 0)) ∧ σ.boxes[id]?=some (some b0) ∧ b={b0 with cells:=cs }:=by
 cases h with
 | slot t =>
  left
  simp only [setH] at hi
  repeat' split at hi
  all_goals exact hi
 | box t =>
  simp only [setH] at hi
  split at hi
  ·rename_i id' hg
   split at hi
   ·rename_i b0 hb
    have hb':=box_some hb
    have hl:=(List.getElem?_eq_some_iff.1 hb').1
    by_cases he:id'=id
    ·subst he
     simp [hl] at hi
     exact .inr ⟨t,b0,rfl,hg,hb',hi.symm⟩
    ·rw [List.getElem?_set_ne he] at hi
     exact .inl hi
   ·exact .inl hi
  ·exact .inl hi
theorem putH_row:∀ (hav:List (Hp × List L)) (nn:Nat) (σ:St) (id:Nat) (b:Box),(putH σ nn hav).boxes[id]?=some (some b) → ∃ b0,σ.boxes[id]?=some (some b0) ∧ b.row=b0.row
 | [],nn,σ,id,b,h=>⟨b,h,rfl⟩
 | (hp,ls) :: hav,nn,σ,id,b,h=>by
  obtain ⟨b1,h1,h2⟩:=putH_row hav _ _ _ _ h
  rcases setH_boxes h1 with h3 | ⟨t,b0,_,_,h3,h4⟩
  ·exact ⟨b1,h3,h2⟩
  ·exact ⟨b0,h3,by rw [h2,h4]⟩
theorem setH_get_eq {σ:St} {cs:List C} {h:Hp} {t:Nat} (hne:h ≠ .slot t):(setH σ cs h).get t=σ.get t:=by
 simp only [St.get_def]
 cases h with
 | box u =>
  simp only [setH]; repeat' split
  all_goals rfl
 | slot u =>
  have hut:u ≠ t:=fun e=>hne (by rw [e])
  simp only [setH]
  repeat' split
  all_goals simp [List.getD_eq_getElem?_getD,List.getElem?_set_ne hut]
theorem putH_get_eq:∀ (hav:List (Hp × List L)) (nn:Nat) (σ:St) (t:Nat),(∀ q ∈ hav,q.1 ≠ .slot t) → (putH σ nn hav).get t=σ.get t:=by
 intro hav
 induction hav with
 | nil=>intro nn σ t _; rfl
 | cons q hav ih =>
  intro nn σ t h
  obtain ⟨hp,ls⟩:=q
  simp only [putH]
  rw [ih _ _ _ fun q hq=>h q (List.mem_cons_of_mem _ hq),setH_get_eq (h (hp,ls) (List.mem_cons_self ..))]
theorem putH_boxes:∀ (hav:List (Hp × List L)) (nn:Nat) (σ:St) (id:Nat) (b:Box),(∀ q ∈ hav,∀ t,q.1=.box t → ∀ q' ∈ hav,q'.1 ≠ .slot t) → (putH σ nn hav).boxes[id]?=some (some b) →
  ∃ b0,σ.boxes[id]?=some (some b0) ∧ b.own=b0.own ∧ b.elem=b0.elem ∧ ((b=b0 ∧ ∀ (j:Nat) t ls,hav[j]?=some (.box t,ls) → σ.get t ≠ .vl (.one (.ptr id 0))) ∨
   ∃ (j:Nat) (t:Nat) (ls:List L),hav[j]?=some (.box t,ls) ∧ σ.get t=.vl (.one (.ptr id 0)) ∧ b.cells=inLs (nn + hcount (hav.take j)) ls):=by
 intro hav
 induction hav with
 | nil=>intro nn σ id b _ h; exact ⟨b,h,rfl,rfl,.inl ⟨rfl,by simp⟩⟩
 | cons q hav ih =>
  intro nn σ id b ha h
  obtain ⟨hp,ls⟩:=q
  have ha':∀ q ∈ hav,∀ t,q.1=.box t → ∀ q' ∈ hav,q'.1 ≠ .slot t:=fun q hq t ht q' hq'=>ha q (List.mem_cons_of_mem _ hq) t ht q' (List.mem_cons_of_mem _ hq')
  obtain ⟨b1,h1,h2,h3,h4⟩:=ih _ _ _ _ ha' h
  have e:∀ j,nn + lcount ls + hcount (hav.take j)=nn + hcount (((hp,ls) :: hav).take (j + 1)):=by intro j; simp [hcount]; omega
  have geq:∀ (j:Nat) t ls',hav[j]?=some (.box t,ls') → (setH σ (inLs nn ls) hp).get t=σ.get t:=fun j t ls' hj =>
   setH_get_eq (ha (.box t,ls') (List.mem_cons_of_mem _ (List.mem_of_getElem? hj)) t rfl (hp,ls) (List.mem_cons_self ..))
  rcases setH_boxes h1 with h5 | ⟨t,b0,h5,h6,h7,h8⟩
  ·refine ⟨b1,h5,h2,h3,?_⟩
   rcases h4 with ⟨h4,h4'⟩ | ⟨j,t,ls',g1,g2,g3⟩
   ·by_cases hc:∃ t,hp=.box t ∧ σ.get t=.vl (.one (.ptr id 0))
    ·obtain ⟨t,rfl,ht⟩:=hc
     right
     refine ⟨0,t,ls,rfl,ht,?_⟩
     subst h4
     simp only [setH,ht] at h1
     have hbx:σ.box id=some b:=by simp [St.box_def,h5]
     simp only [hbx] at h1
     have hl:=(List.getElem?_eq_some_iff.1 h5).1
     simp [hl] at h1
     rw [← h1]
     simp [hcount]
    ·left
     refine ⟨h4,fun j t ls' hj=>?_⟩
     cases j with
     | zero=>simp at hj; intro ht; exact hc ⟨t,hj.1,ht⟩
     | succ j=>rw [← geq j t ls' (by simpa using hj)]; exact h4' j t ls' (by simpa using hj)
   ·exact .inr ⟨j + 1,t,ls',by simpa using g1,by rw [← geq j t ls' g1]; exact g2,by rw [← e]; exact g3⟩
  ·subst h8
   refine ⟨b0,h7,h2,h3,.inr ?_⟩
   rcases h4 with ⟨h4,_⟩ | ⟨j,t',ls',g1,g2,g3⟩
   ·exact ⟨0,t,ls,by simp [h5],h6,by rw [h4]; simp [hcount]⟩
   ·exact ⟨j + 1,t',ls',by simpa using g1,by rw [← geq j t' ls' g1]; exact g2,by rw [← e]; exact g3⟩
section
variable {T:List K} {w0:World} {m:M} {σ:St} {a:Act} {w:World}
theorem getH_rel (h:Rep w0 m σ a w) {hp:Hp} {cs:List C} (hg:getH σ hp=some cs):∃ vs:List Value,Rels m σ.nv σ.al cs vs:=by
 cases hp with
 | slot t =>
  simp only [getH] at hg
  split at hg
  ·rename_i v hv
   cases hg
   obtain ⟨u,_,hr⟩:=h.tmp t _ hv
   cases v with
   | one c=>exact ⟨[u],hr,trivial⟩
   | agg cs=>obtain ⟨vs,_,hr⟩:=hr; exact ⟨vs,hr⟩
  ·cases hg
 | box t =>
  simp only [getH] at hg
  split at hg
  ·split at hg
   ·rename_i b hb
    split at hg
    ·rename_i ho
     cases hg
     obtain ⟨_,_,vs,_,hr⟩:=h.own _ _ (box_some hb) ho
     exact ⟨vs,hr⟩
    ·cases hg
   ·cases hg
  ·cases hg
theorem kk_of_lhas:∀ (ls:List L) (xs:List Int),lhas ls xs → kkHas (kksOf ls) xs:=by
 intro ls
 induction ls with
 | nil=>intro xs h; cases xs with
  | nil=>trivial
  | cons x xs=>cases h
 | cons l ls ih =>
  intro xs h
  cases l with
  | cst c=>exact ih xs h
  | int k=>cases xs with
   | nil=>cases h
   | cons x xs=>exact ⟨h.1,ih xs h.2⟩
  | bool=>cases xs with
   | nil=>cases h
   | cons x xs=>exact ⟨h.1,ih xs h.2⟩
  | num=>cases xs with
   | nil=>cases h
   | cons x xs=>exact ⟨h.1,ih xs h.2⟩
  | lst k=>cases xs with
   | nil=>cases h
   | cons x xs=>exact ⟨h.1,ih xs h.2⟩
theorem kk_append:∀ {ks ks':List KK} {xs ys:List Int},kkHas ks xs → kkHas ks' ys → kkHas (ks ++ ks') (xs ++ ys)
 | [],_,[],_,_,h=>h
 | _ :: _,_,_ :: _,_,h,h'=>⟨h.1,kk_append h.2 h'⟩
theorem takeH_ok (hR:Rep w0 m σ a w):∀ (hav:List (Hp × List L)) (nn:Nat) (ds:Defs) (as:List A),takeH σ nn hav=some (ds,as) →
  (σ.nv ≤ nn → GenOk T m.env nn ds ∧ ∀ x ∈ as,x.ok (nn + ds.length)) ∧ as.length=hcount hav ∧
  ∀ e,(∀ i,i < σ.nv → e i=m.env i) → Told T e nn ds → kkHas (hkks hav) (as.map (·.ev e)) ∧
   ∀ (j:Nat) h ls,hav[j]?=some (h,ls) → ∃ cs xs,getH σ h=some cs ∧ (∀ (i:Nat) x,xs[i]?=some x → (as.map (·.ev e))[hcount (hav.take j) + i]?=some x) ∧ lhas ls xs ∧
    ∀ vs,Rels m σ.nv σ.al cs vs → lvals ls xs=vs:=by
 intro hav
 induction hav with
 | nil =>
  intro nn ds as h
  simp [takeH] at h
  obtain ⟨rfl,rfl⟩:=h
  exact ⟨fun _=>⟨trivial,by simp⟩,rfl,fun e _ _=>⟨trivial,by simp⟩⟩
 | cons q hav ih =>
  intro nn ds as h
  obtain ⟨hp,ls⟩:=q
  simp only [takeH] at h
  split at h
  ·cases h
  ·rename_i cs hcs
   split at h
   ·cases h
   ·rename_i d hd
    obtain ⟨d1,d2⟩:=d
    simp only at h
    split at h
    ·cases h
    ·rename_i r hr
     obtain ⟨r1,r2⟩:=r
     simp at h
     obtain ⟨rfl,rfl⟩:=h
     obtain ⟨vs0,hvs0⟩:=getH_rel hR hcs
     obtain ⟨g1,g2,g3⟩:=takeLs_ok (T:=T) _ _ _ _ _ hd m σ.nv vs0 hvs0
     obtain ⟨t1,t2,t3⟩:=ih _ _ _ hr
     refine ⟨fun hn=>⟨gen_append _ _ _ _ (g1 hn).1 fun e1 he1 _=>?_,fun x hx=>?_⟩,by simp [hcount,g2,t2],fun e he ht=>?_⟩
     ·have hR1:=hR.names e1 (fun i hi=>he1 i (by omega)) σ.nv (Nat.le_refl _)
      have key:∀ (m':M),Rep w0 m' σ a w → σ.nv ≤ nn + d1.length → GenOk T m'.env (nn + d1.length) r1:=by
       intro m' hm' hn'
       have:∀ (hav:List (Hp × List L)) (nn:Nat) (ds:Defs) (as:List A),takeH σ nn hav=some (ds,as) → ∀ m',Rep w0 m' σ a w → σ.nv ≤ nn → GenOk T m'.env nn ds:=by
        intro hav
        induction hav with
        | nil=>intro nn ds as h m' _ _; simp [takeH] at h; obtain ⟨rfl,rfl⟩:=h; trivial
        | cons q hav ih =>
         intro nn ds as h m' hm' hn'
         obtain ⟨hp,ls⟩:=q
         simp only [takeH] at h
         split at h
         ·cases h
         ·rename_i cs hcs
          split at h
          ·cases h
          ·rename_i d hd
           obtain ⟨d1,d2⟩:=d
           simp only at h
           split at h
           ·cases h
           ·rename_i r hr
            obtain ⟨r1,r2⟩:=r
            simp at h
            obtain ⟨rfl,rfl⟩:=h
            obtain ⟨vs0,hvs0⟩:=getH_rel hm' hcs
            obtain ⟨g1,g2,g3⟩:=takeLs_ok (T:=T) _ _ _ _ _ hd m' σ.nv vs0 hvs0
            refine gen_append _ _ _ _ (g1 hn').1 fun e1 he1 _=>?_
            exact ih _ _ _ hr {m' with env:=e1 } (hm'.names e1 (fun i hi=>he1 i (by omega)) σ.nv (Nat.le_refl _)) (by omega)
       exact this _ _ _ _ hr m' hm' hn'
      exact key {m with env:=e1 } hR1 (by omega)
     ·rcases List.mem_append.1 hx with hx | hx
      ·exact A.ok_mono ((g1 hn).2 x hx) (by simp)
      ·exact A.ok_mono ((t1 (by omega)).2 x hx) (by simp; omega)
     ·rw [Told.append] at ht
      obtain ⟨l1,l2⟩:=g3 e he ht.1
      obtain ⟨k1,k2⟩:=t3 e he ht.2
      refine ⟨?_,fun j h' ls' hj=>?_⟩
      ·rw [List.map_append]
       exact kk_append (kk_of_lhas _ _ l2) k1
      ·cases j with
       | zero =>
        simp at hj
        obtain ⟨rfl,rfl⟩:=hj
        refine ⟨cs,d2.map (·.ev e),hcs,fun i x hi=>?_,l2,fun vs hvs=>(takeLs_ok (T:=T) _ _ _ _ _ hd m σ.nv vs hvs).2.2 e he ht.1 |>.1⟩
        have hl:=(List.getElem?_eq_some_iff.1 hi).1
        simp only [List.take_zero,hcount,Nat.zero_add,List.map_append]
        rw [List.getElem?_append_left hl]
        exact hi
       | succ j =>
        obtain ⟨cs',xs,q1,q2,q3,q4⟩:=k2 j h' ls' (by simpa using hj)
        refine ⟨cs',xs,q1,fun i x hi=>?_,q3,q4⟩
        have:=q2 i x hi
        simp only [List.take_succ_cons,hcount,List.map_append]
        rw [List.getElem?_append_right (by simp [g2]; omega)]
        rw [← this]
        congr 1
        simp [g2]; omega
theorem hcount_take:∀ (hav:List (Hp × List L)) (j:Nat) h ls,hav[j]?=some (h,ls) → hcount (hav.take j) + lcount ls ≤ hcount hav:=by
 intro hav
 induction hav with
 | nil=>intro j h ls hj; simp at hj
 | cons q hav ih =>
  intro j h ls hj
  cases j with
  | zero=>simp at hj; subst hj; simp [hcount]
  | succ j=>have:=ih j h ls (by simpa using hj); simp [hcount]; omega
theorem gen_rep {σh σ':St} {n0 N nn:Nat} {hav:List (Hp × List L)} {ds:Defs} {as:List A} {e E:Nat → Int} (hR:Rep w0 m σ' a w) (hT:takeH σ' nn hav=some (ds,as)) (he:∀ i,i < σ'.nv → e i=m.env i) (ht:Told T e nn ds)
  (ha:havOk hav=true) (hE1:∀ i,i < N → E i=m.env i) (hE2:∀ (i:Nat) x,(as.map (·.ev e))[i]?=some x → E (n0 + i)=x) (hN:N ≤ σh.nv) (hn0:n0 + hcount hav ≤ σh.nv) (hl:σh.tmps.length=σ'.tmps.length)
  (ht1:∀ (i:Nat) s,σh.tmps[i]?=some s → s=topS ∨ ((putH σ' n0 hav).tmps[i]?=some s ∧ ((∃ q ∈ hav,q.1=.slot i) ∨ s.okN N σh.al)))
  (hb1:∀ (id:Nat) b,σh.boxes[id]?=some (some b) → (putH σ' n0 hav).boxes[id]?=some (some b) ∧ ((∃ (j:Nat) (t:Nat) (ls:List L),hav[j]?=some (.box t,ls) ∧ σ'.get t=.vl (.one (.ptr id 0))) ∨ ∀ c ∈ b.cells,C.okN N σh.al c))
  (hkn:∀ p ∈ σh.kn,p.1 < σh.nv ∧ decide (E p.1 ≠ 0)=p.2) (hgl:∀ p ∈ σh.gl,σh.al p.2=true ∧ m.rho p.2=(p.1,0)) (hrw:∀ (id:Nat) (b:Box) (r:Row),σh.boxes[id]?=some (some b) → b.row=some r → r.x.ok N ∧ r.x0.ok N):Rep w0 {m with env:=E } σh a w:=by
 obtain ⟨_,_,t3⟩:=takeH_ok (T:=T) hR _ _ _ _ hT
 obtain ⟨_,places⟩:=t3 e he ht
 simp only [havOk,List.all_eq_true,Bool.and_eq_true] at ha
 have hcst:∀ (j:Nat) h ls,hav[j]?=some (h,ls) → ls.all noCst=true:=fun j h ls hj=>by
  have:=(ha (h,ls) (List.mem_of_getElem? hj)).1
  simpa [List.all_eq_true] using this
 have hslot:∀ q ∈ hav,∀ t,q.1=.box t → ∀ q' ∈ hav,q'.1 ≠ .slot t:=by
  intro q hq t hqt q' hq' hs
  have:=(ha q hq).2
  rw [hqt] at this
  simp only [Bool.not_eq_true',List.any_eq_false] at this
  have:=this q' hq'
  rw [hs] at this
  simp [isSlot] at this
 have hcnt:=hcount_take hav
 have fresh:∀ (j:Nat) h ls,hav[j]?=some (h,ls) → ∀ cs,getH σ' h=some cs → ∀ vs,Rels m σ'.nv σ'.al cs vs → Rels {m with env:=E } σh.nv σh.al (inLs (n0 + hcount (hav.take j)) ls) vs:=by
  intro j h ls hj cs hcs vs hvs
  obtain ⟨cs',xs,q1,q2,q3,q4⟩:=places j h ls hj
  rw [hcs] at q1
  cases q1
  rw [← q4 vs hvs]
  refine in_rel ls _ xs (okL_of (hcst j h ls hj)) q3 (fun i x hi=>?_) (by have:=hcnt j h ls hj; omega)
  have:=hE2 _ x (q2 i x hi)
  rwa [← Nat.add_assoc] at this
 refine ⟨hR.defers,by rw [hl]; exact hR.size,fun i s hi=>?_,hR.below,fun id b hb ho=>?_,fun id b hb ho=>?_,fun id id' b b' hb hb' ho ho' hd=>?_,hkn,hgl,fun id b r hb hr=>?_,fun id b r hb hr hro id' b' hb' ho=>?_,fun id b r id' b' r' hb hr hb' hr'=>?_⟩
 ·rcases ht1 i s hi with rfl | ⟨h1,h2⟩
  ·have hlt:i < σ'.tmps.length:=by rw [← hl]; exact (List.getElem?_eq_some_iff.1 hi).1
   obtain ⟨u,hu,_⟩:=hR.tmp i _ (List.getElem?_eq_getElem hlt)
   exact ⟨u,hu,trivial⟩
  ·rcases putH_tmps _ _ _ _ _ h1 with ⟨h3,h4⟩ | ⟨j,ls,h3,v,h4,h5⟩
   ·obtain ⟨u,hu,hr⟩:=hR.tmp i s h3
    refine ⟨u,hu,?_⟩
    rcases h2 with ⟨q,hq,hqs⟩ | h2
    ·exfalso
     obtain ⟨j,hj⟩:=List.mem_iff_getElem?.1 hq
     obtain ⟨q1,q2⟩:=q
     simp only at hqs
     subst hqs
     obtain ⟨cs,_,hg,_⟩:=places j _ _ hj
     simp only [getH,h3] at hg
     split at hg
     ·rename_i v hv
      simp at hv
      exact h4 ⟨_,hq,rfl⟩ v hv
     ·cases hg
    ·exact SV.rel_cut hr h2 hE1 hN
   ·obtain ⟨u,hu,hr⟩:=hR.tmp i _ h4
    refine ⟨u,hu,?_⟩
    subst h5
    have hg:getH σ' (.slot i)=some v.cells:=by simp [getH,h4]
    cases v with
    | one c =>
     have:=fresh j _ ls h3 _ hg [u] ⟨hr,trivial⟩
     cases hin:inLs (n0 + hcount (hav.take j)) ls with
     | nil=>rw [hin] at this; cases this
     | cons d ds=>rw [hin] at this; exact this.1
    | agg cs =>
     obtain ⟨vs,rfl,hr'⟩:=hr
     exact ⟨vs,rfl,fresh j _ ls h3 _ hg vs hr'⟩
 ·obtain ⟨h1,h2⟩:=hb1 id b hb
  obtain ⟨b0,g1,g2,g3,g4⟩:=putH_boxes _ _ _ _ _ hslot h1
  obtain ⟨k1,k2,vs,k3,k4⟩:=hR.own id b0 g1 (by rw [← g2]; exact ho)
  refine ⟨k1,k2,vs,by rw [g3]; exact k3,?_⟩
  have place:∀ (j:Nat) (t:Nat) (ls:List L),hav[j]?=some (.box t,ls) → σ'.get t=.vl (.one (.ptr id 0)) → Rels {m with env:=E } σh.nv σh.al (inLs (n0 + hcount (hav.take j)) ls) vs:=by
   intro j t ls hj hgt
   have hbx:σ'.box id=some b0:=by simp [St.box_def,g1]
   exact fresh j _ ls hj b0.cells (by simp [getH,hgt,hbx,← g2,ho]) vs k4
  rcases g4 with ⟨rfl,g4⟩ | ⟨j,t,ls,g4,g5,g6⟩
  ·rcases h2 with ⟨j,t,ls,h3,h4⟩ | h2
   ·exact absurd h4 (g4 j t ls h3)
   ·exact k4.cut hE1 hN h2
  ·rw [g6]; exact place j t ls g4 g5
 ·obtain ⟨h1,h2⟩:=hb1 id b hb
  obtain ⟨b0,g1,g2,g3,g4⟩:=putH_boxes _ _ _ _ _ hslot h1
  have ho0:b0.own=false:=by rw [← g2]; exact ho
  rcases hR.ro id b0 g1 ho0 with k0 | ⟨k1,k2⟩
  ·left
   rcases g4 with ⟨rfl,_⟩ | ⟨j,t,ls,g4,g5,g6⟩
   ·exact k0
   ·exfalso
    obtain ⟨cs,_,hg,_⟩:=places j _ _ g4
    have hbx:σ'.box id=some b0:=by simp [St.box_def,g1]
    simp [getH,g5,hbx,ho0] at hg
  refine .inr ⟨k1,fun i c hc=>?_⟩
  rcases g4 with ⟨rfl,g4⟩ | ⟨j,t,ls,g4,g5,g6⟩
  ·rcases h2 with ⟨j,t,ls,h3,h4⟩ | h2
   ·exact absurd h4 (g4 j t ls h3)
   ·obtain ⟨v,hv,hr⟩:=k2 i c hc
    exact ⟨v,hv,C.rel_cut hr (h2 c (List.mem_of_getElem? hc)) hE1 hN⟩
  ·exfalso
   obtain ⟨cs,_,hg,_⟩:=places j _ _ g4
   have hbx:σ'.box id=some b0:=by simp [St.box_def,g1]
   simp [getH,g5,hbx,ho0] at hg
 ·obtain ⟨h1,_⟩:=hb1 id b hb
  obtain ⟨h1',_⟩:=hb1 id' b' hb'
  obtain ⟨b0,g1,g2,_⟩:=putH_boxes _ _ _ _ _ hslot h1
  obtain ⟨b0',g1',g2',_⟩:=putH_boxes _ _ _ _ _ hslot h1'
  exact hR.inj id id' b0 b0' g1 g1' (by rw [← g2]; exact ho) (by rw [← g2']; exact ho') hd
 ·obtain ⟨q1,q2⟩:=hrw id b r hb hr
  obtain ⟨b0,g1,g2⟩:=putH_row _ _ _ _ _ (hb1 id b hb).1
  obtain ⟨r1,r2,r3,r4⟩:=hR.rows id b0 r g1 (g2.symm.trans hr)
  exact ⟨A.wf_congr (nv:=N) ⟨q1,r1.2⟩ hE1 hN,A.wf_congr (nv:=N) ⟨q2,r2.2⟩ hE1 hN,by rw [A.ev_congr q1 hE1,A.ev_congr q2 hE1]; exact r3,by rw [A.ev_congr q1 hE1]; exact r4⟩
 ·obtain ⟨b0,g1,g2⟩:=putH_row _ _ _ _ _ (hb1 id b hb).1
  obtain ⟨b0',g1',g2',_⟩:=putH_boxes _ _ _ _ _ hslot (hb1 id' b' hb').1
  exact hR.rbox id b0 r g1 (g2.symm.trans hr) hro id' b0' g1' (by rw [← g2']; exact ho)
 ·obtain ⟨b0,g1,g2⟩:=putH_row _ _ _ _ _ (hb1 id b hb).1
  obtain ⟨b0',g1',g2'⟩:=putH_row _ _ _ _ _ (hb1 id' b' hb').1
  exact hR.rsep id b0 r id' b0' r' g1 (g2.symm.trans hr) g1' (g2'.symm.trans hr')
end
end Go.Sx

namespace Go.Sx
open Go Go.RowKit
section
variable {P:Program} {T:List K} {w0:World} {m:M} {σ:St} {a:Act} {w:World}
theorem wp_exists {o:Oper} {K:Act → World → Prop} (h:o.wp P a w K (fun _ _ _=>False)):∃ a' w',K a' w':=by
 unfold Oper.wp at h
 generalize (execOp a.eval o).run P w=r at h
 cases r with
 | ok n w' =>
  cases n <;> simp only [Oper.upon] at h
  case value v=>exact ⟨_,_,h⟩
  case skip=>exact ⟨_,_,h⟩
  case defer d=>exact ⟨_,_,h⟩
  case enter f args =>
   obtain ⟨e,w'',_,hR,_⟩:=h []
   cases e with
   | returned v=>exact ⟨_,_,hR⟩
   | panicked c=>exact hR.elim
   | outgrown=>obtain ⟨_,_,hq⟩:=hR; exact hq.elim
  case row r args =>
   obtain ⟨v,w'',hR,_⟩:=h (default:Frame) []
   exact ⟨_,_,hR⟩
 | halt x w'=>cases x <;> simp only [Oper.upon] at h
theorem Rep.drew (h:Rep w0 m σ a w):Rep w0 m σ a {w with drawn:=w.drawn + 1 }:=h.world (Below.drew (Below.refl _ w))
theorem guard_ok (h:Rep w0 m σ a w) {all:Array Oper} {o:Oper}:(guardG all σ o=.yes → Region.wanted o (yielded all a.tmps)=true) ∧ (guardG all σ o=.no → Region.wanted o (yielded all a.tmps)=false):=by
 rw [guardG_def]; unfold Region.wanted
 cases hg:o.guard with
 | none=>simp
 | some q =>
  obtain ⟨j,want⟩:=q
  simp only
  unfold yielded
  cases hd:(all[j]?).bind (·.dst) with
  | none=>simp
  | some t =>
   simp only [Option.bind_some]
   cases ht:σ.tmps[t]? with
   | none =>
    have:a.tmps[t]?=none:=Array.getElem?_eq_none_iff.2 (by rw [h.size]; exact List.getElem?_eq_none_iff.1 ht)
    simp [this]
   | some s =>
    obtain ⟨u,hu,hr⟩:=h.tmp t s ht
    rw [hu]
    cases s with
    | tup l=>obtain ⟨vs,rfl,_⟩:=hr; simp
    | vl v =>
     cases v with
     | agg cs=>simp
     | one c =>
      cases c with
      | bool x =>
       obtain ⟨_,_,rfl⟩:=hr
       have htr:=h.truth (x:=x)
       simp only
       cases hx:truth σ x with
       | yes=>have:=htr.1 hx; cases want <;> simp [this]
       | no=>have:=htr.2 hx; cases want <;> simp [this]
       | need n=>simp
       | bad=>simp
      | _=>simp
def FineUp (T:List K) (e:Nat → Int) (nn:Nat) (p:Plan):Prop:=∀ e',(∀ i,i < nn + p.defs.length + p.post.length → e' i=e i) → Fine T e' nn p
theorem plan_env' (hT:∀ (g:Nat) κ,T[g]?=some κ → κ.ok P) {o:Oper} {nn nid:Nat} {p:Plan} {t:Tree} {goal:Gl} (h:Rep w0 m σ a w) (hp:plan P T σ nn nid o.op=.ok p) (hnn:σ.nv ≤ nn) (hh:(planT nn p t).holds T goal m.env) :
  ∃ e,(∀ i,i < nn → e i=m.env i) ∧ FineUp T e nn p ∧ t.holds T goal e:=by
 unfold planT at hh
 have g1:=plan_gen h hp hnn
 obtain ⟨e1,a1,a2,a3,a4⟩:=letts_holds _ _ _ hh g1
 obtain ⟨r1,r2⟩:=reqs_holds _ a4
 obtain ⟨z1,z2⟩:=nzs_holds _ r2
 have g2:=plan_post hT h hp hnn a1 a3 r1 z1
 obtain ⟨e2,b1,b2,b3,b4⟩:=letts_holds _ _ _ z2 g2
 obtain ⟨at1,at2⟩:=plan_atoms h hp hnn
 refine ⟨e2,fun i hi=>(b1 i (by omega)).trans (a1 i hi),fun e' he'=>⟨told_congr (gen_ok _ _ _ g1) a3 fun i hi=>(he' i (by omega)).trans (b1 i hi),told_congr (gen_ok _ _ _ g2) b3 fun i hi=>he' i (by omega),fun x hx=>?_,fun q hq=>?_⟩,b4⟩
 ·rw [A.ev_congr (at2 x hx) fun i hi=>(he' i (by omega)).trans (b1 i (by omega))]; exact z1 x hx
 ·have:=r1 q hq
  rw [map_ev_congr (at1 q hq) fun i hi=>(he' i (by omega)).trans (b1 i hi)]; exact this
theorem Rep.nv_irrel (h:Rep w0 m σ a w) (nv':Nat) (hn:σ.nv ≤ nv'):Rep w0 m {σ with nv:=nv' } a w:=h.names m.env (fun _ _=>rfl) nv' hn
def AStep (P:Program) (T:List K) (ops:Array Oper) (nv0 len0:Nat) (E:Nat → Int) (i:Nat) (σ σ':St):Prop :=
 match ops[i]? with
 | none=>σ'=σ
 | some o=>(guardG ops σ o=.no ∧ σ'=σ.put o.dst undefS) ∨
  (guardG ops σ o=.yes ∧ ∃ p,plan P T σ (nv0 + i * stride) (len0 + i) o.op=.ok p ∧ p.defs.length + p.post.length ≤ stride ∧ Fine T E (nv0 + i * stride) p ∧ (isNew p.eff=true → σ.boxes[len0 + i]?=some none) ∧ σ'=applyP σ p (len0 + i) o.dst)
inductive Lex (P:Program) (T:List K) (ops:Array Oper) (nv0 len0:Nat) (E:Nat → Int):List Oper → Nat → St → St → Prop
 | nil (i:Nat) (σ:St):Lex P T ops nv0 len0 E [] i σ σ
 | cons {o:Oper} {l:List Oper} {i:Nat} {σ σ1 σ2:St} (h:AStep P T ops nv0 len0 E i σ σ1) (t:Lex P T ops nv0 len0 E l (i + 1) σ1 σ2):Lex P T ops nv0 len0 E (o :: l) i σ σ2
theorem put_nv (σ:St) (nv':Nat) (d:Option Nat) (s:SV):({σ with nv:=nv' }:St).put d s={σ.put d s with nv:=nv' }:=by cases d <;> rfl
theorem applyP_nv (σ:St) (nv':Nat) (p:Plan) (nid:Nat) (d:Option Nat):applyP {σ with nv:=nv' } p nid d={applyP σ p nid d with nv:=nv' }:=by
 simp only [applyP_def]
 cases p.eff with
 | none=>cases d <;> rfl
 | new bx=>cases d <;> rfl
 | extv=>cases d <;> rfl
 | wr id u=>simp only; split <;> cases d <;> rfl
 | grow old bx=>cases d <;> rfl
theorem put_same (σ:St) (d:Option Nat) (s:SV):(σ.put d s).nv=σ.nv ∧ (σ.put d s).boxes=σ.boxes ∧ (σ.put d s).kn=σ.kn ∧ (σ.put d s).gl=σ.gl ∧ (σ.put d s).lvl=σ.lvl ∧ (σ.put d s).al=σ.al:=by cases d <;> exact ⟨rfl,rfl,rfl,rfl,rfl,rfl⟩
theorem applyP_len (σ:St) (p:Plan) (nid:Nat) (d:Option Nat):(applyP σ p nid d).boxes.length=σ.boxes.length ∧ (applyP σ p nid d).nv=σ.nv ∧ (applyP σ p nid d).lvl=σ.lvl:=by
 simp only [applyP_def]
 rw [(put_same _ _ _).2.1,(put_same _ _ _).1,(put_same _ _ _).2.2.2.2.1]
 cases p.eff with
 | none=>exact ⟨rfl,rfl,rfl⟩
 | new bx=>exact ⟨by simp,rfl,rfl⟩
 | extv=>exact ⟨rfl,rfl,rfl⟩
 | wr id u=>simp only; split <;> exact ⟨by simp,rfl,rfl⟩
 | grow old bx=>exact ⟨by simp [noRows_len],rfl,rfl⟩
theorem applyP_box (σ:St) (p:Plan) (nid:Nat) (d:Option Nat) {k:Nat} (hk:σ.boxes[k]?=some none) (hne:k ≠ nid):(applyP σ p nid d).boxes[k]?=some none:=by
 simp only [applyP_def]
 rw [(put_same _ _ _).2.1]
 cases p.eff with
 | none=>exact hk
 | new bx=>simp only; rw [List.getElem?_set_ne (Ne.symm hne)]; exact hk
 | grow old bx=>simp only; rw [List.getElem?_set_ne (Ne.symm hne)]; exact noRows_none _ hk
 | extv=>exact hk
 | wr id u =>
  simp only
  split
  ·rename_i b hb
   simp only
   by_cases he:id=k
   ·subst he; rw [hk] at hb; cases hb
   ·rw [List.getElem?_set_ne he]; exact hk
  ·exact hk
def KMono (kn kn':List (Nat × Bool)):Prop:=∀ n b,lookB kn n=some b → lookB kn' n=some b
theorem truth_kn {τ:St} {kn':List (Nat × Bool)} (hk:KMono τ.kn kn') {x:A}:(truth τ x=.yes → truth {τ with kn:=kn' } x=.yes) ∧ (truth τ x=.no → truth {τ with kn:=kn' } x=.no):=by
 cases x with
 | lit n=>exact ⟨fun h=>h,fun h=>h⟩
 | limb n j=>exact ⟨fun h=>h,fun h=>h⟩
 | var n =>
  simp only [truth]
  cases hl:lookB τ.kn n with
  | none=>exact ⟨fun h=>by simp at h,fun h=>by simp at h⟩
  | some b=>rw [hk n b hl]; exact ⟨fun h=>h,fun h=>h⟩
theorem guardG_kn {all:Array Oper} {τ:St} {kn':List (Nat × Bool)} (hk:KMono τ.kn kn') {o:Oper}:(guardG all τ o=.yes → guardG all {τ with kn:=kn' } o=.yes) ∧ (guardG all τ o=.no → guardG all {τ with kn:=kn' } o=.no):=by
 rw [guardG_def,guardG_def]
 cases o.guard with
 | none=>exact ⟨fun h=>h,fun h=>h⟩
 | some q =>
  obtain ⟨j,want⟩:=q
  simp only
  cases (all[j]?).bind (·.dst) with
  | none=>exact ⟨fun h=>h,fun h=>h⟩
  | some t =>
   simp only
   cases τ.tmps[t]? with
   | none=>exact ⟨fun h=>h,fun h=>h⟩
   | some s =>
    cases s with
    | tup l=>exact ⟨fun h=>h,fun h=>h⟩
    | vl v =>
     cases v with
     | agg cs=>exact ⟨fun h=>h,fun h=>h⟩
     | one c =>
      cases c with
      | bool x =>
       simp only
       have htr:=truth_kn hk (x:=x)
       cases hx:truth τ x with
       | yes=>rw [htr.1 hx]; exact ⟨fun h=>h,fun h=>h⟩
       | no=>rw [htr.2 hx]; exact ⟨fun h=>h,fun h=>h⟩
       | need n=>exact ⟨fun h=>by simp at h,fun h=>by simp at h⟩
       | bad=>exact ⟨fun h=>by simp at h,fun h=>by simp at h⟩
      | _=>exact ⟨fun h=>h,fun h=>h⟩
theorem takeSh_kn (kn':List (Nat × Bool)) (nn:Nat) (s:Sh) (v:V):takeSh {σ with kn:=kn' } nn s v=takeSh σ nn s v:=by
 cases s <;> cases v <;> (try rfl)
theorem takeIns_kn (kn':List (Nat × Bool)):∀ (ss:List Sh) (vs:List V) (nn:Nat),takeIns {σ with kn:=kn' } nn ss vs=takeIns σ nn ss vs:=by
 intro ss
 induction ss with
 | nil=>intro vs nn; cases vs <;> rfl
 | cons s ss ih=>intro vs nn; cases vs with
  | nil=>rfl
  | cons v vs=>simp only [takeIns,takeSh_kn,ih]
theorem catP_kn (kn':List (Nat × Bool)) (nn:Nat) (op:Op):catP P {σ with kn:=kn' } nn op=catP P σ nn op:=by
 simp only [catP,srcK,takeSh_kn]; rfl
theorem plan_kn {nn nid:Nat} {p:Plan} {τ:St} {kn':List (Nat × Bool)} (hk:KMono τ.kn kn') (op:Op) (h:plan P T τ nn nid op=.ok p):plan P T {τ with kn:=kn' } nn nid op=.ok p:=by
 cases op with
 | call c=>rw [← h]; simp only [plan,takeIns_kn,catP_kn]; rfl
 | pick c x y =>
  have hc:({τ with kn:=kn' }:St).cell c=τ.cell c:=rfl
  have hv:∀ z,({τ with kn:=kn' }:St).val z=τ.val z:=fun _=>rfl
  simp only [plan,hc,hv] at h ⊢
  cases hcc:τ.cell c with
  | none=>rw [hcc] at h; cases h
  | some cc =>
   rw [hcc] at h
   cases cc with
   | bool t =>
    simp only at h ⊢
    have htr:=truth_kn hk (x:=t)
    cases ht:truth τ t with
    | yes=>rw [ht] at h; rw [htr.1 ht]; exact h
    | no=>rw [ht] at h; rw [htr.2 ht]; exact h
    | need n=>rw [ht] at h; cases h
    | bad=>rw [ht] at h; cases h
   | _=>cases h
 | _=>exact h
theorem put_kn (σ:St) (kn':List (Nat × Bool)) (d:Option Nat) (s:SV):({σ with kn:=kn' }:St).put d s={σ.put d s with kn:=kn' }:=by cases d <;> rfl
theorem applyP_kn (σ:St) (kn':List (Nat × Bool)) (p:Plan) (nid:Nat) (d:Option Nat):applyP {σ with kn:=kn' } p nid d={applyP σ p nid d with kn:=kn' }:=by
 simp only [applyP_def]
 cases p.eff with
 | none=>cases d <;> rfl
 | new bx=>cases d <;> rfl
 | extv=>cases d <;> rfl
 | wr id u=>simp only; split <;> cases d <;> rfl
 | grow old bx=>cases d <;> rfl
theorem applyP_knSame (σ:St) (p:Plan) (nid:Nat) (d:Option Nat):(applyP σ p nid d).kn=σ.kn:=by
 simp only [applyP_def]
 rw [(put_same _ _ _).2.2.1]
 cases p.eff with
 | wr id u=>simp only; split <;> rfl
 | _=>rfl
theorem lex_ok (hT:∀ (g:Nat) κ,T[g]?=some κ → κ.ok P) {all:Array Oper} {nv0 len0 nv1:Nat} {kk:St → Tree} {goal:Gl}:∀ (fuel:Nat) (l:List Oper) (i:Nat) (τ:St),(∀ j,l[j]?=all[i + j]?) → τ.nv=nv1 →
  nv0 + (i + l.length) * stride ≤ nv1 → (∀ k,i ≤ k → k < i + l.length → τ.boxes[len0 + k]?=some none) →
  ∀ (m:M) (a:Act) (w:World),Rep w0 m {τ with nv:=nv0 + i * stride } a w → (lexK P T all nv0 len0 fuel l i τ kk).holds T goal m.env →
  ∃ E σ',(∀ j,j < nv0 + i * stride → E j=m.env j) ∧ Lex P T all nv0 len0 E l i {τ with kn:=σ'.kn } σ' ∧ (kk σ').holds T goal E ∧ σ'.nv=nv1 ∧ σ'.lvl=τ.lvl ∧ KMono τ.kn σ'.kn ∧ (∀ p ∈ σ'.kn,p ∈ τ.kn ∨ (p.1 < nv1 ∧ decide (E p.1 ≠ 0)=p.2)):=by
 intro fuel
 induction fuel with
 | zero=>intro l i τ _ _ _ _ m a w _ hh; exact hh.elim
 | succ fuel ih =>
  intro l i τ hl hnv hle hbx m a w hR hh
  cases l with
  | nil=>exact ⟨m.env,τ,fun _ _=>rfl,.nil _ _,hh,hnv,rfl,fun _ _ h=>h,fun _ h=>.inl h⟩
  | cons o l =>
   have hoi:all[i]?=some o:=by simpa using (hl 0).symm
   have hl':∀ j,l[j]?=all[i + 1 + j]?:=fun j=>by have:=hl (j + 1); rw [show i + (j + 1)=i + 1 + j by omega] at this; simpa using this
   have hle':nv0 + (i + 1 + l.length) * stride ≤ nv1:=by simp only [List.length_cons] at hle; rw [show i + 1 + l.length=i + (l.length + 1) by omega]; exact hle
   have hmul:(i + 1) * stride=i * stride + stride:=by rw [Nat.add_mul,Nat.one_mul]
   have hle0:nv0 + i * stride ≤ nv1:=by
    have:=Nat.mul_le_mul_right stride (show i ≤ i + (o :: l).length by omega)
    omega
   have learn:∀ v,(if decide (v < nv0 + i * stride) && (lookB τ.kn v).isNone then Tree.split v (lexK P T all nv0 len0 fuel (o :: l) i (τ.know v true) kk) (lexK P T all nv0 len0 fuel (o :: l) i (τ.know v false) kk) else .bad 202 o.pos).holds T goal m.env →
     ∃ E σ',(∀ j,j < nv0 + i * stride → E j=m.env j) ∧ Lex P T all nv0 len0 E (o :: l) i {τ with kn:=σ'.kn } σ' ∧ (kk σ').holds T goal E ∧ σ'.nv=nv1 ∧ σ'.lvl=τ.lvl ∧ KMono τ.kn σ'.kn ∧ (∀ p ∈ σ'.kn,p ∈ τ.kn ∨ (p.1 < nv1 ∧ decide (E p.1 ≠ 0)=p.2)):=by
    intro v hs
    split at hs
    ·rename_i hc
     simp only [Bool.and_eq_true,decide_eq_true_eq,Option.isNone_iff_eq_none] at hc
     obtain ⟨hv,hnone⟩:=hc
     have go:∀ b,decide (m.env v ≠ 0)=b → (lexK P T all nv0 len0 fuel (o :: l) i (τ.know v b) kk).holds T goal m.env → ∃ E σ',(∀ j,j < nv0 + i * stride → E j=m.env j) ∧ Lex P T all nv0 len0 E (o :: l) i {τ with kn:=σ'.kn } σ' ∧ (kk σ').holds T goal E ∧ σ'.nv=nv1 ∧ σ'.lvl=τ.lvl ∧ KMono τ.kn σ'.kn ∧ (∀ p ∈ σ'.kn,p ∈ τ.kn ∨ (p.1 < nv1 ∧ decide (E p.1 ≠ 0)=p.2)):=by
      intro b hb hh'
      have hRk:Rep w0 m {τ.know v b with nv:=nv0 + i * stride } a w:=⟨hR.defers,hR.size,hR.tmp,hR.below,hR.own,hR.ro,hR.inj,fun p hp=>by
       rcases List.mem_cons.1 hp with rfl | hp
       ·exact ⟨hv,hb⟩
       ·exact hR.kn p hp,hR.gl,hR.rows,hR.rbox,hR.rsep⟩
      obtain ⟨E,σ',e1,e2,e3,e4,e5,e6,e7⟩:=ih (o :: l) i (τ.know v b) hl hnv hle hbx m a w hRk hh'
      refine ⟨E,σ',e1,e2,e3,e4,e5,fun n b' hn=>e6 n b' ?_,fun p hp=>?_⟩
      ·simp only [St.know,lookB]
       by_cases hvn:v=n
       ·subst hvn; rw [hnone] at hn; cases hn
       ·rw [if_neg (by simpa using hvn)]; exact hn
      ·rcases e7 p hp with h | h
       ·rcases List.mem_cons.1 h with rfl | h
        ·exact .inr ⟨by simp only; omega,by simp only; rw [e1 v hv]; exact hb⟩
        ·exact .inl h
       ·exact .inr h
     by_cases hz:m.env v=0
     ·exact go false (by simp [hz]) (hs.2 hz)
     ·exact go true (by simp [hz]) (hs.1 hz)
    ·exact hs.elim
   unfold lexK at hh
   simp only at hh
   have gnv:guardG all {τ with nv:=nv0 + i * stride } o=guardG all τ o:=rfl
   have hgd:=guard_ok hR (all:=all) (o:=o)
   rw [gnv] at hgd
   cases hg:guardG all τ o with
   | bad=>rw [hg] at hh; exact hh.elim
   | need n=>rw [hg] at hh; exact learn n hh
   | no =>
    rw [hg] at hh
    simp only at hh
    have hput:=hR.put (s:=undefS) (v:=undef) ⟨[],rfl,trivial⟩ o.dst
    rw [put_nv] at hput
    have hput':=hput.nv_irrel (nv0 + (i + 1) * stride) (by show nv0 + i * stride ≤ _; omega)
    obtain ⟨E,σ',e1,e2,e3,e4,e5,e6,e7⟩:=ih l (i + 1) (τ.put o.dst undefS) hl' (by rw [(put_same _ _ _).1]; exact hnv) hle' (fun k h1 h2=>by rw [(put_same _ _ _).2.1]; exact hbx k (by omega) (by simp only [List.length_cons]; omega)) m _ w hput' hh
    rw [(put_same _ _ _).2.2.1] at e6 e7
    refine ⟨E,σ',fun j hj=>e1 j (by omega),.cons ?_ e2,e3,e4,by rw [e5,(put_same _ _ _).2.2.2.2.1],e6,e7⟩
    unfold AStep
    rw [hoi]
    exact .inl ⟨(guardG_kn e6).2 hg,(put_kn _ _ _ _).symm⟩
   | yes =>
    rw [hg] at hh
    simp only at hh
    cases hp:plan P T τ (nv0 + i * stride) (len0 + i) o.op with
    | need n=>rw [hp] at hh; exact learn n hh
    | bad n=>rw [hp] at hh; exact hh.elim
    | call f args=>rw [hp] at hh; exact hh.elim
    | ok p =>
     rw [hp] at hh
     simp only at hh
     split at hh
     ·rename_i hst
      have hp':plan P T {τ with nv:=nv0 + i * stride } (nv0 + i * stride) (len0 + i) o.op=.ok p:=by rw [plan_nv]; exact hp
      obtain ⟨e,he1,he2,he3⟩:=plan_env' hT hR hp' (Nat.le_refl _) hh
      have hnew:isNew p.eff=true → τ.boxes[len0 + i]?=some none:=fun _=>hbx i (by omega) (by simp)
      have hR1:=hR.names e (fun j hj=>he1 j hj) (nv0 + (i + 1) * stride) (by show nv0 + i * stride ≤ _; omega)
      have hf:=he2 e (fun _ _=>rfl)
      have hex:=wp_exists (op_exec (Q:=fun _ _ _=>False) (K:=fun a' w'=>∃ m',m'.env=e ∧ Rep w0 m' (applyP {τ with nv:=nv0 + (i + 1) * stride } p (len0 + i) o.dst) a' w') hT hR1
       (show plan P T {τ with nv:=nv0 + (i + 1) * stride } (nv0 + i * stride) (len0 + i) o.op=.ok p by rw [plan_nv]; exact hp) hnew hf.defs hf.post (by show _ ≤ nv0 + (i + 1) * stride; omega) hf.nz hf.req
       (fun m' a' w' h1 _ h3=>⟨m',h1,h3⟩))
      obtain ⟨a',w',m',hm',hR2⟩:=hex
      rw [applyP_nv] at hR2
      obtain ⟨E,σ',e1,e2,e3,e4,e5,e6,e7⟩:=ih l (i + 1) (applyP τ p (len0 + i) o.dst) hl' (by rw [(applyP_len _ _ _ _).2.1]; exact hnv) hle'
       (fun k h1 h2=>applyP_box _ _ _ _ (hbx k (by omega) (by simp only [List.length_cons]; omega)) (by omega)) m' a' w' hR2 (by rw [hm']; exact he3)
      rw [applyP_knSame] at e6 e7
      refine ⟨E,σ',fun j hj=>by rw [e1 j (by omega),hm']; exact he1 j hj,.cons ?_ e2,e3,e4,by rw [e5,(applyP_len _ _ _ _).2.2],e6,e7⟩
      unfold AStep
      rw [hoi]
      exact .inr ⟨(guardG_kn e6).1 hg,p,plan_kn e6 _ hp,hst,he2 E (fun j hj=>by rw [e1 j (by omega),hm']),hnew,(applyP_kn _ _ _ _ _).symm⟩
     ·exact hh.elim
end
end Go.Sx
