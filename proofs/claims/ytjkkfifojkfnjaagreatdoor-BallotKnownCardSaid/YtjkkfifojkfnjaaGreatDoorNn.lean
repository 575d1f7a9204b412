/- Part Nn of the proof. -/
import Derived.Test.YtjkkfifojkfnjaaGreatDoorNm
import Derived.Test.YtjkkfifojkfnjaaGreatDoorNg
set_option linter.unusedVariables false
set_option linter.unusedSimpArgs false
namespace Go.Cx
open Go Go.Sx Go.RowKit
section
variable {P:Program} {Z S:Nat → Prop} {F:Nat → Option Obj} {w0 w:World} {ρ:Rho} {σ σ':St} {a:Act} {o:Oper} {s:SV}
theorem setObj_at (w:World) (b:Nat) (x:Obj) (h:b < w.heap.size):({w with heap:=w.heap.setIfInBounds b x }:World).heap[b]?=some x:=by
 show (w.heap.setIfInBounds b x)[b]?=some x
 rw [Array.getElem?_setIfInBounds_self_of_lt h]
theorem WR.setObj {H:T Ob} {nx:Nat} (h:WR Z S F w0 ρ H nx w) {id:Nat} {p:Pl} (hp:ρ id=some p) {o o':Ob} (ho:H.at id=some o) (how:o.own=true) (hS:¬ S p.b) (x:Obj)
  (hR:∀ w':World,w'.heap[p.b]?=some x → o'.R S ρ p w'):WR Z S F w0 ρ (H.put id o') nx {w with heap:=w.heap.setIfInBounds p.b x } :=
 h.upd hp ho how hS rfl rfl rfl (by simp) (fun b hb=>by
  show (w.heap.setIfInBounds p.b x)[b]?=_
  rw [Array.getElem?_setIfInBounds_ne (Ne.symm hb)]) (hR _ (setObj_at w p.b x (h.lt id p hp).2))
theorem run_setMap {r:Nat} {ar:Array MapEntry} {clock:Nat} (x:Obj) (h:w.heap[r]?=some (.map ar clock)):(setObj r x).run P w=.ok () {w with heap:=w.heap.setIfInBounds r x }:=by
 simp only [Go.setObj,Sem.run,h]
theorem run_setIter {r:Nat} {m:Option Nat} {since last:Nat} {seen:Array Nat} (x:Obj) (h:w.heap[r]?=some (.mapIter m since seen last)):(setObj r x).run P w=.ok () {w with heap:=w.heap.setIfInBounds r x }:=by
 simp only [Go.setObj,Sem.run,h]
theorem run_setStr {r:Nat} {b:ByteArray} {pos:Nat} (x:Obj) (h:w.heap[r]?=some (.stringIter b pos)):(setObj r x).run P w=.ok () {w with heap:=w.heap.setIfInBounds r x }:=by
 simp only [Go.setObj,Sem.run,h]
theorem run_getStr {r:Nat} {b:ByteArray} {pos:Nat} (h:w.heap[r]?=some (.stringIter b pos)):(getObj r).run P w=.ok (.stringIter b pos) w:=by
 simp only [getObj,Sem.run,h]
theorem MEs.length:∀ {es:List ME} {fs:List MapEntry},MEs ρ es fs → es.length=fs.length
 | [],[],_=>rfl
 | [],_ :: _,h=>h.elim
 | _ :: _,[],h=>h.elim
 | _ :: _,_ :: _,h=>by simp [MEs.length h.2]
theorem MEs.app:∀ {es es':List ME} {fs fs':List MapEntry},MEs ρ es fs → MEs ρ es' fs' → MEs ρ (es ++ es') (fs ++ fs')
 | [],_,[],_,_,h=>h
 | [],_,_ :: _,_,h,_=>h.elim
 | _ :: _,_,[],_,h,_=>h.elim
 | _ :: _,_,_ :: _,_,h,k=>⟨h.1,MEs.app h.2 k⟩
theorem MEs.set:∀ {es:List ME} {fs:List MapEntry},MEs ρ es fs → ∀ (i:Nat) (e:ME) (g:MapEntry → MapEntry),(∀ f,fs[i]?=some f → e.key.R ρ (g f).key ∧ e.val.R ρ (g f).val ∧ (g f).born=e.born) → MEs ρ (setAt e i es) (fs.modify i g)
 | [],[],_,i,e,g,_=>by cases i <;> simp [setAt,List.modify,MEs]
 | [],_ :: _,h,_,_,_,_=>h.elim
 | _ :: _,[],h,_,_,_,_=>h.elim
 | e1 :: es,f1 :: fs,h,0,e,g,hg=>by
  simp only [setAt,List.modify_zero_cons]
  exact ⟨hg f1 rfl,h.2⟩
 | e1 :: es,f1 :: fs,h,i + 1,e,g,hg=>by
  simp only [setAt,List.modify_succ_cons]
  exact ⟨h.1,MEs.set h.2 i e g fun f hf=>hg f (by simpa using hf)⟩
theorem MEs.del:∀ {es:List ME} {fs:List MapEntry},MEs ρ es fs → ∀ (i:Nat),MEs ρ (delAt i es) (fs.eraseIdx i)
 | [],[],_,i=>by simp [delAt,MEs]
 | [],_ :: _,h,_=>h.elim
 | _ :: _,[],h,_=>h.elim
 | e1 :: es,f1 :: fs,h,0=>by simpa [delAt] using h.2
 | e1 :: es,f1 :: fs,h,i + 1=>by
  simp only [delAt,List.eraseIdx_cons_succ]
  exact ⟨h.1,MEs.del h.2 i⟩
def FlatV:CV → Prop | .int _ _ | .bool _ | .str _=>True | _=>False
theorem flat_det {c:CV} (h:FlatV c) {v v':Value} (h1:c.R ρ v) (h2:c.R ρ v'):v=v' ∧ ∀ n,Instr.sameBits n v v=true:=by
 cases c <;> simp only [FlatV] at h
 ·rename_i k n
  obtain rfl:v=_:=h1
  obtain rfl:v'=_:=h2
  exact ⟨rfl,fun n=>by cases n <;> simp [Instr.sameBits] <;> cases k <;> rfl⟩
 ·rename_i b
  obtain rfl:v=_:=h1
  obtain rfl:v'=_:=h2
  exact ⟨rfl,fun n=>by cases n <;> simp [Instr.sameBits]⟩
 ·obtain ⟨s1,rfl,e1⟩:=h1
  obtain ⟨s2,rfl,e2⟩:=h2
  have h3:=strOf_inj (e1.trans e2.symm)
  have:s1=s2:=by
   cases s1 with | mk a=>cases s2 with | mk b =>
    have:a=b:=Array.toList_inj.1 h3
    rw [this]
  subst this
  exact ⟨rfl,fun n=>by cases n <;> simp [Instr.sameBits,str_beq',strEq_ok]⟩
theorem flats_det:∀ {cs:List CV},(∀ c ∈ cs,FlatV c) → ∀ {vs vs':List Value},CRs ρ cs vs → CRs ρ cs vs' → vs=vs' ∧ ∀ n,((vs.zip vs).all fun (x,y)=>Instr.sameBits n x y)=true
 | [],_,[],[],_,_=>⟨rfl,fun _=>rfl⟩
 | [],_,_ :: _,_,h,_=>h.elim
 | [],_,[],_ :: _,_,h=>h.elim
 | _ :: _,_,[],_,h,_=>h.elim
 | _ :: _,_,_ :: _,[],_,h=>h.elim
 | c :: cs,hf,v :: vs,v' :: vs',h,h'=>by
  obtain ⟨e1,e2⟩:=flat_det (hf c (by simp)) h.1 h'.1
  obtain ⟨e3,e4⟩:=flats_det (fun c hc=>hf c (by simp [hc])) h.2 h'.2
  subst e1; subst e3
  exact ⟨rfl,fun n=>by simp [e2 n]; simpa using e4 n⟩
def PreAt (f:List CV → List CV → Option (Bool × List CV × List CV)):Prop:=∀ xs ys xs' ys',f xs ys=some (true,xs',ys') → ∃ p,xs=p ++ xs' ∧ ys=p ++ ys' ∧ ∀ c ∈ p,FlatV c
theorem preNs {f:List CV → List CV → Option (Bool × List CV × List CV)} (hf:PreAt f):∀ n,PreAt (eqNs f n)
 | 0,xs,ys,xs',ys',h=>by simp [eqNs] at h; obtain ⟨rfl,rfl⟩:=h; exact ⟨[],rfl,rfl,by simp⟩
 | n + 1,xs,ys,xs',ys',h=>by
  unfold eqNs at h
  split at h
  ·cases h
  ·rename_i r hr
   obtain ⟨b1,xs1,ys1⟩:=r
   simp only at h
   split at h
   ·cases h
   ·rename_i q hq
    obtain ⟨b2,xs2,ys2⟩:=q
    simp at h
    obtain ⟨⟨rfl,rfl⟩,rfl,rfl⟩:=h
    obtain ⟨p,e1,e2,e3⟩:=hf _ _ _ _ hr
    obtain ⟨p',e4,e5,e6⟩:=preNs hf n _ _ _ _ hq
    exact ⟨p ++ p',by rw [e1,e4,List.append_assoc],by rw [e2,e5,List.append_assoc],fun c hc=>by rcases List.mem_append.1 hc with h | h; exact e3 c h; exact e6 c h⟩
theorem preFs {f:TypeId → List CV → List CV → Option (Bool × List CV × List CV)} (hf:∀ t,PreAt (f t)) (sz:TypeId → Option Nat):∀ (fs:List Field) (n:Nat) xs ys n' xs' ys',eqFs f sz fs n xs ys=some (true,n',xs',ys') → ∃ p,xs=p ++ xs' ∧ ys=p ++ ys' ∧ ∀ c ∈ p,FlatV c
 | [],n,xs,ys,n',xs',ys',h=>by simp [eqFs] at h; obtain ⟨rfl,rfl,rfl⟩:=h; exact ⟨[],rfl,rfl,by simp⟩
 | fd :: fs,n,xs,ys,n',xs',ys',h=>by
  unfold eqFs at h
  split at h
  ·cases h
  ·split at h
   ·rename_i r s hr hs
    obtain ⟨b1,xs1,ys1⟩:=r
    simp only at h
    split at h
    ·cases h
    ·rename_i q hq
     obtain ⟨b2,n2,xs2,ys2⟩:=q
     simp at h
     obtain ⟨⟨rfl,rfl⟩,rfl,rfl,rfl⟩:=h
     obtain ⟨p,e1,e2,e3⟩:=hf _ _ _ _ _ hr
     obtain ⟨p',e4,e5,e6⟩:=preFs hf sz fs _ _ _ _ _ _ hq
     exact ⟨p ++ p',by rw [e1,e4,List.append_assoc],by rw [e2,e5,List.append_assoc],fun c hc=>by rcases List.mem_append.1 hc with h | h; exact e3 c h; exact e6 c h⟩
   ·cases h
theorem preW:∀ (d:Nat) (t:TypeId),PreAt (eqW P d t)
 | 0,t,xs,ys,xs',ys',h=>by simp [eqW] at h
 | d + 1,t,xs,ys,xs',ys',h=>by
  unfold eqW at h
  split at h
  ·split at h
   ·split at h
    ·rename_i hk
     simp at h hk
     obtain ⟨e1,rfl,rfl⟩:=h
     rw [intEq_ok] at e1
     simp at e1
     subst e1
     rw [hk.1]
     exact ⟨[_],rfl,rfl,by simp [FlatV]⟩
    ·cases h
   ·cases h
  ·split at h
   ·split at h
    ·simp at h
     obtain ⟨e1,rfl,rfl⟩:=h
     subst e1
     exact ⟨[_],rfl,rfl,by simp [FlatV]⟩
    ·cases h
   ·cases h
  ·split at h
   ·split at h
    ·simp at h
     obtain ⟨e1,rfl,rfl⟩:=h
     rw [strEq_ok] at e1
     simp at e1
     subst e1
     exact ⟨[_],rfl,rfl,by simp [FlatV]⟩
    ·cases h
   ·cases h
  ·split at h
   ·exact preNs (preW d _) _ _ _ _ _ h
   ·cases h
  ·split at h
   ·cases h
   ·split at h
    ·rename_i r hr
     obtain ⟨r1,r2,r3,r4⟩:=r
     split at h
     ·simp at h
      obtain ⟨rfl,rfl,rfl⟩:=h
      exact preFs (fun t=>preW d t) _ _ _ _ _ _ _ _ hr
     ·cases h
    ·cases h
  ·cases h
theorem key_same {kt:TypeId} {u v:V} {k k':Value} (h:lookM.keyEq P kt u v=some true) (h1:u.R ρ k) (h2:v.R ρ k'):Instr.sameBits 10000 k' k=true:=by
 rcases keyEq_form h with ⟨xs,ys,rfl,rfl⟩ | ⟨x,y,rfl,rfl⟩
 ·simp only [lookM.keyEq] at h
  split at h
  ·cases h
  ·split at h
   ·rename_i r hw
    cases h
    obtain ⟨p,e1,e2,e3⟩:=preW 20 kt _ _ _ _ hw
    simp at e1 e2
    subst e1; subst e2
    obtain ⟨vx,rfl,rx⟩:=h1
    obtain ⟨vy,rfl,ry⟩:=h2
    obtain ⟨e4,e5⟩:=flats_det e3 rx ry
    subst e4
    show Instr.sameBits (9999 + 1) _ _=true
    simp only [Instr.sameBits]
    simpa using e5 9999
   ·cases h
 ·simp only [lookM.keyEq] at h
  split at h
  ·cases h
  ·split at h
   ·rename_i r hw
    cases h
    obtain ⟨p,e1,e2,e3⟩:=preW 1 kt _ _ _ _ hw
    simp at e1 e2
    subst e1
    have:x=y:=by simpa using e2.symm
    subst this
    obtain ⟨e4,e5⟩:=flat_det (e3 x (by simp)) h1 h2
    subst e4
    exact e5 _
   ·cases h
theorem lookM_eq {kt:TypeId} {key:V}:∀ {es:List ME} {j:Nat} {e:ME},lookM P kt key es=some (some (j,e)) → lookM.keyEq P kt key e.key=some true
 | [],j,e,h=>by cases h
 | e' :: es,j,e,h=>by
  unfold lookM at h
  split at h
  ·cases h
  ·rename_i he; cases h; exact he
  ·split at h
   ·rename_i i e2 hi
    cases h
    exact lookM_eq hi
   ·rename_i hr
    exact absurd h (hr _ _)
theorem clear_ok (hw:WR Z S F w0 ρ σ.heap σ.next w) (hv:HV ρ σ a o) {c:Call} (ho:o.op=.call c) (hc:c.callee=.builtin .clear) (hp:bigB P σ .clear c.argTypes.toList c.args.toList=.st σ' s):BOk P Z S F w0 ρ σ' s a w o:=by
 obtain ⟨callee,args,argTypes⟩:=c
 simp only at hc hp
 subst hc
 unfold bigB at hp
 split at hp
 ·rename_i e _ _; cases e
 ·rename_i e _ _; cases e
 ·rename_i e _ _; cases e
 rotate_left
 ·cases hp
 rename_i t x _ ht hx
 have e1:argTypes=#[t]:=by apply Array.ext'; simpa using ht
 have e2:args=#[x]:=by apply Array.ext'; simpa using hx
 subst e1; subst e2
 have m1:x ∈ o.op.operands.toList:=by rw [ho]; simp [Op.operands,Call.operands]
 have fin:∀ {w':World},(Builtin.clear_ #[t] o.type #[a.eval x]).run P w=.ok (.tuple #[]) w' → (execOp a.eval o).run P w=.ok (.value (.tuple #[])) w':=by
  intro w' hr
  refine map_append ho rfl ?_
  simp [builtin,hr]
 split at hp
 ·rename_i e hu hcv
  cases hp
  have h1:a.eval x=.slice none 0 0:=hv.c m1 hcv
  refine ⟨ρ,_,_,w,fin (w':=w) ?_,rfl,Ext.refl ρ,hw,⟨[],rfl,trivial⟩⟩
  rw [h1]; simp [Builtin.clear_,run_underlying hu]
 ·rename_i e id off n cap hu hcv
  split at hp
  ·rename_i cs zz z zv hob hz hzv
   split at hp
   ·rename_i hb
    simp only [Bool.and_eq_true] at hb
    obtain ⟨⟨⟨hb1,hb2⟩,hb3⟩,hb4⟩:=hb
    have hb2:=Nat.eq_of_beq_eq_true hb2
    have hb3:0 < n * z:=by simpa using hb3
    cases hp
    obtain ⟨i,zl,z1,z2,z3,z4,z5⟩:=zeroOf_ok hzv
    obtain ⟨zs,hz1,hz2,hz4⟩:=V.R.cells (z3 ρ) z4
    have hzl:zs.length=z:=by rw [← CRs.length hz2]; exact hb2
    have hn0:0 < n:=Nat.pos_of_mul_pos_right hb3
    obtain ⟨p,c1,h1,h2⟩:=sl_at (hv.c m1 hcv) hn0
    obtain ⟨l,hg⟩:=Option.isSome_iff_exists.1 hb4
    have hroom:=gets_room hg hw h1 hob hb3
    have hfl:=flat_R hz2 n
    have hlen:((List.replicate n zs).flatten).length=n * z:=by rw [List.length_flatten]; simp [hzl]
    have hlc:=CRs.length hfl
    have hst:=hw.store h1 hob (off:=off) hfl (by omega)
    obtain ⟨r1,r2⟩:=hw.room h1 hob hroom
    have hone:∀ v ∈ (List.replicate n zs).flatten,v.oneCell'=true:=by
     intro v hv
     obtain ⟨l,hl,hvl⟩:=List.mem_flatten.1 hv
     rw [List.mem_replicate] at hl
     exact hz4 v (hl.2 ▸ hvl)
    have hrun:=run_storeCells_cells (P:=P) p.b (p.o + off) ((List.replicate n zs).flatten) 0 w (by simpa [hlen] using r1) (by simpa [hlen] using r2) hone
    simp only [Nat.add_zero] at hrun
    have hrow:(Builtin.zeroCells zl.cells n).toList=(List.replicate n zs).flatten:=by
     rw [hz1,← range_mod zs n]
     simp [Builtin.zeroCells]
    refine ⟨ρ,_,_,_,fin ?_,rfl,Ext.refl ρ,hst,⟨[],rfl,trivial⟩⟩
    rw [h2]
    have hn1:n ≠ 0:=by omega
    simp only [Builtin.clear_]
    cases n with
    | zero=>exact absurd rfl hn1
    | succ n' =>
     simp [run_underlying hu,z5 w]
     rw [hrow]
     simp only [Pl.at,hrun]
     rfl
   ·cases hp
  ·cases hp
 ·rename_i kt et hu hcv
  cases hp
  have h1:a.eval x=.map none:=hv.c m1 hcv
  refine ⟨ρ,_,_,w,fin (w':=w) ?_,rfl,Ext.refl ρ,hw,⟨[],rfl,trivial⟩⟩
  rw [h1]; simp [Builtin.clear_,run_underlying hu]
 ·rename_i kt et id hu hcv
  obtain ⟨p,h1,h2⟩:=hv.c m1 hcv
  split at hp
  ·rename_i es clock hob
   cases hp
   obtain ⟨g1,ar,g2,g3⟩:=hw.ob id p _ h1 hob
   refine ⟨ρ,_,_,_,fin (w':={w with heap:=w.heap.setIfInBounds p.b (.map #[] clock) }) ?_,rfl,Ext.refl ρ,hw.setObj h1 hob rfl g1 (.map #[] clock) (fun w' hw'=>⟨g1,#[],hw',trivial⟩),⟨[],rfl,trivial⟩⟩
   rw [h2]
   simp [Builtin.clear_,run_underlying hu,run_getMap g2,run_setMap _ g2]
  ·cases hp
 ·cases hp
theorem mapSet_ok (hw:WR Z S F w0 ρ σ.heap σ.next w) {mt kt et:TypeId} (hu:P.underlying mt=some (.map kt et)) {id:Nat} {m k x:Value} (hm:(CV.map id).R ρ m) {key val:V} (hk:key.R ρ k) (hx:val.R ρ x) {σ1:St} (hp:mapSet P σ kt id key val=some σ1) :
  ∃ w',(Instr.mapUpdate mt m k x).run P w=.ok () w' ∧ WR Z S F w0 ρ σ1.heap σ1.next w' ∧ σ1.tmps=σ.tmps ∧ σ1.nt=σ.nt ∧ σ1.gl=σ.gl:=by
 unfold mapSet at hp
 obtain ⟨p,h1,h2⟩:=hm
 split at hp
 ·rename_i es clock hob
  obtain ⟨g1,ar,g2,g3⟩:=hw.ob id p _ h1 hob
  split at hp
  ·cases hp
  ·rename_i hko
   have hko:keyOk P kt key=true:=by simpa using hko
   have hck:=fun em=>keyOk_ok hko hk em w
   split at hp
   ·rename_i i e hl
    cases hp
    obtain ⟨q,k1,f,k2,k3⟩:=find_ok hko hk g3 hl
    have hg:=lookM_get hl
    obtain ⟨f',j1,j2,j3,j4⟩:=g3.get hg
    rw [k2] at j1; cases j1
    have hsb:=key_same (lookM_eq hl) hk j2
    rw [k3] at k1
    have hfi:ar[i]?=some f:=by simpa using k2
    refine ⟨{w with heap:=w.heap.setIfInBounds p.b (.map (ar.modify i fun e=>{e with key:=k,val:=x }) clock) },?_,hw.setObj h1 hob rfl g1 _ (fun w' hw'=>⟨g1,_,hw',?_⟩),rfl,rfl,rfl⟩
    ·rw [h2]
     simp only [Instr.mapUpdate,Sem.run_bind,run_underlying hu,Result.andThen_ok,run_getMap g2,hck,k1,Nat.zero_add,hfi,Option.map_some,Option.getD_some,Instr.keyThatStays,hsb,if_true,Sem.run_pure,run_setMap _ g2]
    ·rw [Array.toList_modify]
     exact g3.set i _ _ fun f0 hf0=>by
      rw [k2] at hf0; cases hf0
      exact ⟨hk,hx,j4⟩
   ·rename_i hl
    cases hp
    obtain ⟨q,k1,k2⟩:=find_ok hko hk g3 hl
    have k2:q=none:=k2
    subst k2
    refine ⟨{w with heap:=w.heap.setIfInBounds p.b (.map (ar.push {key:=k,val:=x,born:=clock }) (clock + 1)) },?_,hw.setObj h1 hob rfl g1 _ (fun w' hw'=>⟨g1,_,hw',?_⟩),rfl,rfl,rfl⟩
    ·rw [h2]
     simp only [Instr.mapUpdate,Sem.run_bind,run_underlying hu,Result.andThen_ok,run_getMap g2,hck,k1,run_setMap _ g2]
    ·rw [Array.toList_push]
     exact g3.app ⟨⟨hk,hx,rfl⟩,trivial⟩
   ·cases hp
 ·cases hp
theorem update_ok (hw:WR Z S F w0 ρ σ.heap σ.next w) (hv:HV ρ σ a o) {t:TypeId} {m k x:Operand} (ho:o.op=.mapUpdate t m k x ∨ o.op=.insert t m k x) (hp:big P σ o=.st σ' s):BOk P Z S F w0 ρ σ' s a w o:=by
 have hp':(match P.underlying t,σ.c m,σ.v k,σ.v x with
  | some (.map kt _),some (.map id),some key,some val=>if key.cells.all CV.solid then match mapSet P σ kt id key val with | some σ'=>Big.st σ' undefS | none=>.no else .no
  | _,_,_,_=>.no)=.st σ' s:=by
  unfold big at hp
  rcases ho with ho | ho <;> rw [ho] at hp <;> exact hp
 have fin:∀ {w':World},(Instr.mapUpdate t (a.eval m) (a.eval k) (a.eval x)).run P w=.ok () w' → (execOp a.eval o).run P w=.ok .skip w':=by
  intro w' hr
  rcases ho with ho | ho <;> (simp only [execOp,ho]; simp [hr])
 have mem:∀ y ∈ [m,k,x],y ∈ o.op.operands.toList:=fun y hy=>by
  rcases ho with ho | ho <;> (rw [ho]; simpa [Op.operands] using hy)
 split at hp'
 ·rename_i kt et id key val hu hm hk hx
  split at hp'
  ·split at hp'
   ·rename_i σ1 hs
    cases hp'
    obtain ⟨w',h1,h2,h3⟩:=mapSet_ok hw hu (hv.c (mem m (by simp)) hm) (hv.v (mem k (by simp)) hk) (hv.v (mem x (by simp)) hx) hs
    exact ⟨ρ,.skip,undef,w',fin h1,rfl,Ext.refl ρ,h2,⟨[],rfl,trivial⟩⟩
   ·cases hp'
  ·cases hp'
 ·cases hp'
end
section
variable {P:Program} {Z S:Nat → Prop} {F:Nat → Option Obj} {w0 w:World} {ρ:Rho} {σ σ':St} {a:Act} {o:Oper} {s:SV}
theorem mapEntry_ok (hw:WR Z S F w0 ρ σ.heap σ.next w) (hv:HV ρ σ a o) {t:TypeId} {m k:Operand} (ho:o.op=.mapEntry t m k) (hp:big P σ o=.st σ' s):BOk P Z S F w0 ρ σ' s a w o:=by
 unfold big at hp; rw [ho] at hp; simp only at hp
 have fin:∀ {r:Value} {w':World},(Instr.mapEntry t (a.eval m) (a.eval k)).run P w=.ok r w' → (execOp a.eval o).run P w=.ok (.value r) w':=by
  intro r w' hr
  simp only [execOp,ho]; simp [hr]
 split at hp
 ·rename_i kt et id key hu hm hk
  obtain ⟨p,h1,h2⟩:=hv.c (x:=m) (by simp [ho,Op.operands]) hm
  have hk:=hv.v (x:=k) (by simp [ho,Op.operands]) hk
  split at hp
  ·rename_i es clock z hob hz
   obtain ⟨g1,ar,g2,g3⟩:=hw.ob id p _ h1 hob
   obtain ⟨i0,zl,z1,z2,z3,z4,z5⟩:=zeroOf_ok hz
   split at hp
   ·cases hp
   ·rename_i hko
    have hko:keyOk P kt key=true:=by simpa using hko
    have hck:=fun em=>keyOk_ok hko hk em w
    split at hp
    ·rename_i i e hl
     cases hp
     obtain ⟨q,k1,f,k2,k3⟩:=find_ok hko hk g3 hl
     obtain ⟨f',j1,j2,j3,j4⟩:=g3.get (lookM_get hl)
     rw [k2] at j1; cases j1
     have hsb:=key_same (lookM_eq hl) hk j2
     rw [k3] at k1
     have hfi:ar[i]?=some f:=by simpa using k2
     refine ⟨ρ,_,_,_,fin (r:=.tuple #[f.val,goInt f.born]) (w':={w with heap:=w.heap.setIfInBounds p.b (.map (ar.modify i fun e=>{e with key:=a.eval k }) clock) }) ?_,rfl,Ext.refl ρ,hw.setObj h1 hob rfl g1 _ (fun w' hw'=>⟨g1,_,hw',?_⟩),⟨[f.val,goInt f.born],rfl,j3,?_,trivial⟩⟩
     ·rw [h2]
      simp only [Instr.mapEntry,Sem.run_bind,run_underlying hu,Result.andThen_ok,run_getMap g2,hck,k1,Nat.zero_add,hfi,Option.map_some,Option.getD_some,Instr.keyThatStays,hsb,if_true,Sem.run_pure,run_setMap _ g2]
     ·rw [Array.toList_modify]
      exact g3.set i _ _ fun f0 hf0=>by
       rw [k2] at hf0; cases hf0
       exact ⟨hk,j3,j4⟩
     ·show goInt f.born=.int .i64 (e.born:Int)
      rw [j4]; rfl
    ·rename_i hl
     cases hp
     obtain ⟨q,k1,k2⟩:=find_ok hko hk g3 hl
     have k2:q=none:=k2
     subst k2
     refine ⟨ρ,_,_,_,fin (r:=.tuple #[zl,goInt clock]) (w':={w with heap:=w.heap.setIfInBounds p.b (.map (ar.push {key:=a.eval k,val:=zl,born:=clock }) (clock + 1)) }) ?_,rfl,Ext.refl ρ,hw.setObj h1 hob rfl g1 _ (fun w' hw'=>⟨g1,_,hw',?_⟩),⟨[zl,goInt clock],rfl,z3 ρ,rfl,trivial⟩⟩
     ·rw [h2]
      simp only [Instr.mapEntry,Sem.run_bind,run_underlying hu,Result.andThen_ok,run_getMap g2,hck,k1,z5 w,run_setMap _ g2,Sem.run_pure]
     ·rw [Array.toList_push]
      exact g3.app ⟨⟨hk,z3 ρ,rfl⟩,trivial⟩
    ·cases hp
  ·cases hp
 ·cases hp
theorem MEs.findIdx {n:Nat}:∀ {es:List ME} {fs:List MapEntry},MEs ρ es fs → fs.findIdx? (fun f=>(f.born:Int) == (n:Int))=es.findIdx? (fun e=>Nat.beq e.born n)
 | [],[],_=>rfl
 | [],_ :: _,h=>h.elim
 | _ :: _,[],h=>h.elim
 | e1 :: es,f1 :: fs,h=>by
  rw [List.findIdx?_cons,List.findIdx?_cons,MEs.findIdx h.2]
  have:((f1.born:Int) == (n:Int))=Nat.beq e1.born n:=by
   rw [h.1.2.2,Bool.eq_iff_iff]; simp; omega
  rw [this]
theorem entryStore_ok (hw:WR Z S F w0 ρ σ.heap σ.next w) (hv:HV ρ σ a o) {t:TypeId} {m st x:Operand} (ho:o.op=.entryStore t m st x) (hp:big P σ o=.st σ' s):BOk P Z S F w0 ρ σ' s a w o:=by
 unfold big at hp; rw [ho] at hp; simp only at hp
 split at hp
 ·rename_i id born val hm hb hx
  obtain ⟨p,h1,h2⟩:=hv.c (x:=m) (by simp [ho,Op.operands]) hm
  obtain ⟨kk,hk⟩:=hv.nat (x:=st) (by simp [ho,Op.operands]) hb
  have hx:=hv.v (x:=x) (by simp [ho,Op.operands]) hx
  split at hp
  ·rename_i es clock hob
   obtain ⟨g1,ar,g2,g3⟩:=hw.ob id p _ h1 hob
   split at hp
   ·rename_i i hi
    split at hp
    ·rename_i e he
     cases hp
     have hfi:=g3.findIdx (n:=born)
     rw [hi] at hfi
     have hfi2:ar.findIdx? (fun e=>(e.born:Int) == (born:Int))=some i:=by
      rw [show ar=ar.toList.toArray by simp,List.findIdx?_toArray]; exact hfi
     obtain ⟨f,j1,j2,j3,j4⟩:=g3.get he
     refine ⟨ρ,.skip,undef,{w with heap:=w.heap.setIfInBounds p.b (.map (ar.modify i fun e=>{e with val:=a.eval x }) clock) },?_,rfl,Ext.refl ρ,hw.setObj h1 hob rfl g1 _ (fun w' hw'=>⟨g1,_,hw',?_⟩),⟨[],rfl,trivial⟩⟩
     ·simp only [execOp,ho,h2,hk,Instr.entryStore]
      simp only [Sem.run_bind,run_getMap g2,Result.andThen_ok,asInt,asIntOf,Sem.run_pure,hfi2,run_setMap _ g2]
     ·rw [Array.toList_modify]
      exact g3.set i _ _ fun f0 hf0=>by
       rw [j1] at hf0; cases hf0
       exact ⟨j2,hx,j4⟩
    ·cases hp
   ·cases hp
  ·cases hp
 ·cases hp
theorem delete_ok (hw:WR Z S F w0 ρ σ.heap σ.next w) (hv:HV ρ σ a o) {c:Call} (ho:o.op=.call c) (hc:c.callee=.builtin .delete) (hp:bigB P σ .delete c.argTypes.toList c.args.toList=.st σ' s):BOk P Z S F w0 ρ σ' s a w o:=by
 obtain ⟨callee,args,argTypes⟩:=c
 simp only at hc hp
 subst hc
 unfold bigB at hp
 split at hp
 ·rename_i e _ _; cases e
 ·rename_i e _ _; cases e
 rotate_left
 ·rename_i e _ _; cases e
 ·cases hp
 rename_i t tk m k _ ht hx
 have e1:argTypes=#[t,tk]:=by apply Array.ext'; simpa using ht
 have e2:args=#[m,k]:=by apply Array.ext'; simpa using hx
 subst e1; subst e2
 have m1:m ∈ o.op.operands.toList:=by rw [ho]; simp [Op.operands,Call.operands]
 have m2:k ∈ o.op.operands.toList:=by rw [ho]; simp [Op.operands,Call.operands]
 have fin:∀ {w':World},(Builtin.delete_ #[t,tk] o.type #[a.eval m,a.eval k]).run P w=.ok (.tuple #[]) w' → (execOp a.eval o).run P w=.ok (.value (.tuple #[])) w':=by
  intro w' hr
  refine map_append ho rfl ?_
  simp [builtin,hr]
 split at hp
 ·rename_i kt et id key hu hm hk
  obtain ⟨p,h1,h2⟩:=hv.c m1 hm
  have hk:=hv.v m2 hk
  split at hp
  ·rename_i es clock hob
   obtain ⟨g1,ar,g2,g3⟩:=hw.ob id p _ h1 hob
   split at hp
   ·cases hp
   ·rename_i hko
    have hko:keyOk P kt key=true:=by simpa using hko
    have hck:=fun em=>keyOk_ok hko hk em w
    split at hp
    ·rename_i i e hl
     cases hp
     obtain ⟨q,k1,f,k2,k3⟩:=find_ok hko hk g3 hl
     rw [k3] at k1
     refine ⟨ρ,_,_,_,fin (w':={w with heap:=w.heap.setIfInBounds p.b (.map (ar.eraseIdxIfInBounds i) clock) }) ?_,rfl,Ext.refl ρ,hw.setObj h1 hob rfl g1 _ (fun w' hw'=>⟨g1,_,hw',?_⟩),⟨[],rfl,trivial⟩⟩
     ·rw [h2]
      simp [Builtin.delete_,run_underlying hu,run_getMap g2,hck,k1,run_setMap _ g2]
     ·have:(ar.eraseIdxIfInBounds i).toList=ar.toList.eraseIdx i:=by
       have hi:i < ar.size:=by
        have:=(List.getElem?_eq_some_iff.1 k2).1
        simpa using this
       simp [Array.eraseIdxIfInBounds,hi]
      rw [this]
      exact g3.del i
    ·rename_i hl
     cases hp
     obtain ⟨q,k1,k2⟩:=find_ok hko hk g3 hl
     have k2:q=none:=k2
     subst k2
     have hself:=hw.setObj h1 hob rfl g1 (.map ar clock) (o':=.map es clock) (fun w' hw'=>⟨g1,ar,hw',g3⟩)
     refine ⟨ρ,_,_,_,fin (w':={w with heap:=w.heap.setIfInBounds p.b (.map ar clock) }) ?_,rfl,Ext.refl ρ,?_,⟨[],rfl,trivial⟩⟩
     ·rw [h2]
      simp [Builtin.delete_,run_underlying hu,run_getMap g2,hck,k1,run_setMap _ g2]
     ·exact hw.world rfl rfl rfl (by simp) fun b hb=>by
       show (w.heap.setIfInBounds p.b (.map ar clock))[b]?=_
       by_cases he:b=p.b
       ·subst he
        rw [Array.getElem?_setIfInBounds_self_of_lt hb,g2]
       ·rw [Array.getElem?_setIfInBounds_ne (Ne.symm he)]
    ·cases hp
  ·cases hp
 ·cases hp
theorem MEs.filter (q:Nat → Bool):∀ {es:List ME} {fs:List MapEntry},MEs ρ es fs → MEs ρ (es.filter fun e=>q e.born) (fs.filter fun f=>q f.born)
 | [],[],_=>trivial
 | [],_ :: _,h=>h.elim
 | _ :: _,[],h=>h.elim
 | e1 :: es,f1 :: fs,h=>by
  rw [List.filter_cons,List.filter_cons,h.1.2.2]
  cases hq:q e1.born with
  | true=>simp only [if_true]; exact ⟨h.1,MEs.filter q h.2⟩
  | false=>simp only [Bool.false_eq_true,if_false]; exact MEs.filter q h.2
theorem MEs.allB (q:Nat → Bool):∀ {es:List ME} {fs:List MapEntry},MEs ρ es fs → (es.all fun e=>q e.born)=(fs.all fun f=>q f.born)
 | [],[],_=>rfl
 | [],_ :: _,h=>h.elim
 | _ :: _,[],h=>h.elim
 | e1 :: es,f1 :: fs,h=>by simp only [List.all_cons,h.1.2.2,MEs.allB q h.2]
def candsV (fs:List MapEntry) (since:Nat) (seen:List Nat):List (Option MapEntry) :=
 let left:=fs.filter fun f=>!seen.contains f.born
 let old:=left.filter fun f=>Nat.blt f.born since
 let new:=left.filter fun f=>!Nat.blt f.born since
 (if old.isEmpty then [none] else []) ++ (old ++ new).map some
theorem cands_get {es:List ME} {fs:List MapEntry} (h:MEs ρ es fs) (since:Nat) (seen:List Nat):(candsOf es since seen).length=(candsV fs since seen).length ∧ ∀ k:Nat,match (candsV fs since seen)[k]? with
  | some (some f)=>∃ e,(candsOf es since seen)[k]?=some (some e) ∧ e.key.R ρ f.key ∧ e.val.R ρ f.val ∧ f.born=e.born
  | some none=>(candsOf es since seen)[k]?=some none
  | none=>True:=by
 have h1:=h.filter fun b=>!seen.contains b
 have h2:=h1.filter fun b=>Nat.blt b since
 have h3:=h1.filter fun b=>!Nat.blt b since
 have h4:=h2.app h3
 unfold candsOf candsV
 simp only
 generalize hoe:(List.filter (fun e:ME=>Nat.blt e.born since) (List.filter (fun e:ME=>!seen.contains e.born) es))=oe at h2 h4 ⊢
 generalize hof:(List.filter (fun e:MapEntry=>Nat.blt e.born since) (List.filter (fun e:MapEntry=>!seen.contains e.born) fs))=of at h2 h4 ⊢
 generalize (List.filter (fun e:ME=>!Nat.blt e.born since) (List.filter (fun e:ME=>!seen.contains e.born) es))=ne at h4 ⊢
 generalize (List.filter (fun e:MapEntry=>!Nat.blt e.born since) (List.filter (fun e:MapEntry=>!seen.contains e.born) fs))=nf at h4 ⊢
 have hemp:oe.isEmpty=of.isEmpty:=by
  cases oe <;> cases of <;> first | rfl | exact h2.elim
 rw [hemp]
 generalize of.isEmpty=b
 have hl:=h4.length
 refine ⟨by cases b <;> simp at hl ⊢ <;> omega,fun k=>?_⟩
 have key:∀ k:Nat,match (((of ++ nf).map some)[k]?:Option (Option MapEntry)) with
  | some (some f)=>∃ e,((oe ++ ne).map some)[k]?=some (some e) ∧ e.key.R ρ f.key ∧ e.val.R ρ f.val ∧ f.born=e.born
  | some none=>((oe ++ ne).map some)[k]?=some none
  | none=>True:=by
  intro k
  rw [List.getElem?_map,List.getElem?_map]
  cases hk:(of ++ nf)[k]? with
  | none=>trivial
  | some f =>
   have hlt:k < (oe ++ ne).length:=by rw [hl]; exact (List.getElem?_eq_some_iff.1 hk).1
   obtain ⟨f',j1,j2⟩:=h4.get (List.getElem?_eq_getElem hlt)
   rw [hk] at j1; cases j1
   exact ⟨_,by rw [List.getElem?_eq_getElem hlt]; rfl,j2⟩
 cases b with
 | false=>simpa using key k
 | true =>
  cases k with
  | zero=>simp
  | succ k=>simpa using key k
def ChOk (P:Program) (Z S:Nat → Prop) (F:Nat → Option Obj) (w0:World) (ρ:Rho) (l:List (St × SV)) (a:Act) (w:World) (o:Oper):Prop:=∃ p ∈ l,BOk P Z S F w0 ρ p.1 p.2 a w o
def BigOk (P:Program) (Z S:Nat → Prop) (F:Nat → Option Obj) (w0:World) (ρ:Rho) (r:Big) (a:Act) (w:World) (o:Oper):Prop :=
 match r with
 | .st σ' s=>BOk P Z S F w0 ρ σ' s a w o
 | .choice l=>ChOk P Z S F w0 ρ l a w o
 | _=>True
theorem next_ok (hw:WR Z S F w0 ρ σ.heap σ.next w) (hv:HV ρ σ a o) {it:Operand} {isS:Bool} (ho:o.op=.next it isS):BigOk P Z S F w0 ρ (big P σ o) a w o:=by
 have fin:∀ {r:Value} {w':World},(Instr.next (a.eval it) isS o.type).run P w=.ok r w' → (execOp a.eval o).run P w=.ok (.value r) w':=by
  intro r w' hr
  simp only [execOp,ho]; simp [hr]
 unfold big; rw [ho]; simp only
 split
 ·rename_i id hit
  obtain ⟨p,h1,h2⟩:=hv.c (x:=it) (by simp [ho,Op.operands]) hit
  split
  ·rename_i str pos hob
   obtain ⟨g1,g0,s',g2,g3⟩:=hw.ob id p _ h1 hob
   have hp0:p.at 0=⟨p.b,0,none⟩:=by simp [Pl.at,g0]
   subst g3
   split
   ·rename_i b hb
    split
    ·rename_i hlt
     have hlt:b < 128:=by simpa using hlt
     have hpos:pos < s'.size:=by
      have:=(List.getElem?_eq_some_iff.1 hb).1
      simpa [strOf] using this
     have hbb:(s'[pos]'hpos).toNat=b:=by
      unfold strOf at hb
      rw [List.getElem?_map] at hb
      have h3:s'.data.toList[pos]?=some (s'[pos]'hpos):=by
       rw [List.getElem?_eq_getElem (by simpa using hpos)]; rfl
      rw [h3] at hb; simpa using hb
     refine ⟨ρ,_,_,_,fin (r:=.tuple #[.bool true,goInt pos,.int .i32 b]) (w':={w with heap:=w.heap.setIfInBounds p.b (.stringIter s' (pos + 1)) }) ?_,rfl,Ext.refl ρ,hw.setObj h1 hob rfl g1 _ (fun w' hw'=>⟨g1,g0,s',hw',rfl⟩),⟨[.bool true,goInt pos,.int .i32 b],rfl,rfl,rfl,rfl,trivial⟩⟩
     rw [h2,hp0]
     simp only [Instr.next,Sem.run_bind,run_getStr g2,Result.andThen_ok]
     rw [if_pos hpos,decode_ascii s' pos hpos (by rw [hbb]; exact hlt),hbb]
     simp only [Sem.run_bind,run_setStr _ g2,Result.andThen_ok,Sem.run_pure]
    ·trivial
   ·rename_i hb
    have hpos:¬ pos < s'.size:=by
     intro hlt
     have:(strOf s')[pos]?=some (s'.data.toList[pos]'(by simpa using hlt)).toNat:=by
      unfold strOf; rw [List.getElem?_map,List.getElem?_eq_getElem]; rfl
     rw [this] at hb; cases hb
    refine ⟨ρ,_,_,w,fin (r:=.tuple #[.bool false]) ?_,rfl,Ext.refl ρ,hw,⟨[.bool false],rfl,rfl,trivial⟩⟩
    rw [h2,hp0]
    simp only [Instr.next,Sem.run_bind,run_getStr g2,Result.andThen_ok]
    rw [if_neg hpos]; rfl
  ·rename_i since seen last hob
   obtain ⟨g1,g0,m',g2,g3⟩:=hw.ob id p _ h1 hob
   have hp0:p.at 0=⟨p.b,0,none⟩:=by simp [Pl.at,g0]
   have g3:m'=none:=g3
   subst g3
   refine ⟨ρ,_,_,w,fin (r:=.tuple #[.bool false]) ?_,rfl,Ext.refl ρ,hw,⟨[.bool false],rfl,rfl,trivial⟩⟩
   rw [h2,hp0]
   simp only [Instr.next,Sem.run_bind,run_getIter g2,Result.andThen_ok]; rfl
  ·rename_i m since seen last hob
   obtain ⟨g1,g0,m',g2,q,g3,g4⟩:=hw.ob id p _ h1 hob
   have hp0:p.at 0=⟨p.b,0,none⟩:=by simp [Pl.at,g0]
   subst g4
   split
   ·rename_i es clock hom
    obtain ⟨k1,ar,k2,k3⟩:=hw.ob m q _ g3 hom
    split
    ·trivial
    ·rename_i hgone
     obtain ⟨c1,c2⟩:=cands_get k3 since seen
     have hgone2:(!seen.toArray.isEmpty && !ar.isEmpty && ar.all fun e=>decide (e.born ≥ last))=false:=by
      rw [Bool.eq_false_iff]
      intro hc
      apply hgone
      simp only [Bool.and_eq_true] at hc ⊢
      obtain ⟨⟨d1,d2⟩,d3⟩:=hc
      refine ⟨⟨by simpa using d1,?_⟩,?_⟩
      ·have:=k3.length
       cases es with
       | nil =>
        have h0:ar=#[]:=by apply Array.ext'; simpa using (List.eq_nil_of_length_eq_zero this.symm)
        subst h0; simp at d2
       | cons _ _=>rfl
      ·have h3:=k3.allB fun b=>Nat.ble last b
       rw [h3,List.all_eq_true]
       intro f hf
       rw [Array.all_eq_true_iff_forall_mem] at d3
       have:=d3 f (by simpa using hf)
       simpa using this
     have hcand:(((if (Array.filter (fun x=>decide (x.born < since)) (Array.filter (fun e=>!seen.toArray.contains e.born) ar)).isEmpty then #[none] else #[]) ++ (Array.filter (fun x=>decide (x.born < since)) (Array.filter (fun e=>!seen.toArray.contains e.born) ar) ++ Array.filter (fun x=>decide (x.born ≥ since)) (Array.filter (fun e=>!seen.toArray.contains e.born) ar)).map some):Array (Option MapEntry))=(candsV ar.toList since seen).toArray:=by
      apply Array.ext'
      unfold candsV
      have e0:∀ x:MapEntry,Nat.blt x.born since=decide (x.born < since):=fun x=>by rw [Bool.eq_iff_iff]; simp
      have e1:∀ l:List MapEntry,l.filter (fun x=>decide (x.born < since))=l.filter (fun f=>Nat.blt f.born since):=fun l=>List.filter_congr fun x _=>(e0 x).symm
      have e2:∀ l:List MapEntry,l.filter (fun x=>decide (x.born ≥ since))=l.filter (fun f=>!Nat.blt f.born since):=fun l=>List.filter_congr fun x _=>by rw [e0,Bool.eq_iff_iff]; simp
      simp only [Array.toList_append,Array.toList_map,Array.toList_filter,List.contains_toArray,e1,e2,← Array.isEmpty_toList]
      congr 1
      split <;> simp
     have hpos:0 < (candsV ar.toList since seen).length:=by
      unfold candsV
      simp only
      split <;> rename_i he
      ·simp
      ·cases hl:(List.filter (fun f=>Nat.blt f.born since) (List.filter (fun f=>!seen.contains f.born) ar.toList)) with
       | nil=>rw [hl] at he; exact absurd rfl he
       | cons _ _=>simp
     generalize candsV ar.toList since seen=cv at c1 c2 hcand hpos
     have hch:∃ k w1,(choose (.mapNext cv.length)).run P w=.ok k w1 ∧ k < cv.length ∧ (w1=w ∨ w1=w.drew):=by
      simp only [choose,Sem.run]
      split
      ·exact ⟨0,w,rfl,hpos,.inl rfl⟩
      ·exact ⟨_,w.drew,rfl,Nat.mod_lt _ hpos,.inr rfl⟩
     obtain ⟨k,w1,hc1,hc2,hc3⟩:=hch
     have hw1:WR Z S F w0 ρ σ.heap σ.next w1:=by rcases hc3 with rfl | rfl; exact hw; exact hw.drew
     have g2':w1.heap[p.b]?=some (.mapIter (some q.b) since seen.toArray last):=by rcases hc3 with rfl | rfl <;> exact g2
     have hget:=c2 k
     have hk:cv[k]?=some cv[k]:=List.getElem?_eq_getElem hc2
     rw [hk] at hget
     have run:∀ {r:Value} {w':World},((match cv[k]? with
       | some (some e)=>do
        Go.setObj p.b (.mapIter (some q.b) since (seen.toArray.push e.born) clock)
        pure (.tuple #[.bool true,e.key,e.val])
       | some none=>pure (.tuple #[.bool false])
       | none=>stuck "Next: no such candidate" : Sem Value).run P w1=.ok r w') → (execOp a.eval o).run P w=.ok (.value r) w':=by
      intro r w' hr
      refine fin ?_
      rw [h2,hp0]
      simp only [Instr.next,Sem.run_bind,run_getIter g2,Result.andThen_ok,run_getMap k2,hgone2,Bool.false_eq_true,if_false,Sem.run_pure,hcand,List.size_toArray,hc1,List.getElem?_toArray]
      exact hr
     rw [hk] at run
     cases hcv:cv[k] with
     | none =>
      rw [hcv] at hget run
      have hmem:=List.mem_of_getElem? hget
      refine ⟨_,List.mem_map.2 ⟨none,hmem,rfl⟩,ρ,_,_,w1,run (r:=.tuple #[.bool false]) rfl,rfl,Ext.refl ρ,hw1,⟨[.bool false],rfl,rfl,trivial⟩⟩
     | some f =>
      rw [hcv] at hget run
      obtain ⟨e,j1,j2,j3,j4⟩:=hget
      have hmem:=List.mem_of_getElem? j1
      refine ⟨_,List.mem_map.2 ⟨some e,hmem,rfl⟩,ρ,_,_,{w1 with heap:=w1.heap.setIfInBounds p.b (.mapIter (some q.b) since (seen.toArray.push f.born) clock) },run (r:=.tuple #[.bool true,f.key,f.val]) ?_,rfl,Ext.refl ρ,hw1.setObj h1 hob rfl g1 _ (fun w' hw'=>⟨g1,g0,some q.b,?_,q,g3,rfl⟩),⟨[.bool true,f.key,f.val],rfl,rfl,j2,j3,trivial⟩⟩
      ·simp only [Sem.run_bind,run_setIter _ g2',Result.andThen_ok,Sem.run_pure]
      ·rw [hw',j4]; simp
   ·trivial
  ·trivial
 ·trivial
end
section
variable {α:Type}
theorem T.get_set_some:∀ (f:Nat) (t:T α) (i:Nat) (x:α),i + 1 < 2 ^ f → T.get f (T.set f t i x) i=some x
 | 0,t,i,x,h=>by simp at h
 | f + 1,t,i,x,h=>by
  cases t with
  | nil =>
   cases i with
   | zero=>simp [T.set,T.get]
   | succ i =>
    simp only [T.set]
    by_cases hi:Nat.beq (i % 2) 0=true
    ·simp only [hi,if_true,T.get]; exact T.get_set_some f _ _ _ (by rw [Nat.pow_succ] at h; omega)
    ·simp only [hi,Bool.false_eq_true,if_false,T.get]; exact T.get_set_some f _ _ _ (by rw [Nat.pow_succ] at h; omega)
  | node v l r =>
   cases i with
   | zero=>simp [T.set,T.get]
   | succ i =>
    simp only [T.set]
    by_cases hi:Nat.beq (i % 2) 0=true
    ·simp only [hi,if_true,T.get]; exact T.get_set_some f _ _ _ (by rw [Nat.pow_succ] at h; omega)
    ·simp only [hi,Bool.false_eq_true,if_false,T.get]; exact T.get_set_some f _ _ _ (by rw [Nat.pow_succ] at h; omega)
theorem T.at_put_some (t:T α) {i:Nat} (x:α) (h:i < 65536):(t.put i x).at i=some x:=T.get_set_some _ _ _ _ (by show i + 1 < 2 ^ 24; omega)
theorem T.at_puts_some:∀ (l:List α) (t:T α) (n i:Nat) (y:α),n + l.length ≤ 65536 → l[i]?=some y → (t.puts n l).at (n + i)=some y
 | [],t,n,i,y,_,h=>by simp at h
 | x :: l,t,n,i,y,hl,h=>by
  simp only [T.puts]
  simp only [List.length_cons] at hl
  cases i with
  | succ i =>
   rw [show n + (i + 1)=n + 1 + i by omega]
   exact T.at_puts_some l _ (n + 1) i y (by omega) (by simpa using h)
  | zero =>
   simp at h; subst h
   have:∀ (l:List α) (t:T α) (m:Nat),n < m → (t.puts m l).at n=t.at n:=by
    intro l
    induction l with
    | nil=>intro t m _; rfl
    | cons z l ih=>intro t m hm; simp only [T.puts]; rw [ih _ _ (by omega),T.at_ne _ _ (by omega)]
   show ((t.put n x).puts (n + 1) l).at n=some x
   rw [this l _ (n + 1) (by omega)]
   exact T.at_put_some _ _ (by omega)
end
section
variable {P:Program} {Z S:Nat → Prop} {F:Nat → Option Obj} {w0 w w':World} {ρ ρ':Rho} {σ σ':St} {a:Act} {o:Oper} {s:SV} {L:Nat → Prop} {all:Array Oper}
theorem Rep.get (h:Rep Z S F w0 ρ L σ a w) {t:Nat} (ht:L t):(σ.get t).R ρ (a.tmps.getD t undef):=by
 by_cases hl:t < σ.nt
 ·exact h.tmp t ht hl
 ·have h1:a.tmps[t]?=none:=Array.getElem?_eq_none_iff.2 (by rw [h.size]; omega)
  unfold St.get
  rw [if_neg (by simp; omega)]
  rw [Array.getD_eq_getD_getElem?,h1]
  exact ⟨[],rfl,trivial⟩
theorem Rep.val (h:Rep Z S F w0 ρ L σ a w) {x:Operand} (hx:∀ t,x=.tmp t → L t) {s:SV} (hs:σ.val x=some s):s.R ρ (a.eval x):=by
 cases x with
 | tmp t=>simp only [St.val,Option.some.injEq] at hs; subst hs; exact h.get (hx t rfl)
 | const v =>
  simp only [St.val] at hs
  cases hv:vOf v with
  | none=>rw [hv] at hs; cases hs
  | some c=>rw [hv] at hs; cases hs; exact (vOf_R hv).1
 | func f=>simp only [St.val,Option.some.injEq] at hs; subst hs; exact ⟨[],rfl,trivial⟩
 | global g =>
  simp only [St.val] at hs
  cases hg:Sx.look σ.gl g with
  | none=>rw [hg] at hs; cases hs
  | some id =>
   rw [hg] at hs; cases hs
   obtain ⟨q,h1,h2,h3⟩:=h.gl _ (look_mem hg)
   refine ⟨q,h1,?_⟩
   simp only [Act.eval,Pl.at,h2,h3]
theorem Rep.hv (h:Rep Z S F w0 ρ L σ a w) (hl:∀ t,.tmp t ∈ o.op.operands.toList → L t):HV ρ σ a o:=fun x hx s hs=>h.val (fun t e=>hl t (e ▸ hx)) hs
theorem Rep.step (h:Rep Z S F w0 ρ L σ a w) (hx:Ext ρ ρ') (hw:WR Z S F w0 ρ' σ'.heap σ'.next w') {v:Value} (hs:s.R ρ' v) (dst:Option Nat):Rep Z S F w0 ρ' (fun t=>L t ∨ dst=some t) ((σ.tk σ').put dst s) (a.put dst v) w':=by
 have hgl:∀ p ∈ σ.gl,∃ q,ρ' p.2=some q ∧ q.b=p.1 ∧ q.o=0:=fun p hp=>by obtain ⟨q,h1,h2⟩:=h.gl p hp; exact ⟨q,hx _ _ h1,h2⟩
 cases dst with
 | none =>
  refine ⟨h.defers,h.size,h.nt,fun t ht hlt=>?_,hgl,hw⟩
  rcases ht with ht | ht
  ·exact (h.tmp t ht hlt).mono hx
  ·cases ht
 | some d =>
  unfold St.put
  simp only
  by_cases hd:d < σ.nt
  ·have hd':Nat.blt d (σ.tk σ').nt=true:=by simp [St.tk,hd]
   rw [if_pos hd']
   refine ⟨h.defers,by simp [Act.put,St.tk,h.size],h.nt,fun t ht hlt=>?_,hgl,hw⟩
   have hlt:t < σ.nt:=hlt
   by_cases htd:t=d
   ·subst htd
    have h1:({σ.tk σ' with tmps:=(σ.tk σ').tmps.put t s }:St).get t=s:=by
     unfold St.get
     rw [if_pos (by simp [St.tk]; exact hlt)]
     show ((σ.tmps.put t s).at t).getD undefS=s
     rw [T.at_put_some _ _ (by have:=h.nt; omega)]; rfl
    rw [h1]
    have h2:(a.put (some t) v).tmps.getD t undef=v:=by
     have h3:(a.tmps.setIfInBounds t v)[t]?=some v:=by rw [Array.getElem?_setIfInBounds_self_of_lt (by rw [h.size]; exact hlt)]
     show (a.tmps.setIfInBounds t v).getD t undef=v
     rw [Array.getD_eq_getD_getElem?,h3]; rfl
    rw [h2]; exact hs
   ·have h1:({σ.tk σ' with tmps:=(σ.tk σ').tmps.put d s }:St).get t=σ.get t:=by
     unfold St.get
     show (if Nat.blt t σ.nt=true then ((σ.tmps.put d s).at t).getD undefS else undefS)=_
     rw [T.at_ne _ _ (Ne.symm htd)]
    rw [h1]
    have h2:(a.put (some d) v).tmps.getD t undef=a.tmps.getD t undef:=by
     simp [Act.put,Array.getD_eq_getD_getElem?,Array.getElem?_setIfInBounds_ne (Ne.symm htd)]
    rw [h2]
    rcases ht with ht | ht
    ·exact (h.tmp t ht hlt).mono hx
    ·simp at ht; exact absurd ht.symm htd
  ·have hd':¬ Nat.blt d (σ.tk σ').nt=true:=by simp [St.tk]; omega
   rw [if_neg hd']
   refine ⟨h.defers,by simp [Act.put,St.tk,h.size],h.nt,fun t ht hlt=>?_,hgl,hw⟩
   have hlt:t < σ.nt:=hlt
   have htd:t ≠ d:=by omega
   have h2:(a.put (some d) v).tmps.getD t undef=a.tmps.getD t undef:=by
    simp [Act.put,Array.getD_eq_getD_getElem?,Array.getElem?_setIfInBounds_ne (Ne.symm htd)]
   rw [h2]
   rcases ht with ht | ht
   ·exact (h.tmp t ht hlt).mono hx
   ·simp at ht; exact absurd ht.symm htd
theorem Rep.mono (h:Rep Z S F w0 ρ L σ a w) {L':Nat → Prop} (hl:∀ t,L' t → L t):Rep Z S F w0 ρ L' σ a w:=⟨h.defers,h.size,h.nt,fun t ht=>h.tmp t (hl t ht),h.gl,h.wr⟩
theorem Rep.put0 (h:Rep Z S F w0 ρ L σ a w) (hs:s.R ρ undef) (dst:Option Nat):Rep Z S F w0 ρ (fun t=>L t ∨ dst=some t) (σ.put dst s) (a.put dst undef) w:=h.step (σ':=σ) (Ext.refl ρ) h.wr hs dst
theorem undefS_R:undefS.R ρ undef:=⟨[],rfl,trivial⟩
theorem notBool {c:CV} {v:Value} (h:c.R ρ v) (h1:∀ b,c ≠ .bool b) (h2:c ≠ .top):∀ b,v ≠ .bool b:=by
 intro b e
 subst e
 cases c with
 | int k n=>exact absurd h (by simp [CV.R])
 | bool b'=>exact h1 _ rfl
 | str l=>obtain ⟨_,e,_⟩:=h; cases e
 | nil=>exact absurd h (by simp [CV.R])
 | ptr _ _=>obtain ⟨_,_,e⟩:=h; cases e
 | nilsl=>exact absurd h (by simp [CV.R])
 | sl a b c d=>obtain ⟨_,_,e⟩:=sl_form h; cases e
 | nilmap=>exact absurd h (by simp [CV.R])
 | map _=>obtain ⟨_,_,e⟩:=h; cases e
 | nilfn=>exact absurd h (by simp [CV.R])
 | fn _ _=>obtain ⟨_,e,_⟩:=h; cases e
 | niliface=>exact absurd h (by simp [CV.R])
 | iface _ _=>obtain ⟨_,e,_⟩:=h; cases e
 | top=>exact h2 rfl
theorem guard_ok (h:Rep Z S F w0 ρ L σ a w) (hl:∀ j want t,o.guard=some (j,want) → (all[j]?).bind (·.dst)=some t → L t) :
  (guardG all σ o=.yes → Region.wanted o (yielded all a.tmps)=true) ∧ (guardG all σ o=.no → Region.wanted o (yielded all a.tmps)=false):=by
 unfold guardG Region.wanted
 cases hg:o.guard with
 | none=>simp
 | some p =>
  obtain ⟨j,want⟩:=p
  simp only
  cases hd:(all[j]?).bind (·.dst) with
  | none=>simp [yielded,hd]
  | some t =>
   simp only
   by_cases ht:t < σ.nt
   ·rw [if_pos (by simpa using ht)]
    have hr:=h.tmp t (hl j want t hg hd) ht
    have hlt:t < a.tmps.size:=by rw [h.size]; exact ht
    have hget:a.tmps.getD t undef=a.tmps[t]:=by simp [Array.getD_eq_getD_getElem?,hlt]
    rw [hget] at hr
    have hy:yielded all a.tmps j=(match a.tmps[t] with | .bool b=>some b | _=>none):=by
     unfold yielded
     simp only [hd,Option.bind_some,Array.getElem?_eq_getElem hlt]
     cases a.tmps[t] <;> rfl
    rw [hy]
    split
    ·rename_i b hb
     rw [hb] at hr
     have:a.tmps[t]=.bool b:=hr
     rw [this]
     by_cases hbw:b=want
     ·subst hbw; simp
     ·simp [hbw]
    ·simp
    ·rename_i n1 n2
     have hnb:∀ b,a.tmps[t] ≠ .bool b:=by
      cases hs:σ.get t with
      | tup l=>rw [hs] at hr; obtain ⟨vs,e,_⟩:=hr; intro b e2; rw [e] at e2; cases e2
      | vl x =>
       rw [hs] at hr
       cases x with
       | agg cs=>obtain ⟨vs,e,_⟩:=hr; intro b e2; rw [e] at e2; cases e2
       | one c=>exact notBool hr (fun b e=>n1 b (by rw [hs,e])) (fun e=>n2 (by rw [hs,e]))
     refine ⟨fun e=>(by cases e),fun _=>?_⟩
     cases hv:a.tmps[t] <;> first | rfl | (exact absurd hv (hnb _))
   ·rw [if_neg (by simpa using ht)]
    exact ⟨fun e=>(by cases e),fun e=>(by cases e)⟩
theorem keep_ok (hw:WR Z S F w0 ρ σ.heap σ.next w) (hv:HV ρ σ a o) (hp:keep P σ o=some s):LOk P ρ a w o s:=by
 unfold keep at hp
 split at hp
 ·rename_i s' hl; cases hp; exact light_ok hw hv hl
 ·exact build_ok hv hp
theorem calm_ok (hw:WR Z S F w0 ρ σ.heap σ.next w) (hv:HV ρ σ a o) (hp:calm P σ o=some (σ',s)):BOk P Z S F w0 ρ σ' s a w o:=by
 unfold calm at hp
 split at hp
 ·rename_i s' hk
  cases hp
  obtain ⟨v,h1,h2⟩:=keep_ok hw hv hk
  exact ⟨ρ,_,v,w,h1,rfl,Ext.refl ρ,hw,h2⟩
 ·split at hp
  ·rename_i ob f hm
   cases hp
   obtain ⟨h1,hn⟩:=hw.place ob
   obtain ⟨p,v,w',k1,k2,k3⟩:=made_ok hw hv hm (id:=σ.next) (nx:=σ.next + 1) hn (fun hz=>absurd (hw.free _ hz).2 (Nat.lt_irrefl _)) (Nat.lt_succ_self _) h1 (fun x hx=>T.at_eq hx)
   exact ⟨_,_,v,w',k1,rfl,Rho.ext_bind hn,k3,k2⟩
  ·cases hp
end
section
variable {P:Program} {Z S:Nat → Prop} {F:Nat → Option Obj} {w0 w w':World} {ρ ρ':Rho} {σ σ':St} {a:Act} {o:Oper} {s:SV} {L:Nat → Prop} {all:Array Oper}
theorem BigOk.of_st {r:Big} (h:∀ σ' s,r=.st σ' s → BOk P Z S F w0 ρ σ' s a w o) (hc:∀ l,r ≠ .choice l):BigOk P Z S F w0 ρ r a w o:=by
 cases r with
 | st σ' s=>exact h _ _ rfl
 | choice l=>exact absurd rfl (hc l)
 | enter f l=>trivial
 | no=>trivial
theorem appB_st (P:Program) (σ:St) (t tx:TypeId) (x y:Operand) (l:List (St × SV)):appB P σ t tx x y ≠ .choice l:=by
 unfold appB
 intro h
 repeat' split at h
 all_goals cases h
theorem bigB_st (P:Program) (σ:St) (b:Builtin) (ts:List TypeId) (xs:List Operand) (l:List (St × SV)):bigB P σ b ts xs ≠ .choice l:=by
 unfold bigB
 intro h
 split at h
 ·exact appB_st _ _ _ _ _ _ _ h
 all_goals (repeat' split at h)
 all_goals cases h
theorem bigB_name {b:Builtin} {ts:List TypeId} {xs:List Operand} (h:bigB P σ b ts xs=.st σ' s):b=.append ∨ b=.copy ∨ b=.delete ∨ b=.clear:=by
 unfold bigB at h
 split at h <;> first | (simp; done) | cases h
theorem big_ok (hw:WR Z S F w0 ρ σ.heap σ.next w) (hv:HV ρ σ a o):BigOk P Z S F w0 ρ (big P σ o) a w o:=by
 cases ho:o.op with
 | next it isS=>exact next_ok hw hv ho
 | store t ad x =>
  refine BigOk.of_st (fun σ' s h=>store_ok hw hv ho h) fun l h=>?_
  unfold big at h; rw [ho] at h; simp only at h
  repeat' split at h
  all_goals cases h
 | mapUpdate t m k x =>
  refine BigOk.of_st (fun σ' s h=>update_ok hw hv (.inl ho) h) fun l h=>?_
  unfold big at h; rw [ho] at h; simp only at h
  repeat' split at h
  all_goals cases h
 | insert t m k x =>
  refine BigOk.of_st (fun σ' s h=>update_ok hw hv (.inr ho) h) fun l h=>?_
  unfold big at h; rw [ho] at h; simp only at h
  repeat' split at h
  all_goals cases h
 | mapEntry t m k =>
  refine BigOk.of_st (fun σ' s h=>mapEntry_ok hw hv ho h) fun l h=>?_
  unfold big at h; rw [ho] at h; simp only at h
  repeat' split at h
  all_goals cases h
 | entryStore t m st x =>
  refine BigOk.of_st (fun σ' s h=>entryStore_ok hw hv ho h) fun l h=>?_
  unfold big at h; rw [ho] at h; simp only at h
  repeat' split at h
  all_goals cases h
 | convert t d x =>
  refine BigOk.of_st (fun σ' s h=>convB_ok hw hv ho h) fun l h=>?_
  unfold big at h; rw [ho] at h; simp only at h
  repeat' split at h
  all_goals cases h
 | call c =>
  cases hc:c.callee with
  | builtin b =>
   have hb:big P σ o=bigB P σ b c.argTypes.toList c.args.toList:=by unfold big; rw [ho]; simp only [hc]
   rw [hb]
   refine BigOk.of_st (fun σ' s h=>?_) fun l h=>bigB_st _ _ _ _ _ _ h
   rcases bigB_name h with rfl | rfl | rfl | rfl
   ·unfold bigB at h
    split at h
    ·rename_i t tx sl x _ ht hx
     exact app_ok hw hv ho hc ht hx h
    ·rename_i e _ _; cases e
    ·rename_i e _ _; cases e
    ·rename_i e _ _; cases e
    ·cases h
   ·exact copy_ok hw hv ho hc h
   ·exact delete_ok hw hv ho hc h
   ·exact clear_ok hw hv ho hc h
  | value x =>
   unfold big; rw [ho]; simp only [hc]
   split <;> trivial
  | invoke r n =>
   unfold big; rw [ho]; simp only [hc]; trivial
 | _=>unfold big; rw [ho]; trivial
theorem args_R (hv:HV ρ σ a o):∀ (xs:List Operand),(∀ x ∈ xs,x ∈ o.op.operands.toList) → ∀ (vs:List V),mapO σ.v xs=some vs → VRs ρ vs (xs.map a.eval)
 | [],_,vs,h=>by simp [mapO] at h; subst h; trivial
 | x :: xs,hm,vs,h=>by
  unfold mapO at h
  split at h
  ·cases h
  ·rename_i y hy
   split at h
   ·cases h
   ·rename_i ys hys
    cases h
    exact ⟨hv.v (hm x (by simp)) hy,args_R hv xs (fun x hx=>hm x (by simp [hx])) ys hys⟩
theorem VRs.app {us vs:List V} {xs ys:List Value} (h:VRs ρ us xs) (k:VRs ρ vs ys):VRs ρ (us ++ vs) (xs ++ ys):=by
 induction us generalizing xs with
 | nil=>cases xs with
  | nil=>exact k
  | cons _ _=>exact h.elim
 | cons u us ih=>cases xs with
  | nil=>exact h.elim
  | cons x xs=>exact ⟨h.1,ih h.2⟩
theorem VRs.length:∀ {us:List V} {xs:List Value},VRs ρ us xs → us.length=xs.length
 | [],[],_=>rfl
 | [],_ :: _,h=>h.elim
 | _ :: _,[],h=>h.elim
 | _ :: _,_ :: _,h=>by simp [VRs.length h.2]
theorem caps_V:∀ {caps:List (Nat × Nat)} {vs:List Value},CapsR ρ caps vs → VRs ρ (caps.map fun p=>V.one (.ptr p.1 p.2)) vs
 | [],[],_=>trivial
 | [],_ :: _,h=>h.elim
 | _ :: _,[],h=>h.elim
 | _ :: _,_ :: _,h=>⟨h.1,caps_V h.2⟩
theorem big_enter {f:FuncId} {args:List V} (h:big P σ o=.enter f args):∃ c fo caps as,o.op=.call c ∧ c.callee=.value fo ∧ σ.c fo=some (.fn f caps) ∧ mapO σ.v c.args.toList=some as ∧ args=as ++ caps.map fun p=>V.one (.ptr p.1 p.2):=by
  cases ho:o.op with
  | call c =>
    cases hc:c.callee with
    | builtin b =>
      exfalso
      unfold big at h; rw [ho] at h; simp only [hc] at h
      unfold bigB appB at h
      repeat' split at h
      all_goals cases h
    | value x =>
      unfold big at h; rw [ho] at h; simp only [hc] at h
      split at h
      · rename_i f' caps as hf hm
        cases h
        exact ⟨c,x,caps,as,rfl,hc,hf,hm,rfl⟩
      · cases h
    | invoke r n=>unfold big at h; rw [ho] at h; simp only [hc] at h; cases h
  | _ =>
    exfalso
    unfold big at h; rw [ho] at h; simp only at h
    first
    | (cases h; done)
    | (repeat' split at h
       all_goals cases h)
theorem enter_ok (hv:HV ρ σ a o) {f:FuncId} {args:List V} (h:bigC P σ o=.enter f args):∃ us:List Value,VRs ρ args us ∧ (execOp a.eval o).run P w=(callFunc f us.toArray).run P w:=by
 unfold bigC at h
 split at h
 ·rename_i r name xs ts ho
  have hops:∀ x,x=r ∨ x ∈ xs.toList → x ∈ o.op.operands.toList:=fun x hx=>by rw [ho]; simp only [Op.operands,Call.operands]; simpa using hx
  split at h
  ·rename_i t v as hr has
   split at h
   ·rename_i f' hm
    cases h
    obtain ⟨u,h1,h2,h3⟩:=hv.c (hops r (.inl rfl)) hr
    have h4:=args_R hv xs.toList (fun x hx=>hops x (.inr hx)) as has
    refine ⟨u :: xs.toList.map a.eval,⟨h2,h4⟩,?_⟩
    unfold methOf at hm
    split at hm
    ·rename_i i hi
     split at hm
     ·rename_i m hm1
      split at hm
      ·rename_i f2 e hp1 hp2 hu
       cases hm
       simp only [execOp,ho,resolve,h1]
       have hmeth:∀ w,(method (P.types.size + Made.depth) t u name).run P w=.ok (f,u) w:=by
        intro w
        have:∃ k,P.types.size + Made.depth=k + 1:=⟨P.types.size + (Made.depth - 1),by unfold Made.depth; omega⟩
        obtain ⟨k,hk⟩:=this
        rw [hk]
        simp only [method,Sem.run_bind]
        rw [show (typeInfo t).run P w=.ok i w from Sx.run_typeInfo hi]
        simp only [Result.andThen_ok,hm1,hp1,follow,Sem.run_pure,hp2,receiverAt,Sem.run_bind,run_underlying hu,Place.get]
       simp only [Sem.run_bind,Sem.run_pure,Result.andThen_ok,invoke]
       have hex:((#[Value.iface t u] ++ xs.map a.eval)[0]?:Option Value)=some (.iface t u):=by
        rw [Array.getElem?_append_left (by simp)]; rfl
       rw [hex]
       simp only [callMethod,Sem.run_bind,program,Sem.run,Result.andThen_ok]
       have hmeth2:=hmeth w
       simp only [hmeth2,Result.andThen_ok]
       congr 2
       apply Array.ext'
       simp
       try rw [List.take_of_length_le (by simp)]
      ·cases hm
     ·cases hm
    ·cases hm
   ·cases h
  ·cases h
 ·obtain ⟨c,fo,caps,as,ho,hc,hf,hm,rfl⟩:=big_enter h
  have hops:∀ x,x=fo ∨ x ∈ c.args.toList → x ∈ o.op.operands.toList:=fun x hx=>by rw [ho]; simp only [Op.operands,Call.operands,hc]; simpa using hx
  obtain ⟨vs,h1,h2⟩:=hv.c (hops fo (.inl rfl)) hf
  have h4:=args_R hv c.args.toList (fun x hx=>hops x (.inr hx)) as hm
  refine ⟨c.args.toList.map a.eval ++ vs,h4.app (caps_V h2),?_⟩
  rw [run_callValue ho hc h1]
  congr 2
  apply Array.ext'
  simp
end
def TabF (gls:Gls) (S:Nat → Prop) (F:Nat → Option Obj):Prop:=∀ p ∈ gls,S p.1 ∧ p.2.all cstB=true ∧ ∃ c t fz,F p.1=some (.cells c t fz) ∧ ∀ (j:Nat) x,p.2[j]?=some x → c[j]?=some (cstV x)
def OrOk (P:Program) (gls:Gls) (Or:Oracle):Prop:=∀ (Z S:Nat → Prop) (F:Nat → Option Obj) (w0:World) (ρ:Rho) (σ:St) (w:World) (f:FuncId) (args:List V) (us:List Value) (σ':St) (s:SV),
 TabF gls S F → WR Z S F w0 ρ σ.heap σ.next w → VRs ρ args us → Or σ f args=some (σ',s) →
  (∃ ρ' v w',(callFunc f us.toArray).run P w=.ok (.value v) w' ∧ Ext ρ ρ' ∧ WR Z S F w0 ρ' σ'.heap σ'.next w' ∧ s.R ρ' v) ∨
  ((callFunc f us.toArray).run P w=.ok (.enter f us.toArray) w ∧ Calls P f us.toArray w fun e w'=>∃ ρ' v,e=.returned v ∧ Ext ρ ρ' ∧ WR Z S F w0 ρ' σ'.heap σ'.next w' ∧ s.R ρ' v)
def exitOf:Ex → Exit | .normal=>.normal | .exit id=>.exit id | .ret=>.ret
def jobWp (P:Program) (n:Nat) (Q:Exit → Act → World → Prop):Job → Act → World → Prop
 | .code c,a,w=>c.wp P Q a w
 | .rounds c,a,w=>Code.rounds P c Q n a w
 | .ops all l,a,w=>wpList P all Q l a w
 | _,_,_=>True
def All:Nat → Prop:=fun _=>True
def SndJ (P:Program) (gls:Gls) (Or:Oracle) (n:Nat):Prop:=∀ (Z S:Nat → Prop) (F:Nat → Option Obj) (w0:World) (ρ:Rho) (job:Job) (σ:St) (k:Ex → St → Bool) (a:Act) (w:World) (Q:Exit → Act → World → Prop),
 TabF gls S F → Rep Z S F w0 ρ All σ a w → exec P Or n job σ k=true →
 (∀ e σ' ρ' a' w',Ext ρ ρ' → Rep Z S F w0 ρ' All σ' a' w' → k e σ'=true → Q (exitOf e) a' w') → jobWp P n Q job a w
def opWp (P:Program) (all:Array Oper) (o:Oper) (K:Act → World → Prop) (Q:Exit → Act → World → Prop) (a:Act) (w:World):Prop :=
 if Region.wanted o (yielded all a.tmps) then o.wp P a w K Q else K (a.put o.dst undef) w
def SndO (P:Program) (gls:Gls) (Or:Oracle) (n:Nat):Prop:=∀ (Z S:Nat → Prop) (F:Nat → Option Obj) (w0:World) (ρ:Rho) (L:Nat → Prop) (all:Array Oper) (o:Oper) (σ:St) (k:Ex → St → Bool) (a:Act) (w:World) (K:Act → World → Prop) (Q:Exit → Act → World → Prop),
 TabF gls S F → Rep Z S F w0 ρ L σ a w → (∀ t,.tmp t ∈ o.op.operands.toList → L t) → (∀ j want t,o.guard=some (j,want) → (all[j]?).bind (·.dst)=some t → L t) → exec P Or n (.op all o) σ k=true →
 (∀ σ' ρ' a' w',Ext ρ ρ' → Rep Z S F w0 ρ' (fun t=>L t ∨ o.dst=some t) σ' a' w' → (∃ τ s,σ'=(σ.tk τ).put o.dst s) → k .normal σ'=true → K a' w') → opWp P all o K Q a w
section
variable {P:Program} {gls:Gls} {Or:Oracle} {Z S:Nat → Prop} {F:Nat → Option Obj} {w0 w w':World} {ρ ρ':Rho} {σ σ':St} {a:Act} {o:Oper} {s:SV} {L:Nat → Prop} {all:Array Oper}
theorem BOk.wp (h:Rep Z S F w0 ρ L σ a w) (hb:BOk P Z S F w0 ρ σ' s a w o) {K:Act → World → Prop} {Q:Exit → Act → World → Prop}
  (hK:∀ σ'' ρ' a' w',Ext ρ ρ' → Rep Z S F w0 ρ' (fun t=>L t ∨ o.dst=some t) σ'' a' w' → σ''=(σ.tk σ').put o.dst s → K a' w'):o.wp P a w K Q:=by
 obtain ⟨ρ',n,v,w',h1,h2,h3,h4,h5⟩:=hb
 have hr:=h.step (σ':=σ') h3 h4 h5 o.dst
 unfold Oper.wp
 rw [h1]
 cases n with
 | value u=>cases h2; exact hK _ _ _ _ h3 hr rfl
 | skip=>cases h2; exact hK _ _ _ _ h3 hr rfl
 | _=>exact h2.elim
theorem resOne_ok (h:Rep Z S F w0 ρ All σ a w) {r:ResultVar} {v:V} (hr:resOne P σ r=some v):∃ u,((match r with | .tmp t=>pure (a.tmps.getD t undef) | .cell ad t=>do loadVar t (← asAddr (a.tmps.getD ad undef))):Sem Value).run P w=.ok u w ∧ v.R ρ u:=by
 cases r with
 | tmp t =>
  simp only [resOne] at hr
  have:=h.get (t:=t) trivial
  split at hr
  ·rename_i v' hv
   cases hr
   rw [hv] at this
   exact ⟨_,rfl,this⟩
  ·cases hr
 | cell t ty =>
  simp only [resOne] at hr
  have:=h.get (t:=t) trivial
  split at hr
  ·rename_i id off hv
   rw [hv] at this
   obtain ⟨p,h1,h2⟩:(CV.ptr id off).R ρ _:=this
   obtain ⟨u,k1,k2⟩:=readAt_ok h.wr h1 hr
   refine ⟨u,?_,k2⟩
   simp only [h2]
   simp [asAddr,k1]
  ·cases hr
theorem res_list (h:Rep Z S F w0 ρ All σ a w):∀ (l:List ResultVar) (vs:List V),mapO (resOne P σ) l=some vs → ∃ us:List Value,
  ((l.mapM fun (r:ResultVar)=>((match r with | .tmp t=>pure (a.tmps.getD t undef) | .cell ad t=>do loadVar t (← asAddr (a.tmps.getD ad undef))):Sem Value)):Sem (List Value)).run P w=.ok us w ∧ VRs ρ vs us:=by
 intro l
 induction l with
 | nil=>intro vs hvs; simp [mapO] at hvs; subst hvs; exact ⟨[],rfl,trivial⟩
 | cons r l ih =>
  intro vs hvs
  unfold mapO at hvs
  split at hvs
  ·cases hvs
  ·rename_i y hy
   split at hvs
   ·cases hvs
   ·rename_i ys hys
    cases hvs
    obtain ⟨u,h1,h2⟩:=resOne_ok h hy
    obtain ⟨us,h3,h4⟩:=ih ys hys
    refine ⟨u :: us,?_,h2,h4⟩
    rw [List.mapM_cons]
    simp only [Sem.run_bind,h1,Result.andThen_ok,h3,Sem.run_pure]
theorem res_ok (h:Rep Z S F w0 ρ All σ a w) {fn:Func} {vs:List V} (hr:resS P σ fn=some vs):∃ us:List Value,(results fn a.tmps).run P w=.ok (retV us) w ∧ VRs ρ vs us:=by
 obtain ⟨us,h1,h2⟩:=res_list h _ _ hr
 refine ⟨us,?_,h2⟩
 unfold results
 rw [Array.mapM_eq_mapM_toList]
 rw [bind_map_left,Sem.run_bind]
 refine (congrArg (fun r=>Result.andThen r _) h1).trans ?_
 rw [Result.andThen_ok,Sem.run_pure]
 cases us with
 | nil=>rfl
 | cons u us=>cases us with
  | nil=>rfl
  | cons u' us=>simp [retV]
theorem ret_R {vs:List V} {us:List Value} (h:VRs ρ vs us):(retS vs).R ρ (retV us):=by
 match vs,us,h with
 | [],[],h=>exact ⟨[],rfl,trivial⟩
 | [v],[u],h=>exact h.1
 | v :: v' :: vs,u :: u' :: us,h=>exact ⟨u :: u' :: us,rfl,h⟩
 | [],_ :: _,h=>exact h.elim
 | _ :: _,[],h=>exact h.elim
 | [_],_ :: _ :: _,h=>exact h.2.elim
 | _ :: _ :: _,[_],h=>exact h.2.elim
theorem enter_rep (h:Rep Z S F w0 ρ L σ a w) {args:List V} {us:List Value} (hr:VRs ρ args us) {n:Nat} (h1:args.length ≤ n) (h2:n ≤ 65536) :
  Rep Z S F w0 ρ All {σ with tmps:=tmps0 args,nt:=n } {tmps:=us.toArray ++ Array.replicate (n - us.toArray.size) undef,defers:=[] } w:=by
 have hl:=hr.length
 refine ⟨rfl,by simp; omega,h2,fun t _ hlt=>?_,h.gl,h.wr⟩
 have hlt:t < n:=hlt
 have hg:({σ with tmps:=tmps0 args,nt:=n }:St).get t=((tmps0 args).at t).getD undefS:=by
  unfold St.get; rw [if_pos (by simpa using hlt)]
 rw [hg,Array.getD_eq_getD_getElem?]
 by_cases hta:t < args.length
 ·have h3:(tmps0 args).at t=some (.vl args[t]):=by
   have:=T.at_puts_some (args.map SV.vl) .nil 0 t (.vl args[t]) (by simp; omega) (by simp [hta])
   rwa [Nat.zero_add] at this
  obtain ⟨u,k1,k2⟩:=hr.get t args[t] (List.getElem?_eq_getElem hta)
  have h4:(us.toArray ++ Array.replicate (n - us.toArray.size) undef)[t]?=some u:=by
   rw [Array.getElem?_append_left (by simp; omega)]; simpa using k1
  rw [h3,h4]; exact k2
 ·have h3:(tmps0 args).at t=none:=by
   cases hc:(tmps0 args).at t with
   | none=>rfl
   | some y =>
    exfalso
    rcases T.at_puts _ _ _ _ _ hc with ⟨_,k⟩ | ⟨k,_⟩
    ·have:=(List.getElem?_eq_some_iff.1 k).1
     simp at this; omega
    ·cases k
  have h4:(us.toArray ++ Array.replicate (n - us.toArray.size) undef)[t]?=some undef:=by
   rw [Array.getElem?_append_right (by simp; omega),Array.getElem?_replicate,if_pos]
   simp only [List.size_toArray]; omega
  rw [h3,h4]; exact undefS_R
theorem op_snd {n:Nat} (hJ:SndJ P gls Or n) (hO:OrOk P gls Or):SndO P gls Or (n + 1):=by
 intro Z S F w0 ρ L all o σ k a w K Q hT hR hops hgd hh hK
 simp only [exec] at hh
 obtain ⟨g1,g2⟩:=guard_ok (all:=all) hR hgd
 unfold opWp
 cases hg:guardG all σ o with
 | bad=>rw [hg] at hh; cases hh
 | no =>
  rw [hg] at hh
  rw [if_neg (by rw [g2 hg]; simp)]
  exact hK _ ρ _ _ (Ext.refl ρ) (hR.put0 undefS_R o.dst) ⟨σ,undefS,rfl⟩ hh
 | yes =>
  rw [hg] at hh
  simp only at hh
  rw [if_pos (g1 hg)]
  have hv:=hR.hv hops
  cases hc:calm P σ o with
  | some q =>
   obtain ⟨σ',s⟩:=q
   rw [hc] at hh
   exact (calm_ok hR.wr hv hc).wp hR fun σ'' ρ' a' w' e1 e2 e3=>hK _ ρ' _ _ e1 e2 ⟨_,_,e3⟩ (by rw [e3]; exact hh)
  | none =>
   rw [hc] at hh
   simp only at hh
   cases hb:bigC P σ o with
   | no=>rw [hb] at hh; cases hh
   | st σ' s =>
    rw [hb] at hh
    have hbig:big P σ o=.st σ' s:=by
     unfold bigC at hb
     split at hb
     ·repeat' split at hb
      all_goals cases hb
     ·exact hb
    have:=big_ok (P:=P) hR.wr hv
    rw [hbig] at this
    exact (show BOk P Z S F w0 ρ σ' s a w o from this).wp hR fun σ'' ρ' a' w' e1 e2 e3=>hK _ ρ' _ _ e1 e2 ⟨_,_,e3⟩ (by rw [e3]; exact hh)
   | choice l =>
    rw [hb] at hh
    have hbig:big P σ o=.choice l:=by
     unfold bigC at hb
     split at hb
     ·repeat' split at hb
      all_goals cases hb
     ·exact hb
    have:=big_ok (P:=P) hR.wr hv
    rw [hbig] at this
    obtain ⟨p,hp,hbk⟩:=(show ChOk P Z S F w0 ρ l a w o from this)
    simp only [List.all_eq_true] at hh
    exact hbk.wp hR fun σ'' ρ' a' w' e1 e2 e3=>hK _ ρ' _ _ e1 e2 ⟨_,_,e3⟩ (by rw [e3]; exact hh p hp)
   | enter f args =>
    rw [hb] at hh
    simp only at hh
    obtain ⟨us,hu,hrun⟩:=enter_ok (P:=P) (w:=w) hv hb
    cases hor:Or σ f args with
    | some q =>
     obtain ⟨σ',s⟩:=q
     rw [hor] at hh
     rcases hO Z S F w0 ρ σ w f args us σ' s hT hR.wr hu hor with ⟨ρ',v,w',k1,k2,k3,k4⟩ | ⟨k1,k2⟩
     ·unfold Oper.wp
      rw [hrun,k1]
      exact hK _ ρ' _ _ k2 (hR.step (σ':=σ') k2 k3 k4 o.dst) ⟨_,_,rfl⟩ hh
     ·unfold Oper.wp
      rw [hrun,k1]
      refine k2.mono fun e w' ⟨ρ',v,e1,e2,e3,e4⟩=>?_
      subst e1
      exact hK _ ρ' _ _ e2 (hR.step (σ':=σ') e2 e3 e4 o.dst) ⟨_,_,rfl⟩ hh
    | none =>
     rw [hor] at hh
     simp only at hh
     split at hh
     ·rename_i fn hf
      split at hh
      ·rename_i c hbody
       split at hh
       ·cases hh
       ·rename_i hcond
        simp only [Bool.or_eq_true,Bool.not_eq_true',Bool.and_eq_false_iff,not_or,Bool.not_eq_true,Bool.not_eq_false] at hcond
        obtain ⟨hn,hle⟩:=hcond
        have hle1:args.length ≤ fn.ntmps:=by simp at hle; exact hle.1
        have hle2:fn.ntmps ≤ 65536:=by simp at hle; exact hle.2
        unfold Oper.wp
        rw [hrun,run_callFunc hf hn hbody]
        refine calls_of_wp hf hbody ?_
        refine hJ Z S F w0 ρ (.code c) _ _ _ _ _ hT (enter_rep hR hu hle1 hle2) hh fun e σ' ρ' a' w' e1 e2 e3=>?_
        cases e with
        | exit id=>cases e3
        | normal =>
         simp only at e3
         split at e3
         ·rename_i vs hvs
          obtain ⟨vv,r1,r2⟩:=res_ok e2 hvs
          exact ⟨e2.defers,_,r1,hK _ ρ' _ _ e1 (hR.step (σ':=σ') e1 e2.wr (ret_R r2) o.dst) ⟨_,_,rfl⟩ e3⟩
         ·cases e3
        | ret =>
         simp only at e3
         split at e3
         ·rename_i vs hvs
          obtain ⟨vv,r1,r2⟩:=res_ok e2 hvs
          exact ⟨e2.defers,_,r1,hK _ ρ' _ _ e1 (hR.step (σ':=σ') e1 e2.wr (ret_R r2) o.dst) ⟨_,_,rfl⟩ e3⟩
         ·cases e3
      ·cases hh
     ·cases hh
end
theorem optB_ok:∀ {a b:Option Nat},optB a b=true → a=b
 | none,none,_=>rfl
 | some a,some b,h=>by simp [optB] at h; rw [h]
 | none,some _,h=>by cases h
 | some _,none,h=>by cases h
theorem capsB_ok:∀ {a b:List (Nat × Nat)},capsB a b=true → a=b
 | [],[],_=>rfl
 | [],_ :: _,h=>by cases h
 | _ :: _,[],h=>by cases h
 | (a1,a2) :: x,(b1,b2) :: y,h=>by
  simp only [capsB,Bool.and_eq_true,Nat.beq_eq] at h
  rw [h.1.1,h.1.2,capsB_ok h.2]
theorem CV.same_ok:∀ {a b:CV},a.same b=true → a=b:=by
 intro a
 induction a with
 | iface t c ih =>
  intro b h
  cases b <;> simp only [CV.same,Bool.false_eq_true] at h
  simp only [Bool.and_eq_true,Nat.beq_eq] at h
  rw [h.1,ih h.2]
 | int k n =>
  intro b h
  cases b <;> simp only [CV.same,Bool.false_eq_true] at h
  simp only [Bool.and_eq_true,intEq_ok,beq_iff_eq] at h
  rw [h.1,h.2]
 | bool x=>intro b h; cases b <;> simp [CV.same] at h; rw [h]
 | str l=>intro b h; cases b <;> simp [CV.same,strEq_ok] at h; rw [h]
 | ptr x y=>intro b h; cases b <;> simp [CV.same] at h; rw [h.1,h.2]
 | sl x y z c=>intro b h; cases b <;> simp [CV.same] at h; rw [h.1.1.1,h.1.1.2,h.1.2,optB_ok h.2]
 | map x=>intro b h; cases b <;> simp [CV.same] at h; rw [h]
 | fn f l=>intro b h; cases b <;> simp [CV.same] at h; rw [h.1,capsB_ok h.2]
 | _=>intro b h; cases b <;> simp [CV.same] at h <;> rfl
theorem cvsB_ok:∀ {a b:List CV},cvsB a b=true → a=b
 | [],[],_=>rfl
 | [],_ :: _,h=>by cases h
 | _ :: _,[],h=>by cases h
 | a :: x,b :: y,h=>by simp only [cvsB,Bool.and_eq_true] at h; rw [CV.same_ok h.1,cvsB_ok h.2]
theorem V.same_ok {a b:V} (h:a.same b=true):a=b:=by
 cases a <;> cases b <;> simp only [V.same,Bool.false_eq_true] at h
 ·rw [CV.same_ok h]
 ·rw [cvsB_ok h]
theorem vsB_ok:∀ {a b:List V},vsB a b=true → a=b
 | [],[],_=>rfl
 | [],_ :: _,h=>by cases h
 | _ :: _,[],h=>by cases h
 | a :: x,b :: y,h=>by simp only [vsB,Bool.and_eq_true] at h; rw [V.same_ok h.1,vsB_ok h.2]
theorem SV.same_ok {a b:SV} (h:a.same b=true):a=b:=by
 cases a <;> cases b <;> simp only [SV.same,Bool.false_eq_true] at h
 ·rw [V.same_ok h]
 ·rw [vsB_ok h]
theorem ocB_ok:∀ {a b:Option CV},ocB a b=true → a=b
 | none,none,_=>rfl
 | some a,some b,h=>by simp only [ocB] at h; rw [CV.same_ok h]
 | none,some _,h=>by cases h
 | some _,none,h=>by cases h
theorem T.same_ok:∀ {a b:T CV},a.same b=true → a=b
 | .nil,.nil,_=>rfl
 | .nil,.node ..,h=>by cases h
 | .node ..,.nil,h=>by cases h
 | .node v l r,.node v' l' r',h=>by
  simp only [T.same,Bool.and_eq_true] at h
  rw [ocB_ok h.1.1,T.same_ok h.1.2,T.same_ok h.2]
theorem natsB_ok {a b:List Nat} (h:natsB a b=true):a=b:=by
 unfold natsB at h; rw [strEq_ok] at h; simpa using h
theorem Ob.same_ok {a b:Ob} (h:a.same b=true):a=b:=by
 cases a <;> cases b <;> simp only [Ob.same,Bool.false_eq_true] at h
 ·rename_i r o z r' o' z'
  simp only [Bool.and_eq_true,Nat.beq_eq,beq_iff_eq] at h
  obtain ⟨⟨⟨h1,h2⟩,h3⟩,h4⟩:=h
  have h1:=T.same_ok h1
  cases r; cases r'
  simp only at h1 h2
  rw [h1,h2,h3,h4]
 ·rename_i es c es' c'
  cases es <;> cases es' <;> simp only [Ob.same,Bool.false_eq_true] at h
  simp at h; rw [h]
 ·simp only [Bool.and_eq_true,Nat.beq_eq] at h
  rw [optB_ok h.1.1.1,h.1.1.2,natsB_ok h.1.2,h.2]
 ·simp only [Bool.and_eq_true,Nat.beq_eq] at h
  rw [natsB_ok h.1,h.2]
section
variable {P:Program} {gls:Gls} {Or:Oracle} {Z S:Nat → Prop} {F:Nat → Option Obj} {w0 w w':World} {ρ ρ':Rho} {σ σ':St} {a:Act} {o:Oper} {s:SV} {L:Nat → Prop} {all:Array Oper}
theorem put_get_ne (σ:St) {d:Option Nat} {s:SV} {t:Nat} (h:d ≠ some t):(σ.put d s).get t=σ.get t:=by
 cases d with
 | none=>rfl
 | some d =>
  unfold St.put
  simp only
  split
  ·unfold St.get
   show (if Nat.blt t σ.nt=true then ((σ.tmps.put d s).at t).getD undefS else undefS)=_
   rw [T.at_ne _ _ (fun e=>h (by rw [e]))]
  ·rfl
theorem put_same (σ:St) (d:Option Nat) (s:SV):(σ.put d s).nt=σ.nt ∧ (σ.put d s).gl=σ.gl ∧ (σ.put d s).heap=σ.heap ∧ (σ.put d s).next=σ.next:=by
 cases d with
 | none=>exact ⟨rfl,rfl,rfl,rfl⟩
 | some d=>unfold St.put; simp only; split <;> exact ⟨rfl,rfl,rfl,rfl⟩
theorem getD_set_ne {l:List Bool} {i j:Nat} {b:Bool} (h:i ≠ j):(l.set i b).getD j false=l.getD j false:=by
 simp [List.getD_eq_getElem?_getD,List.getElem?_set_ne h]
structure PassOk (P:Program) (gr:List Bool) (l:List (Oper × Nat)) (σ:St) (d:List Bool) (σ1:St) (d1:List Bool):Prop where
 len:d1.length=d.length
 le:∀ i,d.getD i false=true → d1.getD i false=true
 great:∀ i,gr.getD i true=true → d1.getD i false=d.getD i false
 nt:σ1.nt=σ.nt
 gl:σ1.gl=σ.gl
 next:σ.next ≤ σ1.next
 wr:∀ {Z S F w0 ρ w},WR Z S F w0 ρ σ.heap σ.next w → WR Z S F w0 ρ σ1.heap σ1.next w
 slot:∀ t,(∀ o i,(o,i) ∈ l → o.dst=some t → d1.getD i false=true → d.getD i false=true) → σ1.get t=σ.get t
theorem passL_ok {gr:List Bool}:∀ {l:List (Oper × Nat)} {σ:St} {d:List Bool} {σ1:St} {d1:List Bool},(∀ p ∈ l,p.2 < d.length) → passL P all gr l σ d=some (σ1,d1) → PassOk P gr l σ d σ1 d1
 | [],σ,d,σ1,d1,_,h=>by
  simp [passL] at h
  obtain ⟨rfl,rfl⟩:=h
  exact ⟨rfl,fun _ h=>h,fun _ _=>rfl,rfl,rfl,Nat.le_refl _,fun h=>h,fun _ _=>rfl⟩
 | (o,i) :: r,σ,d,σ1,d1,hl,h=>by
  have hl':∀ p ∈ r,p.2 < d.length:=fun p hp=>hl p (List.mem_cons_of_mem _ hp)
  have hlt:i < d.length:=hl (o,i) (List.mem_cons_self ..)
  unfold passL at h
  split at h
  ·have ih:=passL_ok hl' h
   exact ⟨ih.len,ih.le,ih.great,ih.nt,ih.gl,ih.next,ih.wr,fun t ht=>ih.slot t fun o' i' hm=>ht o' i' (List.mem_cons_of_mem _ hm)⟩
  ·rename_i hcond
   simp only [Bool.or_eq_true,Bool.not_eq_true',not_or,Bool.not_eq_true,Bool.not_eq_false] at hcond
   obtain ⟨⟨hd,hg⟩,hp⟩:=hcond
   have key:∀ {σ2:St} {s:SV},σ2.nt=σ.nt → σ2.gl=σ.gl → σ.next ≤ σ2.next → (∀ {Z S F w0 ρ w},WR Z S F w0 ρ σ.heap σ.next w → WR Z S F w0 ρ σ2.heap σ2.next w) → (∀ t,σ2.get t=σ.get t) →
     passL P all gr r (σ2.put o.dst s) (d.set i true)=some (σ1,d1) → PassOk P gr ((o,i) :: r) σ d σ1 d1:=by
    intro σ2 s e1 e2 e3 e4 e5 hh
    have ih:=passL_ok (by simpa using hl') hh
    obtain ⟨p1,p2,p3,p4⟩:=put_same σ2 o.dst s
    refine ⟨by rw [ih.len]; simp,fun j hj=>?_,fun j hj=>?_,by rw [ih.nt,p1,e1],by rw [ih.gl,p2,e2],by have:=ih.next; rw [p4] at this; omega,fun hw=>ih.wr (by rw [p3,p4]; exact e4 hw),fun t ht=>?_⟩
    ·refine ih.le j ?_
     by_cases hij:i=j
     ·subst hij
      simp [List.getD_eq_getElem?_getD,hlt]
     ·rw [getD_set_ne hij]; exact hj
    ·rw [ih.great j hj]
     by_cases hij:i=j
     ·subst hij; rw [hg] at hj; cases hj
     ·exact getD_set_ne hij
    ·by_cases hdt:o.dst=some t
     ·have h1:(d.set i true).getD i false=true:=by simp [List.getD_eq_getElem?_getD,hlt]
      have:=ht o i (List.mem_cons_self ..) hdt (ih.le i h1)
      rw [hd] at this; cases this
     ·rw [ih.slot t (fun o' i' hm hd' hd1=>?_),put_get_ne _ hdt,e5]
      have h2:=ht o' i' (List.mem_cons_of_mem _ hm) hd' hd1
      by_cases hij:i=i'
      ·subst hij; rw [hd] at h2; cases h2
      ·rw [getD_set_ne hij]; exact h2
   split at h
   ·cases h
   ·exact key rfl rfl (Nat.le_refl _) (fun h=>h) (fun _=>rfl) h
   ·split at h
    ·rename_i σ' s hc
     have hcalm:σ'=σ ∨ ∃ ob,σ'=σ.new ob:=by
      unfold calm at hc
      split at hc
      ·cases hc; exact .inl rfl
      ·split at hc
       ·cases hc; exact .inr ⟨_,rfl⟩
       ·cases hc
     rcases hcalm with rfl | ⟨ob,rfl⟩
     ·exact key (σ2:=σ'.tk σ') rfl rfl (Nat.le_refl _) (fun h=>h) (fun _=>rfl) h
     ·exact key (σ2:=σ.tk (σ.new ob)) rfl rfl (Nat.le_succ _) (fun h=>(h.place ob).1) (fun _=>rfl) h
    ·cases h
end
inductive Anc (ops:List Oper):Nat → Nat → Prop
 | one {i j:Nat} {o:Oper} {e:Edge}:ops[j]?=some o → e ∈ o.after.toList → bindsB e=true → e.on=i → Anc ops i j
 | more {i j k:Nat} {o:Oper} {e:Edge}:ops[j]?=some o → e ∈ o.after.toList → bindsB e=true → e.on=k → Anc ops i k → Anc ops i j
theorem getD_app_left {α:Type} {acc:List (List α)} {x:List α} {q:Nat} (h:q < acc.length):(acc ++ [x]).getD q []=acc.getD q []:=by
 simp [List.getD_eq_getElem?_getD,List.getElem?_append_left h]
theorem getD_app_last {α:Type} {acc:List (List α)} {x:List α}:(acc ++ [x]).getD acc.length []=x:=by
 simp [List.getD_eq_getElem?_getD]
theorem getD_app_out {α:Type} {acc:List (List α)} {x:List α} {q:Nat} (h:acc.length < q):(acc ++ [x]).getD q []=[]:=by
 rw [List.getD_eq_getElem?_getD,List.getElem?_eq_none (by simp; omega)]; rfl
theorem ancs_go (ops:List Oper) (n:Nat):∀ (l pre:List Oper) (acc:List (List Bool)),pre ++ l=ops → acc.length=pre.length → (∀ q b,(acc.getD q []).getD b false=true → Anc ops b q) →
  ∀ q b,((l.foldl (ancStep n) acc).getD q []).getD b false=true → Anc ops b q
 | [],pre,acc,_,_,h=>h
 | o :: l,pre,acc,hp,hl,h=>by
  simp only [List.foldl_cons]
  refine ancs_go ops n l (pre ++ [o]) (ancStep n acc o) (by rw [List.append_assoc]; exact hp) (by simp [ancStep,hl]) fun q b hq=>?_
  unfold ancStep at hq
  by_cases hlt:q < acc.length
  ·rw [getD_app_left hlt] at hq
   exact h q b hq
  ·by_cases hqe:q=acc.length
   ·subst hqe
    have ho:ops[acc.length]?=some o:=by rw [← hp,hl]; simp
    rw [getD_app_last] at hq
    rw [List.getD_eq_getElem?_getD,List.getElem?_map] at hq
    cases hr:(List.range n)[b]? with
    | none=>rw [hr] at hq; cases hq
    | some b' =>
     have hb':b'=b:=by
      have:=List.getElem?_eq_some_iff.1 hr
      obtain ⟨h1,h2⟩:=this
      simpa using h2.symm
     subst hb'
     rw [hr] at hq
     simp only [Option.map_some,Option.getD_some,List.any_eq_true,Bool.and_eq_true,Bool.or_eq_true] at hq
     obtain ⟨e,he,hbd,hor⟩:=hq
     rcases hor with h1 | h1
     ·exact .one ho he hbd (by simpa using h1)
     ·exact .more ho he hbd rfl (h _ _ h1)
   ·rw [getD_app_out (by omega)] at hq
    simp at hq
theorem anc_ok {ops:List Oper} {i j:Nat} (h:anc ops i j=true):Anc ops i j :=
 ancs_go ops ops.length ops [] [] rfl rfl (fun q b hq=>by simp at hq) j i h
def Lst (listed:Array Bool) (i:Nat):Prop:=listed.getD i false=true
def Clo (ops:List Oper) (listed:Array Bool):Prop:=∀ j o,ops[j]?=some o → Lst listed j → ∀ e ∈ o.after.toList,bindsB e=true → Lst listed e.on
theorem anc_listed {ops:List Oper} {listed:Array Bool} (hc:Clo ops listed) {i j:Nat} (h:Anc ops i j):(∀ o,ops[j]?=some o → ∀ e ∈ o.after.toList,bindsB e=true → Lst listed e.on) → Lst listed i:=by
 induction h with
 | one ho he hb hi=>intro hj; rw [← hi]; exact hj _ ho _ he hb
 | @more j k o e ho he hb hi _ ih =>
  intro hj
  have hk:=hj _ ho _ he hb
  rw [hi] at hk
  exact ih fun o' ho' e' he' hb'=>hc k o' ho' hk e' he' hb'
theorem ready_ok {ops:List Oper} {listed:Array Bool} {i:Nat} (h:i ∈ Region.ready .any ops.toArray listed):∃ o,ops[i]?=some o ∧ listed.getD i true=false ∧ ∀ e ∈ o.after.toList,bindsB e=true → Lst listed e.on:=by
 unfold Region.ready at h
 simp only [List.mem_filter,List.mem_range,Bool.and_eq_true,Bool.not_eq_true'] at h
 obtain ⟨h1,h2,h3⟩:=h
 cases ho:ops[i]? with
 | none=>simp [ho] at h3
 | some o =>
  refine ⟨o,rfl,h2,fun e he hb=>?_⟩
  simp only [List.getElem?_toArray,ho,Option.map_some,Option.getD_some] at h3
  rw [Array.all_eq_true_iff_forall_mem] at h3
  have:=h3 e (by simpa using he)
  unfold bindsB at hb
  rw [hb] at this
  unfold Lst
  simpa using this
theorem ready_of {ops:List Oper} {listed:Array Bool} {i:Nat} {o:Oper} (ho:ops[i]?=some o) (h2:listed.getD i true=false) (h3:∀ e ∈ o.after.toList,bindsB e=true → Lst listed e.on):i ∈ Region.ready .any ops.toArray listed:=by
 unfold Region.ready
 simp only [List.mem_filter,List.mem_range,Bool.and_eq_true,Bool.not_eq_true']
 refine ⟨by have:=(List.getElem?_eq_some_iff.1 ho).1; simpa using this,h2,?_⟩
 simp only [List.getElem?_toArray,ho,Option.map_some,Option.getD_some]
 rw [Array.all_eq_true_iff_forall_mem]
 intro e he
 cases hb:Region.binds .any e with
 | false=>simp
 | true=>have:=h3 e (by simpa using he) hb; unfold Lst at this; simpa using this
theorem zip_mem {α:Type} {l:List α} {x:α} {i:Nat}:(x,i) ∈ l.zipIdx ↔ l[i]?=some x:=by
 rw [List.mem_zipIdx_iff_getElem?]
section
variable {P:Program} {all:Array Oper} {ops:List Oper} {gr d0 d:List Bool} {last:Option Nat} {σ:St} {nx0 nx:Nat}
def isAnc (ops:List Oper) (last:Option Nat) (i:Nat):Bool:=match last with | none=>false | some b=>anc ops i b
def Cons (ops:List Oper) (gr d:List Bool) (last:Option Nat) (i:Nat):Prop:=gr.getD i true=false ∧ d.getD i false=true ∧ isAnc ops last i=false
theorem nodeOk_cons (o:Oper) (i:Nat) (r:List (Oper × Nat)) (ids:List Nat):nodeOk P all ops gr d0 d last σ nx0 nx ((o,i) :: r) ids =
  if gr.getD i true then nodeOk P all ops gr d0 d last σ nx0 nx r ids
  else if !d.getD i false then !(predsDone o d) && nodeOk P all ops gr d0 d last σ nx0 nx r ids
  else if isAnc ops last i then nodeOk P all ops gr d0 d last σ nx0 nx r ids
  else match again P all σ o nx0 with
   | none=>false
   | some none=>nodeOk P all ops gr d0 d last σ nx0 nx r ids
   | some (some id)=>notIn id ids && (d0.getD i false || Nat.ble nx id) && nodeOk P all ops gr d0 d last σ nx0 nx r (id :: ids):=by
 cases last <;> rfl
theorem nodeOk_full:∀ {l:List (Oper × Nat)} {ids:List Nat},nodeOk P all ops gr d0 d last σ nx0 nx l ids=true → ∀ o i,(o,i) ∈ l → gr.getD i true=false → d.getD i false=false → predsDone o d=false
 | [],ids,_,o,i,h,_,_=>by cases h
 | (o',i') :: r,ids,hn,o,i,hm,h1,h2=>by
  rw [nodeOk_cons] at hn
  rcases List.mem_cons.1 hm with hq | hq
  ·cases hq
   rw [if_neg (by rw [h1]; simp),if_pos (by rw [h2]; rfl)] at hn
   simp only [Bool.and_eq_true,Bool.not_eq_true'] at hn
   exact hn.1
  ·split at hn
   ·exact nodeOk_full hn o i hq h1 h2
   ·split at hn
    ·simp only [Bool.and_eq_true] at hn; exact nodeOk_full hn.2 o i hq h1 h2
    ·split at hn
     ·exact nodeOk_full hn o i hq h1 h2
     ·split at hn
      ·cases hn
      ·exact nodeOk_full hn o i hq h1 h2
      ·simp only [Bool.and_eq_true] at hn; exact nodeOk_full hn.2 o i hq h1 h2
theorem notIn_ok:∀ {l:List Nat} {id:Nat},notIn id l=true → id ∉ l
 | [],id,_,h=>by cases h
 | a :: l,id,hn,h=>by
  simp only [notIn,Bool.and_eq_true,Bool.not_eq_true'] at hn
  rcases List.mem_cons.1 h with rfl | h
  ·have:Nat.beq id id=true:=Nat.beq_refl id
   rw [hn.1] at this; cases this
  ·exact notIn_ok hn.2 h
theorem nodeOk_again:∀ {l:List (Oper × Nat)} {ids:List Nat},nodeOk P all ops gr d0 d last σ nx0 nx l ids=true → ∀ o i,(o,i) ∈ l → Cons ops gr d last i →
  ∃ q,again P all σ o nx0=some q ∧ ∀ id,q=some id → id ∉ ids ∧ (d0.getD i false=true ∨ nx ≤ id)
 | [],ids,_,o,i,h,_=>by cases h
 | (o',i') :: r,ids,hn,o,i,hm,hc=>by
  rw [nodeOk_cons] at hn
  rcases List.mem_cons.1 hm with hq | hq
  ·cases hq
   obtain ⟨h1,h2,h3⟩:=hc
   rw [if_neg (by rw [h1]; simp),if_neg (by rw [h2]; simp),if_neg (by rw [h3]; simp)] at hn
   split at hn
   ·cases hn
   ·rename_i hr; exact ⟨none,hr,fun id e=>by cases e⟩
   ·rename_i id hr
    simp only [Bool.and_eq_true,Bool.or_eq_true] at hn
    exact ⟨some id,hr,fun id' e=>by cases e; exact ⟨notIn_ok hn.1.1,by simpa using hn.1.2⟩⟩
  ·split at hn
   ·exact nodeOk_again hn o i hq hc
   ·split at hn
    ·simp only [Bool.and_eq_true] at hn; exact nodeOk_again hn.2 o i hq hc
    ·split at hn
     ·exact nodeOk_again hn o i hq hc
     ·split at hn
      ·cases hn
      ·exact nodeOk_again hn o i hq hc
      ·simp only [Bool.and_eq_true] at hn
       obtain ⟨q,h1,h2⟩:=nodeOk_again hn.2 o i hq hc
       exact ⟨q,h1,fun id e=>⟨fun hmm=>(h2 id e).1 (List.mem_cons_of_mem _ hmm),(h2 id e).2⟩⟩
theorem nodeOk_apart:∀ {l:List (Oper × Nat)} {ids:List Nat},nodeOk P all ops gr d0 d last σ nx0 nx l ids=true → ∀ o i o' i',(o,i) ∈ l → (o',i') ∈ l → i ≠ i' → Cons ops gr d last i → Cons ops gr d last i' →
  ∀ id id',again P all σ o nx0=some (some id) → again P all σ o' nx0=some (some id') → id ≠ id'
 | [],ids,_,o,i,o',i',h,_,_,_,_=>by cases h
 | (o1,i1) :: r,ids,hn,o,i,o',i',hm,hm',hne,hc,hc'=>by
  intro id id' ha ha'
  have hn0:=hn
  rw [nodeOk_cons] at hn
  rcases List.mem_cons.1 hm with hq | hq
  ·rcases List.mem_cons.1 hm' with hq' | hq'
   ·cases hq; cases hq'; exact absurd rfl hne
   ·cases hq
    obtain ⟨h1,h2,h3⟩:=hc
    rw [if_neg (by rw [h1]; simp),if_neg (by rw [h2]; simp),if_neg (by rw [h3]; simp),ha] at hn
    simp only [Bool.and_eq_true] at hn
    obtain ⟨q,k1,k2⟩:=nodeOk_again hn.2 o' i' hq' hc'
    rw [ha'] at k1; cases k1
    intro e
    exact (k2 id' rfl).1 (by rw [← e]; exact List.mem_cons_self ..)
  ·rcases List.mem_cons.1 hm' with hq' | hq'
   ·cases hq'
    obtain ⟨h1,h2,h3⟩:=hc'
    rw [if_neg (by rw [h1]; simp),if_neg (by rw [h2]; simp),if_neg (by rw [h3]; simp),ha'] at hn
    simp only [Bool.and_eq_true] at hn
    obtain ⟨q,k1,k2⟩:=nodeOk_again hn.2 o i hq hc
    rw [ha] at k1; cases k1
    intro e
    exact (k2 id rfl).1 (by rw [e]; exact List.mem_cons_self ..)
   ·split at hn
    ·exact nodeOk_apart hn o i o' i' hq hq' hne hc hc' id id' ha ha'
    ·split at hn
     ·simp only [Bool.and_eq_true] at hn; exact nodeOk_apart hn.2 o i o' i' hq hq' hne hc hc' id id' ha ha'
     ·split at hn
      ·exact nodeOk_apart hn o i o' i' hq hq' hne hc hc' id id' ha ha'
      ·split at hn
       ·cases hn
       ·exact nodeOk_apart hn o i o' i' hq hq' hne hc hc' id id' ha ha'
       ·simp only [Bool.and_eq_true] at hn; exact nodeOk_apart hn.2 o i o' i' hq hq' hne hc hc' id id' ha ha'
end
theorem zipIdx_get {α:Type} (l:List α) (i:Nat):l.zipIdx[i]?=(l[i]?).map fun x=>(x,i):=by
 simp [List.getElem?_zipIdx]
theorem greatB_at (ops:List Oper) (i:Nat):(greatB ops)[i]?=(ops[i]?).map fun o=>isBig o || clash ops o i:=by
 unfold greatB
 rw [List.getElem?_map,zipIdx_get]
 cases ops[i]? <;> rfl
theorem light_of {ops:List Oper} {i:Nat} (h:(greatB ops).getD i true=false):∃ o,ops[i]?=some o ∧ isBig o=false ∧ clash ops o i=false:=by
 rw [List.getD_eq_getElem?_getD,greatB_at] at h
 cases ho:ops[i]? with
 | none=>rw [ho] at h; cases h
 | some o=>rw [ho] at h; simp at h; exact ⟨o,rfl,h.1,h.2⟩
theorem clash_no {ops:List Oper} {o:Oper} {i t:Nat} (h:clash ops o i=false) (ho:ops[i]?=some o) (ht:o.dst=some t) :
  reads o t=false ∧ ∀ q j,ops[j]?=some q → j ≠ i → q.dst ≠ some t ∧ (reads q t=true → direct ops i j=true):=by
 unfold clash at h
 rw [ht] at h
 simp only [Bool.or_eq_false_iff] at h
 refine ⟨h.1,fun q j hq hj=>?_⟩
 have h2:=h.2
 rw [List.any_eq_false] at h2
 have h3:=h2 (q,j) (zip_mem.2 hq)
 simp only [Bool.and_eq_true,Bool.not_eq_true',Bool.or_eq_true,beq_iff_eq,not_and,not_or] at h3
 have h4:=h3 (by
  cases hb:Nat.beq j i with
  | false=>rfl
  | true=>exact absurd (Nat.eq_of_beq_eq_true hb) hj)
 refine ⟨h4.1,fun hr=>?_⟩
 have h5:=h4.2 hr
 simpa using h5
theorem direct_ok {ops:List Oper} {i j:Nat} {o:Oper} (ho:ops[j]?=some o) (h:direct ops i j=true):∃ e ∈ o.after.toList,bindsB e=true ∧ e.on=i:=by
 unfold direct at h
 rw [ho] at h
 simp only [List.any_eq_true,Bool.and_eq_true,Nat.beq_eq] at h
 obtain ⟨e,h1,h2,h3⟩:=h
 exact ⟨e,h1,h2,h3⟩
theorem reads_of {o:Oper} {t:Nat} (h:Operand.tmp t ∈ o.op.operands.toList):reads o t=true:=by
 unfold reads
 rw [List.any_eq_true]
 exact ⟨_,h,by simp [isTmp]⟩
theorem chain_pre {ops:List Oper}:∀ {l:List Nat} {b i:Nat},chainB ops (b :: l)=true → i ∈ l → ∃ x ∈ b :: l,anc ops x i=true
 | [],b,i,_,h=>by cases h
 | c :: l,b,i,hc,h=>by
  simp only [chainB,Bool.and_eq_true] at hc
  rcases List.mem_cons.1 h with rfl | h
  ·exact ⟨b,List.mem_cons_self ..,hc.1⟩
  ·obtain ⟨x,h1,h2⟩:=chain_pre hc.2 h
   exact ⟨x,List.mem_cons_of_mem _ h1,h2⟩
theorem chain_tail {ops:List Oper} {b:Nat} {l:List Nat} (h:chainB ops (b :: l)=true):chainB ops l=true:=by
 cases l with
 | nil=>rfl
 | cons c l=>simp only [chainB,Bool.and_eq_true] at h; exact h.2
theorem mem_bigs {ops:List Oper} {i:Nat}:i ∈ bigsOf ops ↔ i < ops.length ∧ (greatB ops).getD i true=true:=by
 unfold bigsOf
 simp only [List.mem_map,List.mem_filter,Prod.exists]
 constructor
 ·rintro ⟨b,j,⟨h1,h2⟩,rfl⟩
  have h1:=zip_mem.1 h1
  have h2:b=true:=h2
  subst h2
  refine ⟨?_,by rw [List.getD_eq_getElem?_getD,h1]; rfl⟩
  rw [greatB_at] at h1
  cases ho:ops[j]? with
  | none=>rw [ho] at h1; cases h1
  | some o=>exact (List.getElem?_eq_some_iff.1 ho).1
 ·rintro ⟨h1,h2⟩
  refine ⟨true,i,⟨zip_mem.2 ?_,rfl⟩,rfl⟩
  have ho:ops[i]?=some ops[i]:=List.getElem?_eq_getElem h1
  rw [List.getD_eq_getElem?_getD] at h2
  rw [greatB_at,ho] at h2 ⊢
  simpa using h2
theorem bigs_nodup (ops:List Oper):(bigsOf ops).Nodup:=by
 unfold bigsOf
 have h1:((greatB ops).zipIdx.map (·.2)).Nodup:=by
  rw [List.zipIdx_map_snd]; exact List.nodup_range'
 exact h1.sublist (List.Sublist.map _ List.filter_sublist)
theorem Lst.set {l:Array Bool} {i j:Nat} (h:Lst (l.setIfInBounds i true) j):Lst l j ∨ i=j:=by
 unfold Lst at *
 by_cases hij:i=j
 ·exact .inr hij
 ·rw [Array.getD_eq_getD_getElem?,Array.getElem?_setIfInBounds_ne hij,← Array.getD_eq_getD_getElem?] at h; exact .inl h
theorem Lst.keep {l:Array Bool} {i j:Nat} (h:Lst l j):Lst (l.setIfInBounds i true) j:=by
 unfold Lst at *
 by_cases hij:i=j
 ·subst hij
  have hlt:i < l.size:=by
   by_cases hlt:i < l.size
   ·exact hlt
   ·rw [Array.getD_eq_getD_getElem?,Array.getElem?_eq_none (by omega)] at h; cases h
  rw [Array.getD_eq_getD_getElem?,Array.getElem?_setIfInBounds_self_of_lt hlt]; rfl
 ·rw [Array.getD_eq_getD_getElem?,Array.getElem?_setIfInBounds_ne hij,← Array.getD_eq_getD_getElem?]; exact h
theorem Lst.new {l:Array Bool} {i:Nat} (h:i < l.size):Lst (l.setIfInBounds i true) i:=by
 unfold Lst
 rw [Array.getD_eq_getD_getElem?,Array.getElem?_setIfInBounds_self_of_lt h]; rfl
theorem notLst {l:Array Bool} {i:Nat} (h:l.getD i true=false):¬ Lst l i ∧ i < l.size:=by
 unfold Lst
 rw [Array.getD_eq_getD_getElem?] at h ⊢
 cases hl:l[i]? with
 | none=>rw [hl] at h; cases h
 | some b =>
  rw [hl] at h
  simp at h; subst h
  exact ⟨by simp,(Array.getElem?_eq_some_iff.1 hl).1⟩
theorem isLst {l:Array Bool} {i:Nat} (h:¬ Lst l i) (hi:i < l.size):l.getD i true=false:=by
 unfold Lst at h
 rw [Array.getD_eq_getD_getElem?] at h ⊢
 rw [Array.getElem?_eq_getElem hi] at h ⊢
 simpa using h
def cnt (l:Array Bool):Nat:=l.toList.count false
theorem cnt_set {l:Array Bool} {i:Nat} (h:l.getD i true=false):cnt l=cnt (l.setIfInBounds i true) + 1:=by
 obtain ⟨_,hlt⟩:=notLst h
 rw [Array.getD_eq_getD_getElem?,Array.getElem?_eq_getElem hlt] at h
 simp at h
 unfold cnt
 rw [Array.toList_setIfInBounds,List.count_set (by simpa using hlt)]
 have:l.toList[i]'(by simpa using hlt)=false:=by simpa using h
 have hpos:0 < l.toList.count false:=List.count_pos_iff.2 (List.mem_of_getElem this)
 simp only [this]
 simp
 rw [← Array.count_toList]
 omega
theorem cnt_zero {l:Array Bool} (h:cnt l=0) (i:Nat) (hi:i < l.size):Lst l i:=by
 unfold cnt at h
 rw [List.count_eq_zero] at h
 unfold Lst
 rw [Array.getD_eq_getD_getElem?,Array.getElem?_eq_getElem hi]
 cases hb:l[i] with
 | true=>rfl
 | false=>exact absurd (by rw [← hb]; simp) h
theorem shape_back {ops:List Oper} (h:shapeOk ops=true) {i:Nat} {o:Oper} (ho:ops[i]?=some o):∀ e ∈ o.after.toList,bindsB e=true → e.on < i:=by
 intro e he hb
 unfold shapeOk at h
 simp only [Bool.and_eq_true,List.all_eq_true] at h
 have:=h.1.1.1 (o,i) (zip_mem.2 ho) e he
 simpa [hb] using this
theorem shape_guard {ops:List Oper} (h:shapeOk ops=true) {i:Nat} {o:Oper} (ho:ops[i]?=some o) {j:Nat} {want:Bool} (hg:o.guard=some (j,want)):direct ops j i=true:=by
 unfold shapeOk at h
 simp only [Bool.and_eq_true,List.all_eq_true] at h
 have:=h.1.1.2 (o,i) (zip_mem.2 ho)
 simp only [hg,Bool.and_eq_true] at this
 exact this.1
theorem shape_chain {ops:List Oper} (h:shapeOk ops=true):chainB ops (bigsOf ops)=true:=by
 unfold shapeOk at h
 simp only [Bool.and_eq_true] at h
 exact h.1.2
theorem all_listed {ops:List Oper} {listed:Array Bool} (hs:shapeOk ops=true) (hl:listed.size=ops.length) (hr:Region.ready .any ops.toArray listed=[]):∀ i,i < ops.length → Lst listed i:=by
 intro i
 induction i using Nat.strongRecOn with
 | ind i ih =>
  intro hi
  apply Classical.byContradiction
  intro hn
  have ho:ops[i]?=some ops[i]:=List.getElem?_eq_getElem hi
  have:=ready_of ho (isLst hn (by omega)) (fun e he hb=>by
   have hlt:=shape_back hs ho e he hb
   exact ih e.on hlt (by omega))
  rw [hr] at this
  cases this
def LV (ops:List Oper) (d:List Bool) (listed:Array Bool) (t:Nat):Prop:=∀ i o,ops[i]?=some o → o.dst=some t → d.getD i false=true → Lst listed i
structure RI (P:Program) (ops:List Oper) (Z S:Nat → Prop) (F:Nat → Option Obj) (w0:World) (nx0:Nat) (bigs:List Nat) (d:List Bool) (last:Option Nat) (σ:St) (ρ:Rho) (listed:Array Bool) (a:Act) (w:World):Prop where
 rep:Rep Z S F w0 ρ (LV ops d listed) σ a w
 dl:d.length=ops.length
 ll:listed.size=ops.length
 clo:Clo ops listed
 le:∀ i,Lst listed i → d.getD i false=true
 gl:∀ i,i < ops.length → (greatB ops).getD i true=true → (Lst listed i ↔ i ∉ bigs)
 gd:∀ i,i < ops.length → (greatB ops).getD i true=true → d.getD i false=true → i ∉ bigs
 gb:∀ i ∈ bigs,i < ops.length ∧ (greatB ops).getD i true=true
 nd:bigs.Nodup
 ch:chainB ops bigs=true
 la:∀ b,last=some b → Lst listed b
 z:∀ id,Z id → id < nx0
 fresh:∀ i o t id,ops[i]?=some o → (greatB ops).getD i true=false → madeB P o=true → d.getD i false=true → ¬ Lst listed i → o.dst=some t → idOf (σ.get t)=some id → ρ id=none
structure NF (P:Program) (ops:List Oper) (d0 d:List Bool) (last:Option Nat) (σ:St) (nx0 nx:Nat):Prop where
 full:∀ o i,ops[i]?=some o → (greatB ops).getD i true=false → d.getD i false=false → predsDone o d=false
 again:∀ o i,ops[i]?=some o → Cons ops (greatB ops) d last i → ∃ q,again P ops.toArray σ o nx0=some q ∧ ∀ id,q=some id → d0.getD i false=true ∨ nx ≤ id
 apart:∀ o i o' i',ops[i]?=some o → ops[i']?=some o' → i ≠ i' → Cons ops (greatB ops) d last i → Cons ops (greatB ops) d last i' → ∀ id id',Cx.again P ops.toArray σ o nx0=some (some id) → Cx.again P ops.toArray σ o' nx0=some (some id') → id ≠ id'
theorem nf_of {P:Program} {ops:List Oper} {d0 d:List Bool} {last:Option Nat} {σ:St} {nx0 nx:Nat} (h:nodeOk P ops.toArray ops (greatB ops) d0 d last σ nx0 nx ops.zipIdx []=true):NF P ops d0 d last σ nx0 nx where
 full:=fun o i ho h1 h2=>nodeOk_full h o i (zip_mem.2 ho) h1 h2
 again:=fun o i ho hc=>by
  obtain ⟨q,h1,h2⟩:=nodeOk_again h o i (zip_mem.2 ho) hc
  exact ⟨q,h1,fun id e=>(h2 id e).2⟩
 apart:=fun o i o' i' ho ho' hne hc hc'=>nodeOk_apart h o i o' i' (zip_mem.2 ho) (zip_mem.2 ho') hne hc hc'
section
variable {P:Program} {gls:Gls} {Or:Oracle} {ops:List Oper} {Z S:Nat → Prop} {F:Nat → Option Obj} {w0 w w':World} {nx0 nx:Nat} {bigs:List Nat} {d d0 d1:List Bool} {last:Option Nat} {σ σ1:St} {ρ ρ':Rho} {listed:Array Bool} {a:Act}
theorem again_made {o:Oper} {t id:Nat} {q:Option Nat} (ha:again P ops.toArray σ o nx0=some q) (hm:madeB P o=true) (ht:o.dst=some t) (hid:idOf (σ.get t)=some id):q=some id ∧ nx0 ≤ id ∧ id < σ.next:=by
 unfold again at ha
 split at ha
 ·cases ha
 ·exfalso
  split at ha
  ·rename_i hs
   unfold sameAt at hs
   rw [ht] at hs
   simp only [Bool.and_eq_true] at hs
   rw [SV.same_ok hs.2] at hid
   cases hid
  ·cases ha
 ·rw [if_pos hm] at ha
  split at ha
  ·rename_i ob f t' hmk ht'
   rw [ht] at ht'; cases ht'
   rw [hid] at ha
   simp only at ha
   split at ha
   ·split at ha
    ·rename_i hc
     cases ha
     simp only [Bool.and_eq_true,Nat.blt_eq,Nat.ble_eq] at hc
     exact ⟨rfl,hc.1.2,hc.2⟩
    ·cases ha
   ·cases ha
  ·cases ha
theorem RI.cons (h:RI P ops Z S F w0 nx0 bigs d last σ ρ listed a w) {i:Nat} (h1:(greatB ops).getD i true=false) (h2:d.getD i false=true) (h3:¬ Lst listed i):Cons ops (greatB ops) d last i:=by
 refine ⟨h1,h2,?_⟩
 unfold isAnc
 cases hl:last with
 | none=>rfl
 | some b =>
  simp only
  cases ha:anc ops i b with
  | false=>rfl
  | true =>
   exact absurd (anc_listed h.clo (anc_ok ha) fun o ho e he hb=>h.clo b o ho (h.la b hl) e he hb) h3
theorem RI.pass (h:RI P ops Z S F w0 nx0 bigs d last σ ρ listed a w) (hp:passL P ops.toArray (greatB ops) ops.zipIdx σ d=some (σ1,d1)) (hn:NF P ops d d1 last σ1 nx0 σ.next):RI P ops Z S F w0 nx0 bigs d1 last σ1 ρ listed a w:=by
 have hk:=passL_ok (fun p hp'=>by
  obtain ⟨o,i⟩:=p
  have:=(List.getElem?_eq_some_iff.1 (zip_mem.1 hp')).1
  rw [h.dl]; exact this) hp
 have hslot:∀ t,LV ops d1 listed t → σ1.get t=σ.get t:=fun t ht=>hk.slot t fun o i hm hd hd1=>h.le i (ht i o (zip_mem.1 hm) hd hd1)
 have hpre:RI P ops Z S F w0 nx0 bigs d last σ ρ listed a w:=h
 have hcons:∀ {i:Nat},(greatB ops).getD i true=false → d1.getD i false=true → ¬ Lst listed i → Cons ops (greatB ops) d1 last i:=by
  intro i h1 h2 h3
  refine ⟨h1,h2,?_⟩
  unfold isAnc
  cases hl:last with
  | none=>rfl
  | some b =>
   simp only
   cases ha:anc ops i b with
   | false=>rfl
   | true=>exact absurd (anc_listed h.clo (anc_ok ha) fun o ho e he hb=>h.clo b o ho (h.la b hl) e he hb) h3
 refine ⟨⟨h.rep.defers,by rw [hk.nt]; exact h.rep.size,by rw [hk.nt]; exact h.rep.nt,fun t ht hlt=>?_,by rw [hk.gl]; exact h.rep.gl,hk.wr h.rep.wr⟩,by rw [hk.len]; exact h.dl,h.ll,h.clo,fun i hi=>hk.le i (h.le i hi),h.gl,fun i hi hg hd=>h.gd i hi hg (by rw [← hk.great i hg]; exact hd),h.gb,h.nd,h.ch,h.la,h.z,?_⟩
 ·rw [hslot t ht]
  exact h.rep.tmp t (fun i o ho hd hdi=>ht i o ho hd (hk.le i hdi)) (by rw [← hk.nt]; exact hlt)
 ·intro i o t id ho hg hm hd1 hnl ht hid
  obtain ⟨q,hq,hq2⟩:=hn.again o i ho (hcons hg hd1 hnl)
  obtain ⟨e1,_,_⟩:=again_made hq hm ht hid
  rcases hq2 id e1 with hd0 | hnx
  ·have hs:σ1.get t=σ.get t:=hk.slot t fun o' i' hm' hd' _=>by
    obtain ⟨o2,ho2,_,hcl⟩:=light_of hg
    rw [ho] at ho2; cases ho2
    by_cases hii:i'=i
    ·rw [hii]; exact hd0
    ·exact absurd hd' ((clash_no hcl ho ht).2 o' i' (zip_mem.1 hm') hii).1
   exact h.fresh i o t id ho hg hm hd0 hnl ht (by rw [← hs]; exact hid)
  ·cases hr:ρ id with
   | none=>rfl
   | some p=>have:=(h.rep.wr.lt id p hr).1; omega
theorem RI.live (h:RI P ops Z S F w0 nx0 bigs d last σ ρ listed a w) {i:Nat} {o:Oper} (ho:ops[i]?=some o) (hrd:∀ e ∈ o.after.toList,bindsB e=true → Lst listed e.on) {t:Nat} (ht:reads o t=true):LV ops d listed t:=by
 intro j q hq hqt hd
 have hj:j < ops.length:=(List.getElem?_eq_some_iff.1 hq).1
 cases hg:(greatB ops).getD j true with
 | true=>exact (h.gl j hj hg).2 (h.gd j hj hg hd)
 | false =>
  obtain ⟨o2,ho2,_,hcl⟩:=light_of hg
  rw [hq] at ho2; cases ho2
  have hc:=clash_no hcl hq hqt
  by_cases hij:i=j
  ·subst hij
   rw [hq] at ho; cases ho
   rw [hc.1] at ht; cases ht
  ·obtain ⟨e,he,hb,hon⟩:=direct_ok ho ((hc.2 o i ho hij).2 ht)
   rw [← hon]; exact hrd e he hb
theorem RI.liveG (h:RI P ops Z S F w0 nx0 bigs d last σ ρ listed a w) (hs:shapeOk ops=true) {i:Nat} {o:Oper} (ho:ops[i]?=some o) (hrd:∀ e ∈ o.after.toList,bindsB e=true → Lst listed e.on) {j:Nat} {want:Bool} {t:Nat} (hgd:o.guard=some (j,want)) (ht:(ops.toArray[j]?).bind (·.dst)=some t):LV ops d listed t:=by
 intro k q hq hqt hd
 have hk:k < ops.length:=(List.getElem?_eq_some_iff.1 hq).1
 cases hg:(greatB ops).getD k true with
 | true=>exact (h.gl k hk hg).2 (h.gd k hk hg hd)
 | false =>
  obtain ⟨o2,ho2,_,hcl⟩:=light_of hg
  rw [hq] at ho2; cases ho2
  have hc:=clash_no hcl hq hqt
  have hjk:j=k:=by
   apply Classical.byContradiction
   intro hne
   rw [List.getElem?_toArray] at ht
   cases hoj:ops[j]? with
   | none=>rw [hoj] at ht; cases ht
   | some oj =>
    rw [hoj] at ht
    exact (hc.2 oj j hoj hne).1 ht
  subst hjk
  obtain ⟨e,he,hb,hon⟩:=direct_ok ho (shape_guard hs ho hgd)
  rw [← hon]; exact hrd e he hb
theorem Rep.same {L:Nat → Prop} (h:Rep Z S F w0 ρ L σ a w) (hx:Ext ρ ρ') (hw:WR Z S F w0 ρ' σ.heap σ.next w') {dst:Option Nat} {v:Value} (hs:∀ t,dst=some t → (σ.get t).R ρ' v):Rep Z S F w0 ρ' (fun t=>L t ∨ dst=some t) σ (a.put dst v) w':=by
 have hgl:∀ p ∈ σ.gl,∃ q,ρ' p.2=some q ∧ q.b=p.1 ∧ q.o=0:=fun p hp=>by obtain ⟨q,h1,h2⟩:=h.gl p hp; exact ⟨q,hx _ _ h1,h2⟩
 cases dst with
 | none =>
  refine ⟨h.defers,h.size,h.nt,fun t ht hlt=>?_,hgl,hw⟩
  rcases ht with ht | ht
  ·exact (h.tmp t ht hlt).mono hx
  ·cases ht
 | some d =>
  refine ⟨h.defers,by simp [Act.put,h.size],h.nt,fun t ht hlt=>?_,hgl,hw⟩
  by_cases htd:t=d
  ·subst htd
   have h2:(a.put (some t) v).tmps.getD t undef=v:=by
    have h3:(a.tmps.setIfInBounds t v)[t]?=some v:=by rw [Array.getElem?_setIfInBounds_self_of_lt (by rw [h.size]; exact hlt)]
    show (a.tmps.setIfInBounds t v).getD t undef=v
    rw [Array.getD_eq_getD_getElem?,h3]; rfl
   rw [h2]; exact hs t rfl
  ·have h2:(a.put (some d) v).tmps.getD t undef=a.tmps.getD t undef:=by
    simp [Act.put,Array.getD_eq_getD_getElem?,Array.getElem?_setIfInBounds_ne (Ne.symm htd)]
   rw [h2]
   rcases ht with ht | ht
   ·exact (h.tmp t ht hlt).mono hx
   ·simp at ht; exact absurd ht.symm htd
theorem RI.list (h:RI P ops Z S F w0 nx0 bigs d last σ ρ listed a w) {i:Nat} {o:Oper} (ho:ops[i]?=some o) (hg:(greatB ops).getD i true=false) (hd:d.getD i false=true) (hrd:∀ e ∈ o.after.toList,bindsB e=true → Lst listed e.on)
  (hx:Ext ρ ρ') (hw:WR Z S F w0 ρ' σ.heap σ.next w') {v:Value} (hs:∀ t,o.dst=some t → (σ.get t).R ρ' v)
  (hf:∀ i' o' t id,i' ≠ i → ops[i']?=some o' → (greatB ops).getD i' true=false → madeB P o'=true → d.getD i' false=true → ¬ Lst listed i' → o'.dst=some t → idOf (σ.get t)=some id → ρ id=none → ρ' id=none) :
  RI P ops Z S F w0 nx0 bigs d last σ ρ' (listed.setIfInBounds i true) (a.put o.dst v) w':=by
 have hi:i < ops.length:=(List.getElem?_eq_some_iff.1 ho).1
 refine ⟨(h.rep.same hx hw hs).mono fun t ht=>?_,h.dl,by simp [h.ll],fun j q hq hj e he hb=>?_,fun j hj=>?_,fun j hj hgj=>?_,h.gd,h.gb,h.nd,h.ch,fun b hb=>(h.la b hb).keep,h.z,fun i' o' t id ho' hg' hm hd' hnl ht hid=>?_⟩
 ·by_cases hot:o.dst=some t
  ·exact .inr hot
  ·refine .inl fun j q hq hqt hdj=>?_
   rcases (ht j q hq hqt hdj).set with k | k
   ·exact k
   ·subst k; rw [ho] at hq; cases hq; exact absurd hqt hot
 ·rcases hj.set with k | k
  ·exact (h.clo j q hq k e he hb).keep
  ·subst k; rw [ho] at hq; cases hq; exact (hrd e he hb).keep
 ·rcases hj.set with k | k
  ·exact h.le j k
  ·subst k; exact hd
 ·rw [← h.gl j hj hgj]
  refine ⟨fun k=>?_,fun k=>k.keep⟩
  rcases k.set with k | k
  ·exact k
  ·subst k; rw [hg] at hgj; cases hgj
 ·have hne:i' ≠ i:=fun e=>by
   subst e
   exact hnl (Lst.new (by rw [h.ll]; exact hi))
  have hnl':¬ Lst listed i':=fun k=>hnl k.keep
  exact hf i' o' t id hne ho' hg' hm hd' hnl' ht hid (h.fresh i' o' t id ho' hg' hm hd' hnl' ht hid)
def SndR (P:Program) (gls:Gls) (Or:Oracle) (n:Nat):Prop:=∀ (Z S:Nat → Prop) (F:Nat → Option Obj) (w0:World) (ρ:Rho) (ops:List Oper) (nx0:Nat) (bigs:List Nat) (d:List Bool) (last:Option Nat) (σ:St) (k:Ex → St → Bool) (listed:Array Bool) (a:Act) (w:World) (Q:Exit → Act → World → Prop),
 TabF gls S F → shapeOk ops=true → RI P ops Z S F w0 nx0 bigs d last σ ρ listed a w → exec P Or n (.reg ops bigs d last nx0) σ k=true →
 (∀ σ' ρ' a' w',Ext ρ ρ' → Rep Z S F w0 ρ' All σ' a' w' → k .normal σ'=true → Q .normal a' w') → wpAny P .any ops.toArray Q (cnt listed) listed a w
theorem light_turn (h:RI P ops Z S F w0 nx0 bigs d last σ ρ listed a w) (hs:shapeOk ops=true) (hn:NF P ops d0 d last σ nx0 nx) {i:Nat} {o:Oper} (ho:ops[i]?=some o) (hg:(greatB ops).getD i true=false) (hd:d.getD i false=true) (hnl:¬ Lst listed i) (hrd:∀ e ∈ o.after.toList,bindsB e=true → Lst listed e.on)
  {K:Act → World → Prop} {Q:Exit → Act → World → Prop} (hK:∀ ρ' v w',Ext ρ ρ' → RI P ops Z S F w0 nx0 bigs d last σ ρ' (listed.setIfInBounds i true) (a.put o.dst v) w' → K (a.put o.dst v) w'):opWp P ops.toArray o K Q a w:=by
 obtain ⟨q,hq,hq2⟩:=hn.again o i ho (h.cons hg hd hnl)
 have hlive:∀ t,Operand.tmp t ∈ o.op.operands.toList → LV ops d listed t:=fun t ht=>h.live ho hrd (reads_of ht)
 obtain ⟨g1,g2⟩:=guard_ok (all:=ops.toArray) h.rep fun j want t hgd ht=>h.liveG hs ho hrd hgd ht
 have hv:=h.rep.hv hlive
 have hq':=hq
 unfold again at hq
 unfold opWp
 split at hq
 ·cases hq
 ·rename_i hgn
  rw [if_neg (by rw [g2 hgn]; simp)]
  split at hq
  ·rename_i hsm
   refine hK ρ undef w (Ext.refl ρ) (h.list ho hg hd hrd (Ext.refl ρ) h.rep.wr (fun t ht=>?_) fun _ _ _ _ _ _ _ _ _ _ _ _ k=>k)
   unfold sameAt at hsm
   rw [ht] at hsm
   simp only [Bool.and_eq_true] at hsm
   rw [SV.same_ok hsm.2]; exact undefS_R
  ·cases hq
 ·rename_i hgy
  rw [if_pos (g1 hgy)]
  split at hq
  ·rename_i hm
   split at hq
   ·rename_i ob f t hmk ht
    split at hq
    ·rename_i id hid
     split at hq
     ·rename_i ob' hob
      split at hq
      ·rename_i hc
       cases hq
       simp only [Bool.and_eq_true,Nat.blt_eq,Nat.ble_eq] at hc
       obtain ⟨⟨⟨⟨hlt,hsame⟩,hobs⟩,hnx⟩,hid2⟩:=hc
       have hobe:=Ob.same_ok hobs
       have hfr:=h.fresh i o t id ho hg hm hd hnl ht hid
       obtain ⟨p,v,w',k1,k2,k3⟩:=made_ok h.rep.wr hv hmk (id:=id) (nx:=σ.next) hfr (fun hz=>by have:=h.z id hz; omega) hid2 h.rep.wr (fun x hx=>by
        have:σ.ob id=some x:=hx
        rw [hob] at this; cases this; exact hobe)
       unfold Oper.wp
       rw [k1]
       refine hK (ρ.bind id p) v w' (Rho.ext_bind hfr) (h.list ho hg hd hrd (Rho.ext_bind hfr) k3 (fun t' ht'=>?_) fun i' o' t' id' hne ho' hg' hm' hd' hnl' ht' hid' k=>?_)
       ·rw [ht] at ht'; cases ht'
        rw [SV.same_ok hsame]; exact k2
       ·have hc':=h.cons hg' hd' hnl'
        obtain ⟨q',hq1,_⟩:=hn.again o' i' ho' hc'
        obtain ⟨e1,_,_⟩:=again_made hq1 hm' ht' hid'
        rw [e1] at hq1
        have hne2:=hn.apart o' i' o i ho' ho hne hc' (h.cons hg hd hnl) id' id hq1 hq'
        show (if id'=id then some p else ρ id')=none
        rw [if_neg hne2]; exact k
      ·cases hq
     ·cases hq
    ·cases hq
   ·cases hq
  ·split at hq
   ·rename_i s hk
    split at hq
    ·rename_i hsm
     obtain ⟨v,h1,h2⟩:=keep_ok h.rep.wr hv hk
     unfold Oper.wp
     rw [h1]
     refine hK ρ v w (Ext.refl ρ) (h.list ho hg hd hrd (Ext.refl ρ) h.rep.wr (fun t ht=>?_) fun _ _ _ _ _ _ _ _ _ _ _ _ k=>k)
     unfold sameAt at hsm
     rw [ht] at hsm
     simp only [Bool.and_eq_true] at hsm
     rw [SV.same_ok hsm.2]; exact h2
    ·cases hq
   ·cases hq
theorem wpOp_of {i:Nat} {o:Oper} (ho:ops[i]?=some o) {K:Act → World → Prop} {Q:Exit → Act → World → Prop} (h:opWp P ops.toArray o K Q a w):wpOp P ops.toArray Q i K a w:=by
 unfold wpOp
 rw [List.getElem?_toArray,ho]
 unfold opWp at h
 simp only
 split
 ·rename_i hw; rw [if_pos hw] at h; exact .inl h
 ·rename_i hw; rw [if_neg hw] at h; exact h
theorem reg_snd {n:Nat} (hO:SndO P gls Or n) (hR:SndR P gls Or n):SndR P gls Or (n + 1):=by
 intro Z S F w0 ρ ops nx0 bigs d last σ k listed a w Q hT hs hRI hh hQ
 simp only [exec] at hh
 split at hh
 ·cases hh
 ·rename_i σ1 d1 hp
  split at hh
  case isFalse=>cases hh
  rename_i hnk
  have hn:=nf_of hnk
  have hRI1:=hRI.pass hp hn
  have fin:∀ (ρ1:Rho) (listed:Array Bool) (a:Act) (w:World),Ext ρ ρ1 → RI P ops Z S F w0 nx0 bigs d1 last σ1 ρ1 listed a w → (∀ i,i < ops.length → Lst listed i) → Q .normal a w:=by
   intro ρ1 listed a w hx h hall
   cases bigs with
   | cons b r =>
    obtain ⟨h1,h2⟩:=h.gb b (List.mem_cons_self ..)
    exact absurd (List.mem_cons_self ..) ((h.gl b h1 h2).1 (hall b h1))
   | nil =>
    simp only at hh
    split at hh
    ·exact hQ σ1 ρ1 a w hx (h.rep.mono fun t _ i o ho _ _=>hall i (List.getElem?_eq_some_iff.1 ho).1) hh
    ·cases hh
  have main:∀ (m:Nat) (ρ1:Rho) (listed:Array Bool) (a:Act) (w:World),cnt listed=m → Ext ρ ρ1 → RI P ops Z S F w0 nx0 bigs d1 last σ1 ρ1 listed a w → wpAny P .any ops.toArray Q m listed a w:=by
   intro m
   induction m with
   | zero =>
    intro ρ1 listed a w hc hx h
    have hall:∀ i,i < ops.length → Lst listed i:=fun i hi=>cnt_zero hc i (by rw [h.ll]; exact hi)
    unfold wpAny
    refine ⟨?_,?_⟩
    ·cases hr:Region.ready .any ops.toArray listed with
     | nil=>rfl
     | cons i r =>
      obtain ⟨o,ho,h2,_⟩:=ready_ok (ops:=ops) (listed:=listed) (i:=i) (by rw [hr]; exact List.mem_cons_self ..)
      exact absurd (hall i (List.getElem?_eq_some_iff.1 ho).1) (notLst h2).1
    ·exact fin ρ1 listed a w hx h hall
   | succ m ih =>
    intro ρ1 listed a w hc hx h
    unfold wpAny
    refine ⟨fun hr=>fin ρ1 listed a w hx h (all_listed hs h.ll hr),fun i hi=>?_⟩
    obtain ⟨o,ho,h2,hrd⟩:=ready_ok hi
    have hcm:cnt (listed.setIfInBounds i true)=m:=by have:=cnt_set h2; omega
    obtain ⟨hnl,hlt⟩:=notLst h2
    have hlt':i < ops.length:=by rw [← h.ll]; exact hlt
    refine wpOp_of ho ?_
    cases hg:(greatB ops).getD i true with
    | false =>
     have hd:d1.getD i false=true:=by
      cases hd:d1.getD i false with
      | true=>rfl
      | false =>
       have hf:=hn.full o i ho hg hd
       unfold predsDone at hf
       have:(o.after.toList.all fun e=>!bindsB e || d1.getD e.on false)=true:=by
        rw [List.all_eq_true]
        intro e he
        cases hb:bindsB e with
        | false=>rfl
        | true=>simpa using h.le e.on (hrd e he hb)
       rw [this] at hf; cases hf
     exact light_turn h hs hn ho hg hd hnl hrd fun ρ' v w' e1 e2=>ih ρ' _ _ w' hcm (hx.trans e1) e2
    | true =>
     have hib:i ∈ bigs:=by
      apply Classical.byContradiction
      intro hni
      exact hnl ((h.gl i hlt' hg).2 hni)
     cases bigs with
     | nil=>cases hib
     | cons b r =>
      have hbi:i=b:=by
       rcases List.mem_cons.1 hib with e | hir
       ·exact e
       ·exfalso
        obtain ⟨x,hx1,hx2⟩:=chain_pre h.ch hir
        obtain ⟨y1,y2⟩:=h.gb x hx1
        have hlx:Lst listed x:=anc_listed h.clo (anc_ok hx2) fun o' ho' e he hb=>by
         rw [ho] at ho'; cases ho'; exact hrd e he hb
        exact (h.gl x y1 y2).1 hlx hx1
      subst hbi
      simp only [ho] at hh
      split at hh
      case isFalse=>cases hh
      rename_i hpd
      have hrz:Rep (fun id=>Z id ∨ ∃ i' o' t',ops[i']?=some o' ∧ (greatB ops).getD i' true=false ∧ madeB P o'=true ∧ d1.getD i' false=true ∧ ¬ Lst listed i' ∧ o'.dst=some t' ∧ idOf (σ1.get t')=some id) S F w0 ρ1 (LV ops d1 listed) σ1 a w:=by
       obtain ⟨q1,q2,q3,q4,q5,q6⟩:=h.rep
       refine ⟨q1,q2,q3,q4,q5,⟨q6.os,q6.tape,q6.output,q6.size,q6.keep,q6.slt,q6.lt,q6.ob,q6.inj,fun id hz=>?_⟩⟩
       rcases hz with hz | ⟨i',o',t',k1,k2,k3,k4,k5,k6,k7⟩
       ·exact q6.free id hz
       ·obtain ⟨q,hq1,_⟩:=hn.again o' i' k1 (h.cons k2 k4 k5)
        obtain ⟨_,_,e3⟩:=again_made hq1 k3 k6 k7
        exact ⟨h.fresh i' o' t' id k1 k2 k3 k4 k5 k6 k7,e3⟩
      refine hO _ S F w0 ρ1 (LV ops d1 listed) ops.toArray o σ1 _ a w _ Q hT hrz (fun t ht=>h.live ho hrd (reads_of ht)) (fun j want t hgd ht=>h.liveG hs ho hrd hgd ht) hh fun σ' ρ' a' w' e1 e2 e3 e4=>?_
      obtain ⟨τ,sv,e3⟩:=e3
      have hdl:(d1.set i true).getD i false=true:=by
       rw [List.getD_eq_getElem?_getD,List.getElem?_set_self (by rw [h.dl]; exact hlt')]; rfl
      have hdn:∀ {j:Nat},(d1.set i true).getD j false=true → d1.getD j false=true ∨ i=j:=by
       intro j hj
       by_cases hij:i=j
       ·exact .inr hij
       ·rw [getD_set_ne hij] at hj; exact .inl hj
      have hdk:∀ {j:Nat},d1.getD j false=true → (d1.set i true).getD j false=true:=by
       intro j hj
       by_cases hij:i=j
       ·subst hij; exact hdl
       ·rw [getD_set_ne hij]; exact hj
      have hnd:=List.nodup_cons.1 h.nd
      have hnew:RI P ops Z S F w0 nx0 r (d1.set i true) (some i) σ' ρ' (listed.setIfInBounds i true) a' w':=by
       obtain ⟨q1,q2,q3,q4,q5,q6⟩:=e2
       refine ⟨⟨q1,q2,q3,fun t ht hlt=>q4 t ?_ hlt,q5,⟨q6.os,q6.tape,q6.output,q6.size,q6.keep,q6.slt,q6.lt,q6.ob,q6.inj,fun id hz=>q6.free id (.inl hz)⟩⟩,by simp [h.dl],by simp [h.ll],fun j q hq hj e he hb=>?_,fun j hj=>?_,fun j hj hgj=>?_,fun j hj hgj hdj=>?_,fun j hj=>h.gb j (List.mem_cons_of_mem _ hj),hnd.2,chain_tail h.ch,fun b hb=>?_,h.z,fun i' o' t id ho' hg' hm hd' hnl' ht hid=>?_⟩
       ·by_cases hot:o.dst=some t
        ·exact .inr hot
        ·refine .inl fun j q hq hqt hdj=>?_
         rcases (ht j q hq hqt (hdk hdj)).set with k | k
         ·exact k
         ·subst k; rw [ho] at hq; cases hq; exact absurd hqt hot
       ·rcases hj.set with k | k
        ·exact (h.clo j q hq k e he hb).keep
        ·subst k; rw [ho] at hq; cases hq; exact (hrd e he hb).keep
       ·rcases hj.set with k | k
        ·exact hdk (h.le j k)
        ·subst k; exact hdl
       ·have hold:=h.gl j hj hgj
        constructor
        ·intro k hjr
         rcases k.set with k | k
         ·exact hold.1 k (List.mem_cons_of_mem _ hjr)
         ·subst k; exact hnd.1 hjr
        ·intro hjr
         by_cases hij:j=i
         ·subst hij; exact Lst.new hlt
         ·refine (hold.2 fun k=>?_).keep
          rcases List.mem_cons.1 k with k | k
          ·exact hij k
          ·exact hjr k
       ·intro hjr
        rcases hdn hdj with k | k
        ·exact h.gd j hj hgj k (List.mem_cons_of_mem _ hjr)
        ·subst k; exact hnd.1 hjr
       ·cases hb; exact Lst.new hlt
       ·have hnl2:¬ Lst listed i':=fun k=>hnl' k.keep
        have hne:i ≠ i':=fun e=>by subst e; rw [hg] at hg'; cases hg'
        have hd2:d1.getD i' false=true:=(hdn hd').resolve_right hne
        have hsl:σ'.get t=σ1.get t:=by
         rw [e3]
         rw [put_get_ne]
         ·rfl
         ·obtain ⟨o2,ho2,_,hcl⟩:=light_of hg'
          rw [ho'] at ho2; cases ho2
          exact ((clash_no hcl ho' ht).2 o i ho hne).1
        exact (q6.free id (.inr ⟨i',o',t,ho',hg',hm,hd2,hnl2,ht,by rw [← hsl]; exact hid⟩)).1
      rw [← hcm]
      exact hR Z S F w0 ρ' ops nx0 r (d1.set i true) (some i) σ' k (listed.setIfInBounds i true) a' w' Q hT hs hnew e4 fun σ'' ρ'' a'' w'' f1 f2 f3=>hQ σ'' ρ'' a'' w'' ((hx.trans e1).trans f1) f2 f3
  exact main _ ρ listed a w rfl (Ext.refl ρ) hRI1
end
end Go.Cx
