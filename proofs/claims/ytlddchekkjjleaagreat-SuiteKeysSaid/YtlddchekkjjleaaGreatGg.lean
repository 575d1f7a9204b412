/- Part Gg of the proof. -/
import Derived.Test.YtlddchekkjjleaaGreatGf
set_option linter.unusedVariables false
set_option linter.unusedSimpArgs false
set_option linter.unusedSimpArgs false
namespace Go.Sx
open Go Go.RowKit
inductive W where | wi (n:Int) | wl (l:List Int)
def W.list?:W → Option (List Int) | .wl l=>some l | .wi n=>if n=0 then some [] else none
def W.int?:W → Option Int | .wi n=>some n | .wl _=>none
def intsEq:List Int → List Int → Bool
 | [],[]=>true
 | a :: as,b :: bs=>a == b && intsEq as bs
 | _,_=>false
def W.eq:W → W → Bool
 | .wi a,.wi b=>a == b
 | .wl a,.wl b=>intsEq a b
 | _,_=>false
structure Sem1 where
 g:Nat
 args:List W
 outs:List W
def lookW (env:List (Nat × W)) (n:Nat):Option W :=
 match env with
 | []=>none
 | p :: r=>if p.1 == n then some p.2 else lookW r n
def A.cv (env:List (Nat × W)):A → Option W
 | .lit n=>some (.wi n)
 | .var n=>lookW env n
 | .limb n j=>match lookW env n with | some (.wi x)=>some (.wi (x / p64 j % 18446744073709551616)) | _=>none
def A.ci (env:List (Nat × W)) (a:A):Option Int:=match a.cv env with | some w=>w.int? | none=>none
def A.cl (env:List (Nat × W)) (a:A):Option (List Int):=match a.cv env with | some w=>w.list? | none=>none
def eqsC (env:List (Nat × W)):List (A × A) → Option Bool
 | []=>some true
 | p :: r=>match p.1.ci env,p.2.ci env,eqsC env r with
  | some a,some b,some c=>some (a == b && c)
  | _,_,_=>none
def Oracle:Type:=Nat → List W → Option (List W)
def D.cv (fd:Oracle) (env:List (Nat × W)):D → Option W
 | .bin op k a b=>match a.ci env,b.ci env with | some x,some y=>some (.wi (binE op k x y)) | _,_=>none
 | .cmp op a b=>match a.ci env,b.ci env with | some x,some y=>some (.wi (b2i (cmpE op x y))) | _,_=>none
 | .conv k a=>match a.ci env with | some x=>some (.wi (wr k x)) | _=>none
 | .not a=>match a.ci env with | some x=>some (.wi (if x=0 then 1 else 0)) | _=>none
 | .app g j as=>match mapO (A.cv env) as with
  | some ws=>match fd g ws with
   | some os=>os[j]?
   | none=>none
  | none=>none
 | .join as=>match mapO (A.ci env) as with | some l=>some (.wi (joinE l)) | none=>none
 | .eqs l=>match eqsC env l with | some b=>some (.wi (b2i b)) | none=>none
 | .sel i as=>match i.ci env,mapO (A.ci env) as with | some k,some l=>some (.wi (l.getD k.toNat 0)) | _,_=>none
 | .put i j x y=>match i.ci env with | some k=>if k=(j:Int) then x.cv env else y.cv env | none=>none
 | .llen x=>match x.cl env with | some l=>some (.wi (l.length:Int)) | none=>none
 | .lget x i=>match x.cl env,i.ci env with | some l,some k=>some (.wi (l.getD k.toNat 0)) | _,_=>none
 | .lapp x ys=>match x.cl env,mapO (A.ci env) ys with | some l,some k=>some (.wl (l ++ k)) | _,_=>none
 | .lsub x lo hi=>match x.cl env,lo.ci env,hi.ci env with | some l,some a,some b=>some (.wl ((l.take b.toNat).drop a.toNat)) | _,_,_=>none
 | .lput x i y=>match x.cl env,i.ci env,y.ci env with | some l,some a,some b=>some (.wl (l.set a.toNat b)) | _,_,_=>none
 | .lrep n y=>match n.ci env,y.ci env with | some a,some b=>some (.wl (List.replicate a.toNat b)) | _,_=>none
 | .lcpy x y=>match x.cl env,y.cl env with | some a,some b=>some (.wl (b.take a.length ++ a.drop b.length)) | _,_=>none
 | .lcat x y=>match x.cl env,y.cl env with | some a,some b=>some (.wl (a ++ b)) | _,_=>none
 | .lsame x y=>match x.cl env,y.cl env with | some a,some b=>some (.wi (b2i (intsEq a b))) | _,_=>none
end Go.Sx

set_option linter.unusedVariables false
namespace Go.Sx
open Go Go.RowKit
def A.same:A → A → Bool
 | .lit a,.lit b=>a == b
 | .var a,.var b=>a == b
 | .limb a i,.limb b j=>a == b && i == j
 | _,_=>false
theorem A.same_ok {a b:A} (h:a.same b=true):a=b:=by
 cases a <;> cases b <;> simp only [A.same,Bool.and_eq_true,beq_iff_eq,Bool.false_eq_true] at h
 ·rw [h]
 ·rw [h]
 ·rw [h.1,h.2]
def asSame:List A → List A → Bool
 | [],[]=>true
 | a :: as,b :: bs=>a.same b && asSame as bs
 | _,_=>false
theorem asSame_ok:∀ {a b:List A},asSame a b=true → a=b
 | [],[],_=>rfl
 | x :: a,y :: b,h=>by
  simp only [asSame,Bool.and_eq_true] at h
  rw [A.same_ok h.1,asSame_ok h.2]
 | [],_ :: _,h=>by simp [asSame] at h
 | _ :: _,[],h=>by simp [asSame] at h
def opSame:BinOp → BinOp → Bool
 | .eql,.eql=>true | .neq,.neq=>true | .lss,.lss=>true | .leq,.leq=>true | .gtr,.gtr=>true | .geq,.geq=>true
 | _,_=>false
theorem opSame_ok {a b:BinOp} (h:opSame a b=true):a=b:=by
 cases a <;> cases b <;> first | rfl | exact absurd h (by decide)
def D.same:D → D → Bool
 | .app g j as,.app g' j' bs=>g == g' && (j == j' && asSame as bs)
 | .cmp op a b,.cmp op' a' b'=>opSame op op' && (a.same a' && b.same b')
 | .llen a,.llen b=>a.same b
 | .lsub a b c,.lsub a' b' c'=>a.same a' && (b.same b' && c.same c')
 | _,_=>false
theorem D.same_ok {a b:D} (h:a.same b=true):a=b:=by
 cases a <;> cases b <;> simp only [D.same,Bool.and_eq_true,beq_iff_eq,Bool.false_eq_true] at h
 ·rw [opSame_ok h.1,A.same_ok h.2.1,A.same_ok h.2.2]
 ·rw [h.1,h.2.1,asSame_ok h.2.2]
 ·rw [A.same_ok h]
 ·rw [A.same_ok h.1,A.same_ok h.2.1,A.same_ok h.2.2]
def lookA (s:List (Nat × A)) (n:Nat):Option A :=
 match s with
 | []=>none
 | p :: r=>if p.1 == n then some p.2 else lookA r n
def A.nm (s:List (Nat × A)):A → A
 | .lit x=>.lit x
 | .var n=>match lookA s n with | some a=>a | none=>.var n
 | .limb n j=>match lookA s n with
  | some (.lit x)=>.lit (x / p64 j % 18446744073709551616)
  | some (.var k)=>.limb k j
  | _=>.limb n j
def pairsNm (s:List (Nat × A)):List (A × A) → List (A × A)
 | []=>[]
 | p :: r=>(p.1.nm s,p.2.nm s) :: pairsNm s r
def D.nm (s:List (Nat × A)):D → D
 | .app g j as=>.app g j (as.map (A.nm s))
 | .cmp op a b=>.cmp op (a.nm s) (b.nm s)
 | .not a=>.not (a.nm s)
 | .eqs l=>.eqs (pairsNm s l)
 | .llen a=>.llen (a.nm s)
 | .lsub a b c=>.lsub (a.nm s) (b.nm s) (c.nm s)
 | d=>d
def Kn (nn:Nat) (e:Nat → Int) (s:List (Nat × A)):Prop:=∀ p ∈ s,p.1 < nn ∧ p.2.ok nn ∧ e p.1=p.2.ev e
theorem lookA_ok {nn:Nat} {e:Nat → Int}:∀ {s:List (Nat × A)} {n:Nat} {a:A},lookA s n=some a → Kn nn e s → a.ok nn ∧ e n=a.ev e
 | [],_,_,h,_=>by cases h
 | p :: r,n,a,h,hk=>by
  simp only [lookA] at h
  split at h
  ·rename_i hp
   cases h
   rw [beq_iff_eq] at hp
   have:=hk p (List.mem_cons_self ..)
   rw [← hp]; exact this.2
  ·exact lookA_ok h fun q hq=>hk q (List.mem_cons_of_mem _ hq)
theorem A.nm_ok {nn:Nat} {e:Nat → Int} {s:List (Nat × A)} (hk:Kn nn e s) (a:A):(a.nm s).ev e=a.ev e ∧ (a.ok nn → (a.nm s).ok nn):=by
 cases a with
 | lit x=>exact ⟨rfl,fun h=>h⟩
 | var n =>
  simp only [A.nm]
  cases h:lookA s n with
  | none=>exact ⟨rfl,fun h=>h⟩
  | some a=>exact ⟨(lookA_ok h hk).2.symm,fun _=>(lookA_ok h hk).1⟩
 | limb n j =>
  simp only [A.nm]
  cases h:lookA s n with
  | none=>exact ⟨rfl,fun h=>h⟩
  | some a =>
   have:=lookA_ok h hk
   cases a with
   | lit x=>exact ⟨by simp only [A.ev]; rw [this.2]; rfl,fun _=>trivial⟩
   | var k=>exact ⟨by simp only [A.ev]; rw [this.2]; rfl,fun _=>this.1⟩
   | limb k i=>exact ⟨rfl,fun h=>h⟩
theorem map_nm {nn:Nat} {e:Nat → Int} {s:List (Nat × A)} (hk:Kn nn e s) (as:List A):(as.map (A.nm s)).map (·.ev e)=as.map (·.ev e):=by
 rw [List.map_map]
 exact List.map_congr_left fun a _=>(A.nm_ok hk a).1
theorem pairsNm_ev {nn:Nat} {e:Nat → Int} {s:List (Nat × A)} (hk:Kn nn e s):∀ l:List (A × A),((pairsNm s l).all fun p=>p.1.ev e == p.2.ev e)=l.all fun p=>p.1.ev e == p.2.ev e
 | []=>rfl
 | p :: r=>by simp only [pairsNm,List.all_cons,(A.nm_ok hk p.1).1,(A.nm_ok hk p.2).1,pairsNm_ev hk r]
theorem D.nm_ev {T:List K} {nn:Nat} {e:Nat → Int} {s:List (Nat × A)} (hk:Kn nn e s) (d:D):(d.nm s).ev T e=d.ev T e:=by
 cases d <;> first
  | rfl
  | (simp only [D.nm,D.ev,map_nm hk,pairsNm_ev hk,(A.nm_ok hk _).1])
inductive RV where | a (x:A) | d (x:D)
noncomputable def RV.ev (T:List K) (e:Nat → Int):RV → Int | .a x=>x.ev e | .d x=>x.ev T e
structure Rule where
 l:D
 r:RV
 cs:List (Nat × D):=[]
def CsOk (T:List K) (e:Nat → Int) (cs:List (Nat × D)):Prop:=∀ c ∈ cs,e c.1=c.2.ev T e
structure Au where
 rules:List Rule:=[]
 triv:List Nat:=[]
 reqs:List (Nat × List A):=[]
 refl:List Nat:=[]
def RulesOk (T:List K) (e:Nat → Int):List Rule → Prop
 | []=>True
 | r :: l=>(CsOk T e r.cs → r.l.ev T e=r.r.ev T e) ∧ RulesOk T e l
def ReqsOk (T:List K) (e:Nat → Int):List (Nat × List A) → Prop
 | []=>True
 | r :: l=>(match T[r.1]? with | some κ=>κ.pre (r.2.map (·.ev e)) | none=>False) ∧ ReqsOk T e l
def TrivOk (T:List K):List Nat → Prop
 | []=>True
 | g :: l=>(match T[g]? with | some κ=>∀ xs,κ.pre xs | none=>False) ∧ TrivOk T l
def ReflOk (T:List K):List Nat → Prop
 | []=>True
 | g :: l=>(match T[g]? with | some κ=>∀ x,κ.sem [x,x]=[1] | none=>False) ∧ ReflOk T l
structure Au.Ok (c:Au) (T:List K) (e:Nat → Int):Prop where
 rules:RulesOk T e c.rules
 reqs:ReqsOk T e c.reqs
 triv:TrivOk T c.triv
 refl:ReflOk T c.refl
def lookD (m:List (D × Nat)) (d:D):Option Nat :=
 match m with
 | []=>none
 | p :: r=>if p.1.same d then some p.2 else lookD r d
def csMet (m:List (D × Nat)):List (Nat × D) → Bool
 | []=>true
 | c :: r=>(match lookD m c.2 with | some n=>n == c.1 | none=>false) && csMet m r
def findR (m:List (D × Nat)) (d:D):List Rule → Option RV
 | []=>none
 | r :: l=>if r.l.same d && csMet m r.cs then some r.r else findR m d l
def Me (T:List K) (nn:Nat) (e:Nat → Int) (m:List (D × Nat)):Prop:=∀ p ∈ m,p.1.ok nn ∧ p.2 < nn ∧ e p.2=p.1.ev T e
theorem lookD_ok {T:List K} {nn:Nat} {e:Nat → Int}:∀ {m:List (D × Nat)} {d:D} {n:Nat},lookD m d=some n → Me T nn e m → d.ok nn ∧ n < nn ∧ e n=d.ev T e
 | [],_,_,h,_=>by cases h
 | p :: r,d,n,h,hm=>by
  simp only [lookD] at h
  split at h
  ·rename_i hp
   cases h
   have:=hm p (List.mem_cons_self ..)
   rw [← D.same_ok hp]; exact this
  ·exact lookD_ok h fun q hq=>hm q (List.mem_cons_of_mem _ hq)
theorem csMet_ok {T:List K} {nn:Nat} {e:Nat → Int} {m:List (D × Nat)} (hm:Me T nn e m):∀ {cs:List (Nat × D)},csMet m cs=true → CsOk T e cs
 | [],_=>fun _ h=>by cases h
 | c :: r,h=>by
  simp only [csMet,Bool.and_eq_true] at h
  intro q hq
  rcases List.mem_cons.1 hq with rfl | hq
  ·have h1:=h.1
   split at h1
   ·rename_i n hn
    rw [beq_iff_eq] at h1
    have:=(lookD_ok hn hm).2.2
    rw [← h1]; exact this
   ·cases h1
  ·exact csMet_ok hm h.2 q hq
theorem findR_ok {T:List K} {nn:Nat} {e:Nat → Int} {m:List (D × Nat)} (hm:Me T nn e m) {d:D}:∀ {l:List Rule} {r:RV},findR m d l=some r → RulesOk T e l → d.ev T e=r.ev T e
 | [],_,h,_=>by cases h
 | x :: l,r,h,ho=>by
  simp only [findR] at h
  split at h
  ·rename_i hc
   rw [Bool.and_eq_true] at hc
   cases h
   rw [← D.same_ok hc.1]; exact ho.1 (csMet_ok hm hc.2)
  ·exact findR_ok hm h ho.2
def A.int?:A → Option Int | .lit x=>some x | _=>none
theorem A.int?_ok {a:A} {x:Int} (h:a.int?=some x) {e:Nat → Int}:a.ev e=x:=by
 cases a <;> simp only [A.int?,Option.some.injEq,reduceCtorEq] at h
 exact h
def bitA (b:Bool):A:=if b then .lit 1 else .lit 0
theorem bitA_ev (b:Bool) (e:Nat → Int):(bitA b).ev e=b2i b:=by cases b <;> rfl
theorem bitA_ok (b:Bool) (n:Nat):(bitA b).ok n:=by cases b <;> trivial
def eqsS:List (A × A) → Option Bool
 | []=>some true
 | p :: r=>if p.1.same p.2 then eqsS r else match p.1.int?,p.2.int? with
  | some x,some y=>if x == y then eqsS r else some false
  | _,_=>match eqsS r with | some false=>some false | _=>none
theorem eqsS_ok {e:Nat → Int}:∀ {l:List (A × A)} {b:Bool},eqsS l=some b → (l.all fun p=>p.1.ev e == p.2.ev e)=b
 | [],b,h=>by simp only [eqsS,Option.some.injEq] at h; subst h; rfl
 | p :: r,b,h=>by
  simp only [eqsS] at h
  split at h
  ·rename_i hs
   rw [List.all_cons,A.same_ok hs,beq_self_eq_true,Bool.true_and]; exact eqsS_ok h
  ·split at h
   ·rename_i x y hx hy
    split at h
    ·rename_i hxy
     rw [beq_iff_eq] at hxy
     rw [List.all_cons,A.int?_ok hx,A.int?_ok hy,hxy,beq_self_eq_true,Bool.true_and]; exact eqsS_ok h
    ·rename_i hxy
     cases h
     rw [List.all_cons,A.int?_ok hx,A.int?_ok hy]
     simp only [Bool.not_eq_true] at hxy
     rw [hxy,Bool.false_and]
   ·split at h
    ·rename_i hr
     cases h
     rw [List.all_cons,eqsS_ok hr,Bool.and_false]
    ·cases h
def inN (l:List Nat) (n:Nat):Bool:=match l with | []=>false | x :: r=>x == n || inN r n
def D.rk (refl:List Nat):D → Option A
 | .cmp op a b=>match a.int?,b.int? with
  | some x,some y=>some (bitA (cmpE op x y))
  | _,_=>if a.same b then (match op with | .eql=>some (.lit 1) | .neq=>some (.lit 0) | _=>none) else none
 | .not a=>match a.int? with | some x=>some (bitA (x == 0)) | none=>none
 | .eqs l=>match eqsS l with | some b=>some (bitA b) | none=>none
 | .app g 0 [a,b]=>if inN refl g && a.same b then some (.lit 1) else none
 | _=>none
theorem refl_ok {T:List K} {g:Nat}:∀ {l:List Nat},inN l g=true → ReflOk T l → ∃ κ,T[g]?=some κ ∧ ∀ x,κ.sem [x,x]=[1]
 | [],h,_=>by cases h
 | x :: l,h,ho=>by
  simp only [inN,Bool.or_eq_true,beq_iff_eq] at h
  rcases h with rfl | h
  ·have:=ho.1
   split at this
   ·rename_i κ hκ; exact ⟨κ,hκ,this⟩
   ·exact this.elim
  ·exact refl_ok h ho.2
theorem triv_ok {T:List K} {g:Nat}:∀ {l:List Nat},inN l g=true → TrivOk T l → ∃ κ,T[g]?=some κ ∧ ∀ xs,κ.pre xs
 | [],h,_=>by cases h
 | x :: l,h,ho=>by
  simp only [inN,Bool.or_eq_true,beq_iff_eq] at h
  rcases h with rfl | h
  ·have:=ho.1
   split at this
   ·rename_i κ hκ; exact ⟨κ,hκ,this⟩
   ·exact this.elim
  ·exact triv_ok h ho.2
theorem D.rk_ok {T:List K} {refl:List Nat} (hr:ReflOk T refl) {e:Nat → Int} {d:D} {a:A} (h:d.rk refl=some a):d.ev T e=a.ev e ∧ ∀ n,a.ok n:=by
 unfold D.rk at h
 split at h
 ·rename_i op a b
  split at h
  ·rename_i x y hx hy
   cases h
   exact ⟨by rw [bitA_ev]; simp only [D.ev,A.int?_ok hx,A.int?_ok hy],bitA_ok _⟩
  ·split at h
   ·rename_i hs
    have hs:=A.same_ok hs
    subst hs
    split at h
    ·cases h
     exact ⟨by simp [D.ev,cmpE,b2i,A.ev],fun _=>trivial⟩
    ·cases h
     exact ⟨by simp [D.ev,cmpE,b2i,A.ev],fun _=>trivial⟩
    ·cases h
   ·cases h
 ·rename_i a
  split at h
  ·rename_i x hx
   cases h
   refine ⟨?_,bitA_ok _⟩
   rw [bitA_ev]; simp only [D.ev,A.int?_ok hx]
   by_cases h0:x=0
   ·subst h0; rfl
   ·rw [if_neg h0,beq_eq_false_iff_ne.2 h0]; rfl
  ·cases h
 ·rename_i l
  split at h
  ·rename_i b hb
   cases h
   exact ⟨by rw [bitA_ev]; simp only [D.ev,eqsS_ok hb],bitA_ok _⟩
  ·cases h
 ·rename_i g a b
  split at h
  ·rename_i hc
   rw [Bool.and_eq_true] at hc
   cases h
   obtain ⟨κ,k1,k2⟩:=refl_ok hc.1 hr
   have:=A.same_ok hc.2
   subst this
   refine ⟨?_,fun _=>trivial⟩
   simp only [D.ev,k1,List.map_cons,List.map_nil,k2]; rfl
  ·cases h
 ·cases h
def inReqs (rs:List (Nat × List A)) (g:Nat) (as:List A):Bool:=match rs with
 | []=>false
 | r :: l=>(r.1 == g && asSame r.2 as) || inReqs l g as
theorem inReqs_ok {T:List K} {e:Nat → Int} {g:Nat} {as:List A}:∀ {rs:List (Nat × List A)},inReqs rs g as=true → ReqsOk T e rs → (match T[g]? with | some κ=>κ.pre (as.map (·.ev e)) | none=>False)
 | [],h,_=>by cases h
 | r :: l,h,ho=>by
  simp only [inReqs,Bool.or_eq_true,Bool.and_eq_true,beq_iff_eq] at h
  rcases h with ⟨h1,h2⟩ | h
  ·have:=ho.1
   rw [h1,asSame_ok h2] at this
   exact this
  ·exact inReqs_ok h ho.2
def know (c:Au) (nn:Nat) (m:List (D × Nat)) (d:D):Option A :=
 match findR m d c.rules with
 | some (.a x)=>if x.okB nn then some x else none
 | some (.d x)=>match x.rk c.refl with
  | some a=>some a
  | none=>match lookD m x with | some k=>some (.var k) | none=>none
 | none=>match d.rk c.refl with
  | some a=>some a
  | none=>match lookD m d with | some k=>some (.var k) | none=>none
theorem know_ok {c:Au} {T:List K} {nn:Nat} {e:Nat → Int} {m:List (D × Nat)} (hc:c.Ok T e) (hm:Me T nn e m) {d:D} {a:A} (h:know c nn m d=some a):d.ev T e=a.ev e ∧ a.ok nn:=by
 unfold know at h
 split at h
 ·rename_i x hf
  have:=findR_ok hm hf hc.rules
  split at h
  ·rename_i ho
   cases h
   exact ⟨this,A.okB_ok ho⟩
  ·cases h
 ·rename_i x hf
  have:=findR_ok hm hf hc.rules
  rw [this]
  split at h
  ·rename_i b hb
   cases h
   have:=D.rk_ok hc.refl (e:=e) hb
   exact ⟨this.1,this.2 _⟩
  ·split at h
   ·rename_i k hk
    cases h
    have:=lookD_ok hk hm
    exact ⟨this.2.2.symm,this.2.1⟩
   ·cases h
 ·split at h
  ·rename_i b hb
   cases h
   have:=D.rk_ok hc.refl (e:=e) hb
   exact ⟨this.1,this.2 _⟩
  ·split at h
   ·rename_i k hk
    cases h
    have:=lookD_ok hk hm
    exact ⟨this.2.2.symm,this.2.1⟩
   ·cases h
def isOneA:List A → Bool | [.lit x]=>x == 1 | _=>false
def Tree.auto (c:Au):Tree → Nat → List (Nat × A) → List (D × Nat) → Bool
 | .ret as,nn,s,m=>isOneA (as.map (A.nm s))
 | .split n t f,nn,s,m=>match lookA s n with
  | some (.lit x)=>if x == 0 then f.auto c nn s m else t.auto c nn s m
  | _=>false
 | .lett n _ d t,nn,s,m=>Nat.ble nn n && (d.okB nn && match know c nn m (d.nm s) with
  | some a=>t.auto c (n + 1) ((n,a) :: s) m
  | none=>(d.nm s).okB nn && t.auto c (n + 1) s ((d.nm s,n) :: m))
 | .req g as t,nn,s,m=>(inN c.triv g || inReqs c.reqs g (as.map (A.nm s))) && t.auto c nn s m
 | .nz a t,nn,s,m=>match (a.nm s).int? with | some x=>if x == 0 then false else t.auto c nn s m | none=>false
 | _,_,_,_=>false
theorem Kn.mono {nn nn':Nat} {e e':Nat → Int} {s:List (Nat × A)} (h:Kn nn e s) (hn:nn ≤ nn') (he:∀ i,i < nn → e' i=e i):Kn nn' e' s:=fun p hp=>by
 obtain ⟨h1,h2,h3⟩:=h p hp
 exact ⟨by omega,A.ok_mono h2 hn,by rw [he _ h1,A.ev_congr h2 he,h3]⟩
theorem D.ok_mono {d:D} {n n':Nat} (h:d.ok n) (hn:n ≤ n'):d.ok n':=by
 have all:∀ {as:List A},(∀ a ∈ as,a.ok n) → ∀ a ∈ as,a.ok n':=fun h a ha=>A.ok_mono (h a ha) hn
 cases d <;> simp only [D.ok] at h ⊢
 all_goals first
  | exact A.ok_mono h hn
  | exact ⟨A.ok_mono h.1 hn,A.ok_mono h.2 hn⟩
  | exact ⟨A.ok_mono h.1 hn,A.ok_mono h.2.1 hn,A.ok_mono h.2.2 hn⟩
  | exact all h
  | exact ⟨A.ok_mono h.1 hn,all h.2⟩
  | exact fun p hp=>⟨A.ok_mono (h p hp).1 hn,A.ok_mono (h p hp).2 hn⟩
theorem Me.mono {T:List K} {nn nn':Nat} {e e':Nat → Int} {m:List (D × Nat)} (h:Me T nn e m) (hn:nn ≤ nn') (he:∀ i,i < nn → e' i=e i):Me T nn' e' m:=fun p hp=>by
 obtain ⟨h1,h2,h3⟩:=h p hp
 exact ⟨D.ok_mono h1 hn,by omega,by rw [he _ h2,D.ev_congr h1 he,h3]⟩
theorem auto_holds {c:Au} {T:List K} {n0:Nat} {e0:Nat → Int} (hc:∀ e,(∀ i,i < n0 → e i=e0 i) → c.Ok T e) {g:Gl} (hg:g.goal [1]) :
  ∀ (t:Tree) (nn:Nat) (s:List (Nat × A)) (m:List (D × Nat)) (e:Nat → Int),t.auto c nn s m=true → n0 ≤ nn → (∀ i,i < n0 → e i=e0 i) → Kn nn e s → Me T nn e m → t.holds T g e
 | .ret as,nn,s,m,e,h,hn,he,hs,hm=>by
  simp only [Tree.auto] at h
  show g.goal _
  rw [← map_nm hs]
  have:as.map (A.nm s)=[.lit 1]:=by
   revert h
   generalize as.map (A.nm s)=l
   intro h
   match l,h with
   | [.lit x],h =>
    have h:(x == 1)=true:=h
    rw [beq_iff_eq] at h; rw [h]
  rw [this]; exact hg
 | .split n t f,nn,s,m,e,h,hn,he,hs,hm=>by
  simp only [Tree.auto] at h
  split at h
  ·rename_i x hx
   have hv:e n=x:=(lookA_ok hx hs).2
   split at h
   ·rename_i h0
    rw [beq_iff_eq] at h0
    exact ⟨fun hh=>absurd (hv.trans h0) hh,fun _=>auto_holds hc hg f nn s m e h hn he hs hm⟩
   ·rename_i h0
    rw [beq_iff_eq] at h0
    exact ⟨fun _=>auto_holds hc hg t nn s m e h hn he hs hm,fun hh=>absurd (hv.symm.trans hh) h0⟩
  ·cases h
 | .lett n kk d t,nn,s,m,e,h,hn,he,hs,hm=>by
  simp only [Tree.auto,Bool.and_eq_true] at h
  obtain ⟨h1,h2,h3⟩:=h
  have h1:nn ≤ n:=Nat.le_of_ble_eq_true h1
  intro v hv _
  have low:∀ i,i < nn → upd e n v i=e i:=fun i hi=>by unfold upd; rw [if_neg (by omega)]
  have hn':upd e n v n=v:=by unfold upd; rw [if_pos rfl]
  have he':∀ i,i < n0 → upd e n v i=e0 i:=fun i hi=>by rw [low i (by omega),he i hi]
  have hs':=hs.mono (nn':=n + 1) (by omega) low
  have hm':=hm.mono (nn':=n + 1) (by omega) low
  have hd:=D.okB_ok h2
  split at h3
  ·rename_i a ha
   obtain ⟨k1,k2⟩:=know_ok (hc e he) hm ha
   refine auto_holds hc hg t (n + 1) _ m _ h3 (by omega) he' (fun p hp=>?_) hm'
   rcases List.mem_cons.1 hp with rfl | hp
   ·exact ⟨by show n < n + 1; omega,A.ok_mono k2 (by omega),by show upd e n v n=_; rw [hn',A.ev_congr k2 low,← k1,D.nm_ev hs,hv]⟩
   ·exact hs' p hp
  ·rw [Bool.and_eq_true] at h3
   have hd2:=D.okB_ok h3.1
   refine auto_holds hc hg t (n + 1) s _ _ h3.2 (by omega) he' hs' (fun p hp=>?_)
   rcases List.mem_cons.1 hp with rfl | hp
   ·exact ⟨D.ok_mono hd2 (by omega),by show n < n + 1; omega,by show upd e n v n=_; rw [hn',D.ev_congr hd2 low,D.nm_ev hs,hv]⟩
   ·exact hm' p hp
 | .req q as t,nn,s,m,e,h,hn,he,hs,hm=>by
  simp only [Tree.auto,Bool.and_eq_true,Bool.or_eq_true] at h
  refine ⟨?_,auto_holds hc hg t nn s m e h.2 hn he hs hm⟩
  rcases h.1 with h1 | h1
  ·obtain ⟨κ,k1,k2⟩:=triv_ok h1 (hc e he).triv
   rw [k1]; exact k2 _
  ·have:=inReqs_ok h1 (hc e he).reqs
   rwa [map_nm hs] at this
 | .nz a t,nn,s,m,e,h,hn,he,hs,hm=>by
  simp only [Tree.auto] at h
  split at h
  ·rename_i x hx
   split at h
   ·cases h
   ·rename_i h0
    rw [beq_iff_eq] at h0
    exact ⟨by rw [← (A.nm_ok hs a).1,A.int?_ok hx]; exact h0,auto_holds hc hg t nn s m e h hn he hs hm⟩
  ·cases h
 | .loop _ _ _ _,_,_,_,_,h,_,_,_,_=>by simp [Tree.auto] at h
 | .back _ _,_,_,_,_,h,_,_,_,_=>by simp [Tree.auto] at h
 | .bad _ _,_,_,_,_,h,_,_,_,_=>by simp [Tree.auto] at h
theorem ctr_auto {P:Program} {T:List K} {LA:List Ann} (hm:P.follows .mixedOrders=true) (hT:AllOk P T) {κ:K} {fn:Func} (fuel:Nat) (hf:P.funcs[κ.fn]?=some fn) (hn:(fn.name == "runtime.NumGoroutine")=false) (hext:κ.ext=false) (hok:κ.ins.all okSh=true) (hsem:∀ xs,κ.sem xs=[1])
  (hh:∀ e:Nat → Int,kkHas (ikks κ.ins) (seqE e 0 (icount κ.ins)) → κ.pre (seqE e 0 (icount κ.ins)) → ∃ c:Au,(∀ e',(∀ i,i < icount κ.ins → e' i=e i) → c.Ok T e') ∧ (tree P T LA fuel fn κ.ins κ.outs).auto c (icount κ.ins) [] []=true):κ.ok P:=by
 refine ctr_of_run (LA:=LA) hm hT.get fuel hf hn hext hok fun w xs args hin hpre=>?_
 have hkk:=insRel_kk _ _ _ hin
 have hl:xs.length=icount κ.ins:=by rw [kkHas_len hkk,ikks_len _ hok]
 have hs:seqE (envOf xs) 0 (icount κ.ins)=xs:=by
  rw [← hl]
  refine seqE_eq xs _ 0 fun i x hx=>?_
  rw [Nat.zero_add]
  simp [envOf,hx]
 obtain ⟨c,c1,c2⟩:=hh (envOf xs) (by rw [hs]; exact hkk) (by rw [hs]; exact hpre)
 exact auto_holds c1 (hsem xs).symm _ _ [] [] _ c2 (Nat.le_refl _) (fun _ _=>rfl) (fun _ h=>by cases h) (fun _ h=>by cases h)
end Go.Sx
