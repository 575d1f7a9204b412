/- Part Nm of the proof. -/
import Derived.Test.YtdndmkcppacjnaaGreatDoorNi
import Derived.Test.YtdndmkcppacjnaaGreatDoorNl
import Derived.Test.YtdndmkcppacjnaaGreatDoorNk
import Derived.Test.YtdndmkcppacjnaaGreatDoorNj
set_option linter.unusedVariables false
set_option linter.unusedSimpArgs false
namespace Go.Sx
open Go Go.RowKit
abbrev Tb:Type:=List (List W × List W)
open Classical in
noncomputable def lookT:Tb → List Int → List Int
 | [],_=>[]
 | p :: r,xs=>if xs=p.1.map W.toI then p.2.map W.toI else lookT r xs
noncomputable def kTb (f:FuncId) (ins:List Sh) (outs:List Oh) (tab:Tb):K:={fn:=f,ext:=false,ins:=ins,outs:=outs,pre:=fun xs=>∃ p ∈ tab,xs=p.1.map W.toI,sem:=lookT tab }
structure Or1 where
 κ:K
 f:List W → Option (List W)
 ok:∀ aq os,f aq=some os → κ.pre (aq.map W.toI) ∧ κ.sem (aq.map W.toI)=os.map W.toI
def orL (l:List Or1):Oracle:=fun g ws=>match l[g]? with | some o=>o.f ws | none=>none
theorem orL_ok (l:List Or1):OrOk (l.map (·.κ)) (orL l):=fun g aq os h=>by
 unfold orL at h
 cases hl:l[g]? with
 | none=>rw [hl] at h; cases h
 | some o =>
  rw [hl] at h
  exact ⟨o.κ,by rw [List.getElem?_map,hl]; rfl,o.ok aq os h⟩
def findT:Tb → List W → Option (List W)
 | [],_=>none
 | p :: r,ws=>if wsEq p.1 ws then some p.2 else findT r ws
def W.ne (a b:W):Bool:=match a,b with
 | .wi x,.wi y=>x != y
 | .wl x,.wl y=>!intsEq x y
 | _,_=>false
def wsNe:List W → List W → Bool
 | a :: aq,b :: bs=>a.ne b || wsNe aq bs
 | [],_ :: _=>true
 | _ :: _,[]=>true
 | [],[]=>false
def tbOk:Tb → Bool
 | []=>true
 | p :: r=>r.all (fun q=>wsNe p.1 q.1) && tbOk r
theorem intsEq_refl:∀ l:List Int,intsEq l l=true
 | []=>rfl
 | a :: l=>by simp [intsEq,intsEq_refl l]
theorem W.ne_ok {a b:W} (h:a.ne b=true):a.toI ≠ b.toI:=by
 cases a <;> cases b <;> simp only [W.ne,bne_iff_ne,Bool.not_eq_true',Bool.false_eq_true] at h
 ·exact h
 ·intro hc
  rename_i x y
  have:x=y:=by
   have h1:=congrArg dec hc
   simpa [W.toI,dec_enc] using h1
  rw [this,intsEq_refl] at h; cases h
theorem wsNe_ok:∀ {a b:List W},wsNe a b=true → a.map W.toI ≠ b.map W.toI
 | a :: aq,b :: bs,h=>by
  simp only [wsNe,Bool.or_eq_true] at h
  intro hc
  simp only [List.map_cons,List.cons.injEq] at hc
  rcases h with h | h
  ·exact W.ne_ok h hc.1
  ·exact wsNe_ok h hc.2
 | [],_ :: _,_=>by simp
 | _ :: _,[],_=>by simp
theorem lookT_of:∀ {tab:Tb},tbOk tab=true → ∀ {p:List W × List W},p ∈ tab → lookT tab (p.1.map W.toI)=p.2.map W.toI
 | q :: r,h,p,hp=>by
  simp only [tbOk,Bool.and_eq_true,List.all_eq_true] at h
  unfold lookT
  rcases List.mem_cons.1 hp with rfl | hp
  ·rw [if_pos rfl]
  ·rw [if_neg (fun hc=>wsNe_ok (h.1 p hp) hc.symm)]
   exact lookT_of h.2 hp
theorem findT_mem:∀ {tab:Tb} {ws os:List W},findT tab ws=some os → (ws,os) ∈ tab
 | p :: r,ws,os,h=>by
  unfold findT at h
  split at h
  ·rename_i he
   cases h
   have:=wsEq_ok he
   subst this
   exact .head _
  ·exact .tail _ (findT_mem h)
noncomputable def orTb (f:FuncId) (ins:List Sh) (outs:List Oh) (tab:Tb) (h:tbOk tab=true):Or1 where
 κ:=kTb f ins outs tab
 f:=findT tab
 ok:=fun aq os hf=>by
  have:=findT_mem hf
  exact ⟨⟨_,this,rfl⟩,lookT_of h this⟩
def envW:Nat → List W → List (Nat × W)
 | _,[]=>[]
 | n,w :: ws=>(n,w) :: envW (n + 1) ws
def isDone (os:List W):Option Rs → Bool | some (.done ws)=>wsEq ws os | _=>false
def runs (fd:Oracle) (N:Nat) (t:Tree) (tab:Tb):Bool:=tab.all fun p=>isDone p.2 (t.cr fd N 0 (envW 0 p.1))
theorem envW_ag {e:Nat → Int}:∀ (ws:List W) (n:Nat),(∀ (j:Nat) w,ws[j]?=some w → e (n + j)=w.toI) → Ag (envW n ws) e
 | [],_,_=>fun p hp=>by cases hp
 | w :: ws,n,h=>fun p hp=>by
  rcases List.mem_cons.1 hp with rfl | hp
  ·exact h 0 w rfl
  ·exact envW_ag ws (n + 1) (fun j u hu=>by rw [show n + 1 + j=n + (j + 1) by omega]; exact h (j + 1) u hu) p hp
theorem tb_says {l:List Or1} {N:Nat} {t:Tree} {tab:Tb} (hr:runs (orL l) N t tab=true) (ho:tbOk tab=true) (f:FuncId) (ins:List Sh) (outs:List Oh) {e:Nat → Int} {xs:List Int} (hx:∀ (j:Nat) x,xs[j]?=some x → e j=x) (hp:(kTb f ins outs tab).pre xs):t.says (l.map (·.κ)) ⟨fun ys=>ys=(kTb f ins outs tab).sem xs,[]⟩ e:=by
 obtain ⟨p,mp,rfl⟩:=hp
 have h1:=List.all_eq_true.1 hr p mp
 obtain ⟨r,hrr⟩:∃ r,t.cr (orL l) N 0 (envW 0 p.1)=r:=⟨_,rfl⟩
 rw [hrr] at h1
 match r,h1 with
 | some (.done ws),h1 =>
  have hw:ws=p.2:=wsEq_ok h1
  refine cr_says (orL_ok l) t ⟨_,[]⟩ e (envW 0 p.1) (.done ws) hrr (envW_ag p.1 0 fun j w hj=>?_) ?_
  ·rw [Nat.zero_add]; exact hx j _ (by rw [List.getElem?_map,hj]; rfl)
  ·show ws.map W.toI=lookT tab (p.1.map W.toI)
   rw [hw,lookT_of ho mp]
theorem seq_get {e:Nat → Int}:∀ (n k j:Nat) (x:Int),(seqE e k n)[j]?=some x → e (k + j)=x
 | 0,_,_,_,h=>by cases h
 | n + 1,k,0,x,h=>by cases h; rfl
 | n + 1,k,j + 1,x,h=>by rw [show k + (j + 1)=k + 1 + j by omega]; exact seq_get n (k + 1) j x h
theorem tb_law {l:List Or1} {N:Nat} {t:Tree} {tab:Tb} (n:Nat) (hr:runs (orL l) N t tab=true) (ho:tbOk tab=true) (f:FuncId) (ins:List Sh) (outs:List Oh) {e:Nat → Int} (hp:(kTb f ins outs tab).pre (seqE e 0 n)):t.says (l.map (·.κ)) ⟨fun ys=>ys=(kTb f ins outs tab).sem (seqE e 0 n),[]⟩ e :=
 tb_says hr ho f ins outs (fun j x hx=>by have:=seq_get n 0 j x hx; rwa [Nat.zero_add] at this) hp
theorem tab_ok {P:Program} {LA:List Ann} {gls:Gls} (hm:P.follows .mixedOrders=true) {f:FuncId} {ins:List Sh} {outs:List Oh} {tab:Tb} {l:List Or1} (hT:AllOk P (l.map (·.κ)) gls) {fn:Func} (fuel:Nat) (hf:P.funcs[f]?=some fn) (hn:(fn.name == "runtime.NumGoroutine")=false) (hok:ins.all okSh=true)
  (hw:wfT (icount ins) (tree P (l.map (·.κ)) LA fuel fn ins outs gls)=true) (N:Nat) (hr:runs (orL l) N (tree P (l.map (·.κ)) LA fuel fn ins outs gls) tab=true) (ho:tbOk tab=true):(kTb f ins outs tab).ok P gls :=
 ctr_says (κ:=kTb f ins outs tab) hm hT fuel hf hn rfl hok rfl hw fun e hk hp=>tb_law (icount ins) hr ho f ins outs hp
set_option maxRecDepth 100000
def orNever (g:FuncId) (ins:List Sh) (outs:List Oh):Or1:=⟨kNever g ins outs,fun _=>none,fun _ _ h=>by cases h⟩
def orLen64 (g:FuncId):Or1:=⟨kLen64 g,fun | [.wi a]=>some [.wi (blen a)] | _=>none,fun aq os h=>by
 split at h
 ·cases h; exact ⟨trivial,rfl⟩
 ·cases h⟩
def orOf (g:FuncId):Or1:=⟨kOf g,fun | [.wi a]=>some [.wi a] | _=>none,fun aq os h=>by
 split at h
 ·cases h; exact ⟨trivial,rfl⟩
 ·cases h⟩
def orWCmp (g:FuncId):Or1:=⟨kWCmp g,fun | [.wi a,.wi b]=>some [.wi (if a < b then -1 else if a=b then 0 else 1)] | _=>none,fun aq os h=>by
 split at h
 ·cases h; exact ⟨trivial,rfl⟩
 ·cases h⟩
def orOrder (g:FuncId):Or1:=⟨kOrder g,fun | [.wi s]=>if 0 ≤ s ∧ s ≤ 2 then some [.wi (rOf s)] else none | _=>none,fun aq os h=>by
 split at h
 ·split at h
  ·rename_i hs; cases h; exact ⟨hs,rfl⟩
  ·cases h
 ·cases h⟩
def orSOrder (g:FuncId):Or1:=⟨kSOrder g,fun | [.wi s]=>if 0 ≤ s ∧ s ≤ 2 then some [.wi (rOf s),.wi 0] else none | _=>none,fun aq os h=>by
 split at h
 ·split at h
  ·rename_i s hs; cases h; exact ⟨trivial,by show (if isS s then [rOf s,0] else [0,2])=_; rw [if_pos (show isS s from hs)]; rfl⟩
  ·cases h
 ·cases h⟩
def orLOf (g:FuncId):Or1:=⟨kLOf g,fun | [.wi s]=>some ((cvL s).map .wi) | _=>none,fun aq os h=>by
 split at h
 ·cases h
  rename_i s
  refine ⟨trivial,?_⟩
  show cvL s=_
  rw [List.map_map]
  exact (List.map_id _).symm
 ·cases h⟩
def orLIn (g:FuncId):Or1:=⟨kLIn g,fun | [.wi p,.wi r,.wi _,.wi _,.wi _,.wi _,.wi x,.wi y,.wi z]=>if 3 ≤ p ∧ p < 4611686018427387904 then some [.wi (bi (inP p r x y z))] else none | _=>none,fun aq os h=>by
 split at h
 ·split at h
  ·rename_i hp; cases h; exact ⟨hp,rfl⟩
  ·cases h
 ·cases h⟩
def orLMul (g:FuncId):Or1:=⟨kLMul g,fun | [.wi p,.wi _,.wi _,.wi _,.wi _,.wi _,.wi a,.wi b]=>if 3 ≤ p ∧ p < 4611686018427387904 then some [.wi (a * b % p)] else none | _=>none,fun aq os h=>by
 split at h
 ·split at h
  ·rename_i hp; cases h; exact ⟨hp,rfl⟩
  ·cases h
 ·cases h⟩
def orLAdd (g:FuncId):Or1:=⟨kLAdd g,fun | [.wi p,.wi _,.wi _,.wi _,.wi _,.wi _,.wi a,.wi b]=>if (3 ≤ p ∧ p < 4611686018427387904) ∧ a < p ∧ b < p then some [.wi ((a + b) % p)] else none | _=>none,fun aq os h=>by
 split at h
 ·split at h
  ·rename_i hp; cases h; exact ⟨hp,rfl⟩
  ·cases h
 ·cases h⟩
def orLSub (g:FuncId):Or1:=⟨kLSub g,fun | [.wi p,.wi _,.wi _,.wi _,.wi _,.wi _,.wi a,.wi b]=>if (3 ≤ p ∧ p < 4611686018427387904) ∧ a < p ∧ b < p then some [.wi ((a - b) % p)] else none | _=>none,fun aq os h=>by
 split at h
 ·split at h
  ·rename_i hp; cases h; exact ⟨hp,rfl⟩
  ·cases h
 ·cases h⟩
def orLSlope (g:FuncId):Or1:=⟨kLSlope g,fun | [.wi p,.wi _,.wi _,.wi _,.wi _,.wi _,.wi x,.wi y,.wi _,.wi x',.wi y',.wi _]=>if (3 ≤ p ∧ p < 4611686018427387904) ∧ x < p ∧ y < p ∧ x' < p ∧ y' < p then some [.wi (slopeP p x y x' y').1,.wi (slopeP p x y x' y').2] else none | _=>none,fun aq os h=>by
 split at h
 ·split at h
  ·rename_i hp; cases h; exact ⟨hp,rfl⟩
  ·cases h
 ·cases h⟩
def orLSum (g:FuncId):Or1:=⟨kLSum g,fun | [.wi p,.wi _,.wi _,.wi _,.wi _,.wi _,.wi x,.wi y,.wi z,.wi x',.wi y',.wi z']=>if (3 ≤ p ∧ p < 4611686018427387904) ∧ x < p ∧ y < p ∧ x' < p ∧ y' < p then some ((sumP p ⟨x,y,z⟩ ⟨x',y',z'⟩).l.map .wi) else none | _=>none,fun aq os h=>by
 split at h
 ·split at h
  ·rename_i hp
   cases h
   refine ⟨hp,?_⟩
   rw [List.map_map]
   exact (List.map_id _).symm
  ·cases h
 ·cases h⟩
noncomputable def orLMul2 (g:FuncId):Or1:=⟨kLMul2 g,fun | [.wi s,.wi x,.wi y,.wi z,.wi n]=>if (s=1 ∨ s=2) ∧ onP (pL s) x y z then some (((mulP (pL s) ⟨x,y,z⟩ 64 n.toNat).l ++ [0]).map .wi) else none | _=>none,fun aq os h=>by
 split at h
 ·split at h
  ·rename_i hp
   cases h
   refine ⟨hp,?_⟩
   rw [List.map_map]
   exact (List.map_id _).symm
  ·cases h
 ·cases h⟩
set_option maxRecDepth 100000
abbrev lsKyL:List L:=[.int .i64,.num,.num,.bool,.int .u64,.int .u64,.bool]
abbrev kyLK:LK:=.tup (.int .i64) [.num,.num,.bit,.int .u64,.int .u64,.bit]
def hM:List Int:=[1,0,0,0,0,0,315666,524223,0]
noncomputable def kBHash (f:FuncId):K:={fn:=f,ext:=false,ins:=[iI,.lst (.int .u8)],outs:=[.agg lsSgL],pre:=fun | [s,x]=>s=1 ∧ dec x=[109] | _=>False,sem:=fun _=>hM }
def tBHash:Tree:=(.lett 2 (.lst .byt) (.lapp (.lit 0) [.var 1])
(.req 0 [.var 0,.var 2]
(.lett 3 (.int .i64) (.app 0 0 [.var 0,.var 2])
(.lett 4 .num (.app 0 1 [.var 0,.var 2])
(.lett 5 .num (.app 0 2 [.var 0,.var 2])
(.lett 6 .num (.app 0 3 [.var 0,.var 2])
(.lett 7 .num (.app 0 4 [.var 0,.var 2])
(.lett 8 .bit (.app 0 5 [.var 0,.var 2])
(.lett 9 (.int .u64) (.app 0 6 [.var 0,.var 2])
(.lett 10 (.int .u64) (.app 0 7 [.var 0,.var 2])
(.lett 11 .bit (.app 0 8 [.var 0,.var 2])
(.lett 12 (.int .i64) (.app 0 9 [.var 0,.var 2])
(.ret [.var 3,.var 4,.var 5,.var 6,.var 7,.var 8,.var 9,.var 10,.var 11])))))))))))))
theorem law_bHash (f0 f:FuncId) (e:Nat → Int) (hp:(kBHash f).pre [e 0,e 1]):tBHash.says [kHSigL QB f0] ⟨fun ys=>ys=(kBHash f).sem [e 0,e 1],[]⟩ e:=by
 obtain ⟨h0,h1⟩:e 0=1 ∧ dec (e 1)=[109]:=hp
 show tBHash.says _ ⟨fun ys=>ys=hM,[]⟩ e
 intro a2 _
 have d2:dec (e 2)=[e 1]:=by rw [show e 2=enc (dec 0 ++ [e 1]) from a2,dec_enc,dec_zero]; rfl
 have j2:joinP (dec (e 2))=tM:=by rw [d2]; simp only [joinP,h1,List.append_nil]; rfl
 have t2:totP (dec (e 2))=5:=by rw [d2]; simp only [totP,h1]; rfl
 refine ⟨⟨.inl h0,?_,by show totP (dec (e 2)) ≤ 65536; omega,⟨rfl,j2⟩⟩,fun a3 _ a4 _ a5 _ a6 _ a7 _ a8 _ a9 _ a10 _ a11 _ a12 _=>?_⟩
 ·show ∀ z ∈ dec (e 2),((dec z).length:Int) < 4611686018427387904
  rw [d2]
  intro z hz
  rw [List.mem_singleton] at hz
  rw [hz,h1]; decide
 ·have hs:(kHSigL QB f0).sem [e 0,e 2]=hM ++ [0]:=by
   show [e 0,0,0,0,0,0] ++ (hashL (e 0) 3 (joinP (dec (e 2)))).l ++ [0]=_
   rw [j2,h0,l1_M_eq]; rfl
  have g:∀ j,((kHSigL QB f0).sem [e 0,e 2]).getD j 0=(hM ++ [0]).getD j 0:=fun j=>by rw [hs]
  show [e 3,e 4,e 5,e 6,e 7,e 8,e 9,e 10,e 11]=hM
  rw [show e 3=_ from a3.trans (g 0),show e 4=_ from a4.trans (g 1),show e 5=_ from a5.trans (g 2),show e 6=_ from a6.trans (g 3),show e 7=_ from a7.trans (g 4),show e 8=_ from a8.trans (g 5),show e 9=_ from a9.trans (g 6),show e 10=_ from a10.trans (g 7),show e 11=_ from a11.trans (g 8)]; rfl
noncomputable def orBHash (g:FuncId):Or1:=⟨kBHash g,fun | [.wi 1,.wl [109]]=>some (hM.map .wi) | _=>none,fun aq os h=>by
 split at h
 ·cases h
  refine ⟨⟨rfl,by show dec (enc [109])=_; rw [dec_enc]⟩,?_⟩
  rw [List.map_map]; exact (List.map_id _).symm
 ·cases h⟩
noncomputable def kFold (g f:FuncId):K:={fn:=f,ext:=false,ins:=[.lst kyLK,.one (.cst (.fn g []))],outs:=[.agg lsKyL],pre:=fun | [x]=>(dec x).length=1 | _=>False,sem:=fun | [x]=>(List.range 7).map fun j=>(dec ((dec x).getD 0 0)).getD j 0 | _=>[] }
def tFold:Tree:=(.lett 1 (.int .i64) (.llen (.var 0))
(.lett 2 .bit (.cmp .leq (.lit 0) (.lit 0))
(.lett 3 .bit (.cmp .lss (.lit 0) (.var 1))
(.nz (.var 2)
(.nz (.var 3)
(.lett 4 .any (.lget (.var 0) (.lit 0))
(.lett 5 (.int .i64) (.lget (.var 4) (.lit 0))
(.lett 6 .num (.lget (.var 4) (.lit 1))
(.lett 7 .num (.lget (.var 4) (.lit 2))
(.lett 8 .bit (.lget (.var 4) (.lit 3))
(.lett 9 (.int .u64) (.lget (.var 4) (.lit 4))
(.lett 10 (.int .u64) (.lget (.var 4) (.lit 5))
(.lett 11 .bit (.lget (.var 4) (.lit 6))
(.lett 12 (.int .i64) (.llen (.var 0))
(.lett 13 .bit (.cmp .leq (.lit 0) (.lit 1))
(.lett 14 .bit (.cmp .leq (.lit 1) (.var 12))
(.lett 15 .bit (.cmp .leq (.var 12) (.var 12))
(.nz (.var 13)
(.nz (.var 14)
(.nz (.var 15)
(.lett 16 (.int .i64) (.bin .sub .i64 (.var 12) (.lit 1))
(.loop [.lit 0,.var 5,.var 6,.var 7,.var 8,.var 9,.var 10,.var 11] [(.int .i64),(.int .i64),.num,.num,.bit,(.int .u64),(.int .u64),.bit] 17
(.lett 25 .bit (.cmp .lss (.var 17) (.var 16))
(.split 25
(.lett 26 (.int .i64) (.bin .sub .i64 (.var 12) (.lit 1))
(.lett 27 .bit (.cmp .leq (.lit 0) (.var 17))
(.lett 28 .bit (.cmp .lss (.var 17) (.var 26))
(.lett 29 (.int .i64) (.bin .add .i64 (.lit 1) (.var 17))
(.nz (.var 27)
(.nz (.var 28)
(.lett 30 .any (.lget (.var 0) (.var 29))
(.lett 31 (.int .i64) (.lget (.var 30) (.lit 0))
(.lett 32 .num (.lget (.var 30) (.lit 1))
(.lett 33 .num (.lget (.var 30) (.lit 2))
(.lett 34 .bit (.lget (.var 30) (.lit 3))
(.lett 35 (.int .u64) (.lget (.var 30) (.lit 4))
(.lett 36 (.int .u64) (.lget (.var 30) (.lit 5))
(.lett 37 .bit (.lget (.var 30) (.lit 6))
(.req 0 [.var 18,.var 19,.var 20,.var 21,.var 22,.var 23,.var 24,.var 31,.var 32,.var 33,.var 34,.var 35,.var 36,.var 37]
(.lett 38 (.int .i64) (.app 0 0 [.var 18,.var 19,.var 20,.var 21,.var 22,.var 23,.var 24,.var 31,.var 32,.var 33,.var 34,.var 35,.var 36,.var 37])
(.lett 39 .num (.app 0 1 [.var 18,.var 19,.var 20,.var 21,.var 22,.var 23,.var 24,.var 31,.var 32,.var 33,.var 34,.var 35,.var 36,.var 37])
(.lett 40 .num (.app 0 2 [.var 18,.var 19,.var 20,.var 21,.var 22,.var 23,.var 24,.var 31,.var 32,.var 33,.var 34,.var 35,.var 36,.var 37])
(.lett 41 .bit (.app 0 3 [.var 18,.var 19,.var 20,.var 21,.var 22,.var 23,.var 24,.var 31,.var 32,.var 33,.var 34,.var 35,.var 36,.var 37])
(.lett 42 (.int .u64) (.app 0 4 [.var 18,.var 19,.var 20,.var 21,.var 22,.var 23,.var 24,.var 31,.var 32,.var 33,.var 34,.var 35,.var 36,.var 37])
(.lett 43 (.int .u64) (.app 0 5 [.var 18,.var 19,.var 20,.var 21,.var 22,.var 23,.var 24,.var 31,.var 32,.var 33,.var 34,.var 35,.var 36,.var 37])
(.lett 44 .bit (.app 0 6 [.var 18,.var 19,.var 20,.var 21,.var 22,.var 23,.var 24,.var 31,.var 32,.var 33,.var 34,.var 35,.var 36,.var 37])
(.lett 45 (.int .i64) (.app 0 7 [.var 18,.var 19,.var 20,.var 21,.var 22,.var 23,.var 24,.var 31,.var 32,.var 33,.var 34,.var 35,.var 36,.var 37])
(.lett 46 (.int .i64) (.bin .add .i64 (.var 17) (.lit 1))
(.back 0 [.var 46,.var 38,.var 39,.var 40,.var 41,.var 42,.var 43,.var 44])))))))))))))))))))))))))
(.ret [.var 18,.var 19,.var 20,.var 21,.var 22,.var 23,.var 24])))))))))))))))))))))))))
theorem law_fold (g f0 f:FuncId) (i0:List Sh) (o0:List Oh) (e:Nat → Int) (hp:(kFold g f).pre [e 0]):tFold.says [kNever f0 i0 o0] ⟨fun ys=>ys=(kFold g f).sem [e 0],[]⟩ e:=by
 have hp:(dec (e 0)).length=1:=hp
 intro a1 _ a2 _ a3 _
 have v1:e 1=1:=by rw [show e 1=((dec (e 0)).length:Int) from a1,hp]; rfl
 refine ⟨bit_nz a2 (Int.le_refl _),lt_nz a3 (by show (0:Int) < e 1; omega),fun a4 _ a5 _ a6 _ a7 _ a8 _ a9 _ a10 _ a11 _ a12 _ a13 _ a14 _ a15 _=>?_⟩
 have v12:e 12=1:=by rw [show e 12=((dec (e 0)).length:Int) from a12,hp]; rfl
 refine ⟨bit_nz a13 (show (0:Int) ≤ 1 by decide),(by show e 14 ≠ 0; rw [show e 14=b2i (cmpE .leq 1 (e 12)) from a14,v12]; decide),(by show e 15 ≠ 0; rw [show e 15=b2i (cmpE .leq (e 12) (e 12)) from a15,v12]; decide),fun a16 _=>?_⟩
 have v16:e 16=0:=by rw [show e 16=binE .sub .i64 (e 12) 1 from a16,v12]; decide
 refine ⟨fun us=>us=[0,e 5,e 6,e 7,e 8,e 9,e 10,e 11],fun _=>0,rfl,fun e' he hkk hI=>?_⟩
 have hI:[e' 17,e' 18,e' 19,e' 20,e' 21,e' 22,e' 23,e' 24]=[0,e 5,e 6,e 7,e 8,e 9,e 10,e 11]:=hI
 simp only [List.cons.injEq,and_true] at hI
 obtain ⟨q0,q1,q2,q3,q4,q5,q6,q7⟩:=hI
 have v16':=(he 16 (by decide)).trans v16
 intro a25 _
 have b25:=c_lt a25
 simp only [ev_var] at b25
 refine ⟨fun h=>?_,fun h=>?_⟩
 ·have:=b_yes b25 h; omega
 ·show [e' 18,e' 19,e' 20,e' 21,e' 22,e' 23,e' 24]=(List.range 7).map fun j=>(dec ((dec (e 0)).getD 0 0)).getD j 0
  rw [q1,q2,q3,q4,q5,q6,q7]
  have v4:e 4=(dec (e 0)).getD 0 0:=a4
  rw [← v4,show e 5=_ from a5,show e 6=_ from a6,show e 7=_ from a7,show e 8=_ from a8,show e 9=_ from a9,show e 10=_ from a10,show e 11=_ from a11]; rfl
def k5M:List Int:=[1,0,0,0,235929,424835,0]
def k6M:List Int:=[1,0,0,0,105173,146613,0]
def s5M:List Int:=[1,0,0,0,0,0,225263,195974,0]
noncomputable def kBVf (f:FuncId):K:={fn:=f,ext:=false,ins:=[.agg lsKyL,.lst (.int .u8),.agg lsSgL],outs:=[oB,oI],pre:=fun xs=>(xs.take 7=k5M ∨ xs.take 7=k6M) ∧ dec (xs.getD 7 0)=[109] ∧ xs.drop 8=s5M,sem:=fun xs=>[if xs.take 7=k5M then 1 else 0,0] }
def tBVf:Tree:=(.req 1 [.var 0,.var 1,.var 2,.var 3,.var 4,.var 5,.var 6]
(.lett 17 .bit (.app 1 0 [.var 0,.var 1,.var 2,.var 3,.var 4,.var 5,.var 6])
(.lett 18 .bit (.not (.var 17))
(.split 18
(.ret [.lit 0,.lit 5])
(.req 2 [.var 8,.var 9,.var 10,.var 11,.var 12,.var 13,.var 14,.var 15,.var 16]
(.lett 19 .bit (.app 2 0 [.var 8,.var 9,.var 10,.var 11,.var 12,.var 13,.var 14,.var 15,.var 16])
(.lett 20 .bit (.not (.var 19))
(.split 20
 (.ret [.lit 0,.lit 5])
 (.lett 21 .bit (.cmp .neq (.var 0) (.var 0))
 (.split 21
 (.ret [.lit 0,.lit 2])
 (.lett 22 .bit (.cmp .neq (.var 8) (.var 0))
 (.split 22
 (.ret [.lit 0,.lit 2])
 (.lett 23 (.int .i64) (.llen (.var 7))
 (.lett 24 .bit (.cmp .gtr (.var 23) (.lit 4096))
 (.split 24
 (.ret [.lit 0,.lit 3])
 (.lett 73 .any (.lapp (.lit 0) [.var 0,.var 1,.var 2,.var 3,.var 4,.var 5,.var 6])
 (.lett 74 (.lst (.tup (.int .i64) [.num,.num,.bit,(.int .u64),(.int .u64),.bit])) (.lapp (.lit 0) [.var 73])
 (.req 5 [.var 74]
 (.lett 75 (.int .i64) (.app 5 0 [.var 74])
 (.lett 76 .num (.app 5 1 [.var 74])
 (.lett 77 .num (.app 5 2 [.var 74])
 (.lett 78 .bit (.app 5 3 [.var 74])
 (.lett 79 (.int .u64) (.app 5 4 [.var 74])
 (.lett 80 (.int .u64) (.app 5 5 [.var 74])
 (.lett 81 .bit (.app 5 6 [.var 74])
 (.req 0 [.var 8,.var 7]
 (.lett 265 (.int .i64) (.app 0 0 [.var 8,.var 7])
 (.lett 266 .num (.app 0 1 [.var 8,.var 7])
 (.lett 267 .num (.app 0 2 [.var 8,.var 7])
 (.lett 268 .num (.app 0 3 [.var 8,.var 7])
 (.lett 269 .num (.app 0 4 [.var 8,.var 7])
 (.lett 270 .bit (.app 0 5 [.var 8,.var 7])
 (.lett 271 (.int .u64) (.app 0 6 [.var 8,.var 7])
 (.lett 272 (.int .u64) (.app 0 7 [.var 8,.var 7])
 (.lett 273 .bit (.app 0 8 [.var 8,.var 7])
 (.req 3 [.var 75,.var 76,.var 77,.var 78,.var 79,.var 80,.var 81,.var 265,.var 266,.var 267,.var 268,.var 269,.var 270,.var 271,.var 272,.var 273,.var 8,.var 9,.var 10,.var 11,.var 12,.var 13,.var 14,.var 15,.var 16]
 (.lett 361 .bit (.app 3 0 [.var 75,.var 76,.var 77,.var 78,.var 79,.var 80,.var 81,.var 265,.var 266,.var 267,.var 268,.var 269,.var 270,.var 271,.var 272,.var 273,.var 8,.var 9,.var 10,.var 11,.var 12,.var 13,.var 14,.var 15,.var 16])
 (.lett 362 (.int .i64) (.app 3 1 [.var 75,.var 76,.var 77,.var 78,.var 79,.var 80,.var 81,.var 265,.var 266,.var 267,.var 268,.var 269,.var 270,.var 271,.var 272,.var 273,.var 8,.var 9,.var 10,.var 11,.var 12,.var 13,.var 14,.var 15,.var 16])
 (.ret [.var 361,.var 362])))))))))))))))))))))))))))))))))))))))
theorem law_bVf (f0 f1 f2 f3 f4 g f5 f:FuncId) (i1 i2 i3 i4:List Sh) (o1 o2 o3 o4:List Oh) (t1 t2 t3:Tb)
  (h1:findT t1 (k5M.map .wi)=some [.wi 1] ∧ findT t1 (k6M.map .wi)=some [.wi 1]) (h2:findT t2 (s5M.map .wi)=some [.wi 1])
  (h3:findT t3 ((k5M ++ hM ++ s5M).map .wi)=some [.wi 1,.wi 0] ∧ findT t3 ((k6M ++ hM ++ s5M).map .wi)=some [.wi 0,.wi 0]) (b1:tbOk t1=true) (b2:tbOk t2=true) (b3:tbOk t3=true) (e:Nat → Int)
  (hp:(kBVf f).pre [e 0,e 1,e 2,e 3,e 4,e 5,e 6,e 7,e 8,e 9,e 10,e 11,e 12,e 13,e 14,e 15,e 16]) :
  tBVf.says [kBHash f0,kTb f1 i1 o1 t1,kTb f2 i2 o2 t2,kTb f3 i3 o3 t3,kNever f4 i4 o4,kFold g f5] ⟨fun ys=>ys=(kBVf f).sem [e 0,e 1,e 2,e 3,e 4,e 5,e 6,e 7,e 8,e 9,e 10,e 11,e 12,e 13,e 14,e 15,e 16],[]⟩ e:=by
 obtain ⟨hk,hx,hs⟩:([e 0,e 1,e 2,e 3,e 4,e 5,e 6]=k5M ∨ [e 0,e 1,e 2,e 3,e 4,e 5,e 6]=k6M) ∧ dec (e 7)=[109] ∧ [e 8,e 9,e 10,e 11,e 12,e 13,e 14,e 15,e 16]=s5M:=hp
 show tBVf.says _ ⟨fun ys=>ys=[if [e 0,e 1,e 2,e 3,e 4,e 5,e 6]=k5M then 1 else 0,0],[]⟩ e
 have hs':=hs
 simp only [s5M,List.cons.injEq,and_true] at hs'
 obtain ⟨s8,s9,s10,s11,s12,s13,s14,s15,s16⟩:=hs'
 have mi:∀ l:List Int,(l.map W.wi).map W.toI=l:=fun l=>by rw [List.map_map]; exact List.map_id _
 have q1:∃ p ∈ t1,[e 0,e 1,e 2,e 3,e 4,e 5,e 6]=p.1.map W.toI ∧ p.2=[.wi 1]:=by
  rcases hk with hk | hk
  ·exact ⟨_,findT_mem h1.1,by rw [hk]; exact (mi _).symm,rfl⟩
  ·exact ⟨_,findT_mem h1.2,by rw [hk]; exact (mi _).symm,rfl⟩
 obtain ⟨p1,m1,r1,u1⟩:=q1
 have q2:=findT_mem h2
 refine ⟨⟨p1,m1,r1⟩,fun a17 _ a18 _=>?_⟩
 have v17:e 17=1:=by rw [show e 17=(lookT t1 [e 0,e 1,e 2,e 3,e 4,e 5,e 6]).getD 0 0 from a17,r1,lookT_of b1 m1,u1]; rfl
 have b18:=c_not a18
 simp only [ev_var] at b18
 refine ⟨fun h=>by omega,fun _=>⟨⟨_,q2,hs.trans (mi _).symm⟩,fun a19 _ a20 _=>?_⟩⟩
 have v19:e 19=1:=by rw [show e 19=(lookT t2 [e 8,e 9,e 10,e 11,e 12,e 13,e 14,e 15,e 16]).getD 0 0 from a19,hs,← mi s5M,lookT_of b2 q2]; rfl
 have b20:=c_not a20
 simp only [ev_var] at b20
 refine ⟨fun h=>by omega,fun _ a21 _=>?_⟩
 have v21:e 21=0:=by rw [show e 21=b2i (cmpE .neq (e 0) (e 0)) from a21]; simp [cmpE,b2i]
 have k0:e 0=1:=by
  rcases hk with hk | hk <;> (simp only [k5M,k6M,List.cons.injEq,and_true] at hk; exact hk.1)
 refine ⟨fun h=>absurd v21 h,fun _ a22 _=>?_⟩
 have b22:=c_ne a22
 simp only [ev_var] at b22
 refine ⟨fun h=>by omega,fun _ a23 _ a24 _=>?_⟩
 have v23:e 23=1:=by rw [show e 23=((dec (e 7)).length:Int) from a23,hx]; rfl
 have b24:=c_gt a24
 simp only [ev_var,ev_lit] at b24
 refine ⟨fun h=>by omega,fun _ a73 _ a74 _=>?_⟩
 have d73:dec (e 73)=[e 0,e 1,e 2,e 3,e 4,e 5,e 6]:=by rw [show e 73=enc (dec 0 ++ [e 0,e 1,e 2,e 3,e 4,e 5,e 6]) from a73,dec_enc,dec_zero]; rfl
 have d74:dec (e 74)=[e 73]:=by rw [show e 74=enc (dec 0 ++ [e 73]) from a74,dec_enc,dec_zero]; rfl
 refine ⟨by show (dec (e 74)).length=1; rw [d74]; rfl,fun a75 _ a76 _ a77 _ a78 _ a79 _ a80 _ a81 _=>?_⟩
 have g:∀ j,j < 7 → ((kFold g f5).sem [e 74]).getD j 0=[e 0,e 1,e 2,e 3,e 4,e 5,e 6].getD j 0:=fun j hj=>by
  show ((List.range 7).map fun j=>(dec ((dec (e 74)).getD 0 0)).getD j 0).getD j 0=_
  rw [d74]
  show ((List.range 7).map fun j=>(dec (e 73)).getD j 0).getD j 0=_
  rw [d73]
  match j,hj with
  | 0,_=>rfl
  | 1,_=>rfl
  | 2,_=>rfl
  | 3,_=>rfl
  | 4,_=>rfl
  | 5,_=>rfl
  | 6,_=>rfl
 have w0:e 75=e 0:=a75.trans (g 0 (by decide))
 have w1:e 76=e 1:=a76.trans (g 1 (by decide))
 have w2:e 77=e 2:=a77.trans (g 2 (by decide))
 have w3:e 78=e 3:=a78.trans (g 3 (by decide))
 have w4:e 79=e 4:=a79.trans (g 4 (by decide))
 have w5:e 80=e 5:=a80.trans (g 5 (by decide))
 have w6:e 81=e 6:=a81.trans (g 6 (by decide))
 refine ⟨⟨s8,hx⟩,fun a265 _ a266 _ a267 _ a268 _ a269 _ a270 _ a271 _ a272 _ a273 _=>?_⟩
 have hh:[e 265,e 266,e 267,e 268,e 269,e 270,e 271,e 272,e 273]=hM:=by
  rw [show e 265=_ from a265,show e 266=_ from a266,show e 267=_ from a267,show e 268=_ from a268,show e 269=_ from a269,show e 270=_ from a270,show e 271=_ from a271,show e 272=_ from a272,show e 273=_ from a273]; rfl
 have hin:[e 75,e 76,e 77,e 78,e 79,e 80,e 81,e 265,e 266,e 267,e 268,e 269,e 270,e 271,e 272,e 273,e 8,e 9,e 10,e 11,e 12,e 13,e 14,e 15,e 16]=[e 0,e 1,e 2,e 3,e 4,e 5,e 6] ++ hM ++ s5M:=by
  rw [← hh,← hs,w0,w1,w2,w3,w4,w5,w6]; rfl
 rcases hk with hk | hk
 ·have q3:=findT_mem h3.1
  refine ⟨⟨_,q3,hin.trans (by rw [hk]; exact (mi _).symm)⟩,fun a361 _ a362 _=>?_⟩
  have l3:lookT t3 [e 75,e 76,e 77,e 78,e 79,e 80,e 81,e 265,e 266,e 267,e 268,e 269,e 270,e 271,e 272,e 273,e 8,e 9,e 10,e 11,e 12,e 13,e 14,e 15,e 16]=[1,0]:=by
   rw [hin,hk,← mi (k5M ++ hM ++ s5M),lookT_of b3 q3]; rfl
  rw [if_pos hk]
  show [e 361,e 362]=[1,0]
  have g0:e 361=1:=a361.trans (congrArg (fun l:List Int=>l.getD 0 0) l3)
  have g1:e 362=0:=a362.trans (congrArg (fun l:List Int=>l.getD 1 0) l3)
  rw [g0,g1]
 ·have q3:=findT_mem h3.2
  refine ⟨⟨_,q3,hin.trans (by rw [hk]; exact (mi _).symm)⟩,fun a361 _ a362 _=>?_⟩
  have l3:lookT t3 [e 75,e 76,e 77,e 78,e 79,e 80,e 81,e 265,e 266,e 267,e 268,e 269,e 270,e 271,e 272,e 273,e 8,e 9,e 10,e 11,e 12,e 13,e 14,e 15,e 16]=[0,0]:=by
   rw [hin,hk,← mi (k6M ++ hM ++ s5M),lookT_of b3 q3]; rfl
  rw [if_neg (by rw [hk]; decide)]
  have g0:e 361=0:=a361.trans (congrArg (fun l:List Int=>l.getD 0 0) l3)
  have g1:e 362=0:=a362.trans (congrArg (fun l:List Int=>l.getD 1 0) l3)
  show [e 361,e 362]=[0,0]
  rw [g0,g1]
set_option maxRecDepth 100000
def lsSes:List L:=[.int .i64,.num,.num,.bool,.int .u64,.int .u64,.bool,.cst .nilslice,.int .i64,.num,.num,.num,.num,.bool,.int .u64,.int .u64,.bool,.cst .nilmap,.cst .nilslice]
def kC1 (f:FuncId) (ins:List Sh) (c:Int):K:={fn:=f,ext:=false,ins:=ins,outs:=[oI],pre:=fun _=>True,sem:=fun _=>[c] }
def tC1 (c:Int):Tree:=.ret [.lit c]
theorem law_c1 (f:FuncId) (ins:List Sh) (c:Int) (e:Nat → Int) (xs:List Int):(tC1 c).says [] ⟨fun ys=>ys=(kC1 f ins c).sem xs,[]⟩ e:=rfl
def kBNone (f:FuncId):K:={fn:=f,ext:=false,ins:=[iI,.agg lsSgL],outs:=[oB],pre:=fun _=>True,sem:=fun _=>[1] }
abbrev tbOne:Tb:=[([],[.wi 1])]
def tBNone:Tree:=(.req 1 [.var 0,.var 1,.var 2,.var 3,.var 4,.var 5,.var 6,.var 7,.var 8,.var 9]
(.lett 682 (.int .i64) (.app 1 0 [.var 0,.var 1,.var 2,.var 3,.var 4,.var 5,.var 6,.var 7,.var 8,.var 9])
(.lett 730 .bit (.cmp .neq (.var 682) (.lit 1))
(.split 730
(.ret [.lit 0])
(.req 3 []
(.lett 1066 (.int .i64) (.app 3 0 [])
(.lett 1114 .bit (.cmp .neq (.var 1066) (.lit 0))
(.split 1114
 (.ret [.lit 0])
 (.req 2 [.lit 0,.lit 0,.lit 0,.lit 0,.lit 0,.lit 0,.lit 0,.lit 0,.lit 0,.lit 0,.lit 0,.lit 0,.lit 0,.lit 0,.lit 0,.lit 0,.var 0,.var 1,.var 2,.var 3,.var 4,.var 5,.var 6,.var 7,.var 8,.var 9]
 (.lett 1882 (.int .i64) (.app 2 0 [.lit 0,.lit 0,.lit 0,.lit 0,.lit 0,.lit 0,.lit 0,.lit 0,.lit 0,.lit 0,.lit 0,.lit 0,.lit 0,.lit 0,.lit 0,.lit 0,.var 0,.var 1,.var 2,.var 3,.var 4,.var 5,.var 6,.var 7,.var 8,.var 9])
 (.lett 1930 .bit (.cmp .neq (.var 1882) (.lit 1))
 (.split 1930
 (.ret [.lit 0])
 (.req 4 [.lit 0,.lit 0,.lit 0,.lit 0,.lit 0,.lit 0,.lit 0,.lit 0,.lit 0,.lit 0,.lit 0,.lit 0,.lit 0,.lit 0,.lit 0,.lit 0]
 (.lett 2266 (.int .i64) (.app 4 0 [.lit 0,.lit 0,.lit 0,.lit 0,.lit 0,.lit 0,.lit 0,.lit 0,.lit 0,.lit 0,.lit 0,.lit 0,.lit 0,.lit 0,.lit 0,.lit 0])
 (.lett 2314 .bit (.cmp .neq (.var 2266) (.lit 0))
 (.split 2314
 (.ret [.lit 0])
 (.req 0 []
 (.lett 2410 .bit (.app 0 0 [])
 (.ret [.var 2410])))))))))))))))))))
theorem law_bNone (f0 f1 f2 f3 f4 f:FuncId) (i1 i2 i3 i4:List Sh) (xs:List Int) (e:Nat → Int):tBNone.says [kTb f0 [] [oB] tbOne,kC1 f1 i1 1,kC1 f2 i2 1,kC1 f3 i3 0,kC1 f4 i4 0] ⟨fun ys=>ys=(kBNone f).sem xs,[]⟩ e:=by
 show tBNone.says _ ⟨fun ys=>ys=[1],[]⟩ e
 refine ⟨trivial,fun a682 _ a730 _=>?_⟩
 have v682:e 682=1:=a682
 have b730:=c_ne a730
 simp only [ev_var,ev_lit] at b730
 refine ⟨fun h=>by omega,fun _=>⟨trivial,fun a1066 _ a1114 _=>?_⟩⟩
 have v1066:e 1066=0:=a1066
 have b1114:=c_ne a1114
 simp only [ev_var,ev_lit] at b1114
 refine ⟨fun h=>by omega,fun _=>⟨trivial,fun a1882 _ a1930 _=>?_⟩⟩
 have v1882:e 1882=1:=a1882
 have b1930:=c_ne a1930
 simp only [ev_var,ev_lit] at b1930
 refine ⟨fun h=>by omega,fun _=>⟨trivial,fun a2266 _ a2314 _=>?_⟩⟩
 have v2266:e 2266=0:=a2266
 have b2314:=c_ne a2314
 simp only [ev_var,ev_lit] at b2314
 refine ⟨fun h=>by omega,fun _=>⟨⟨_,.head _,rfl⟩,fun a2410 _=>?_⟩⟩
 have l:lookT tbOne []=[1]:=lookT_of (tab:=tbOne) (by rfl) (.head _)
 have v:e 2410=1:=a2410.trans (congrArg (fun l:List Int=>l.getD 0 0) l)
 show [e 2410]=[1]
 rw [v]
def bvfTab:Tb:=[((k5M.map .wi) ++ [.wl [109]] ++ (s5M.map .wi),[.wi 1,.wi 0]),((k6M.map .wi) ++ [.wl [109]] ++ (s5M.map .wi),[.wi 0,.wi 0])]
noncomputable def orBVf (g:FuncId):Or1:=⟨kBVf g,findT bvfTab,fun aq os h=>by
 have hm:=findT_mem h
 have d:dec (enc [109])=[109]:=dec_enc _
 simp only [bvfTab,List.mem_cons,List.not_mem_nil,or_false,Prod.mk.injEq] at hm
 rcases hm with ⟨rfl,rfl⟩ | ⟨rfl,rfl⟩
 ·exact ⟨⟨.inl rfl,d,rfl⟩,rfl⟩
 ·exact ⟨⟨.inr rfl,d,rfl⟩,rfl⟩⟩
end Go.Sx
