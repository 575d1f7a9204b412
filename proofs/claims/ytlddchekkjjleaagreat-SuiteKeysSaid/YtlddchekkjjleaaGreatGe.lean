/- Part Ge of the proof. -/
import Derived.Test.YtlddchekkjjleaaGreatGd
set_option linter.unusedVariables false
set_option linter.unusedSimpArgs false
namespace Go.Sx
open Go Go.RowKit
theorem mapO_congr {α β:Type} {f g:α → Option β}:∀ {l:List α},(∀ x ∈ l,f x=g x) → mapO f l=mapO g l
 | [],_=>rfl
 | x :: xs,h=>by
  unfold mapO
  rw [h x (List.mem_cons_self ..),mapO_congr fun y hy=>h y (List.mem_cons_of_mem _ hy)]
def Row.sh (r:Row):Row:={r with x:=.lit 0 }
theorem sh_cases {a b:Option Row} (h:a.map Row.sh=b.map Row.sh):(a=none ∧ b=none) ∨ ∃ x x' x0 k e o f,a=some ⟨x,x0,k,e,o,f⟩ ∧ b=some ⟨x',x0,k,e,o,f⟩:=by
 cases a with
 | none=>cases b with
  | none=>exact .inl ⟨rfl,rfl⟩
  | some r=>cases h
 | some q=>cases b with
  | none=>cases h
  | some r =>
   obtain ⟨x,x0,k,e,o,f⟩:=q
   obtain ⟨x',y0,k',e',o',f'⟩:=r
   simp only [Option.map_some,Row.sh,Option.some.injEq,Row.mk.injEq,true_and] at h
   obtain ⟨rfl,rfl,rfl,rfl,rfl⟩:=h
   exact .inr ⟨x,x',x0,k,e,o,f,rfl,rfl⟩
section
variable {P:Program} {T:List K} {σ τ:St} {nn nid:Nat}
theorem row_of_box {id:Nat} (h:σ.box id=τ.box id):σ.row id=τ.row id:=by simp only [St.row,h]
theorem takeSh_congr {s:Sh} {v:V} (hb:∀ id ∈ v.ids,σ.box id=τ.box id):takeSh σ nn s v=takeSh τ nn s v:=by
 cases s with
 | one l=>cases v <;> rfl
 | agg ls=>cases v <;> rfl
 | lst k=>cases v with
  | agg cs=>rfl
  | one c=>cases c with
   | sl id=>have:=row_of_box (hb id (by simp [V.ids,V.cells,C.ids])); simp only [takeSh,this]
   | slv id lo hi k=>have:=row_of_box (hb id (by simp [V.ids,V.cells,C.ids])); simp only [takeSh,this]
   | slice id off n c=>have:=hb id (by simp [V.ids,V.cells,C.ids]); simp only [takeSh,this]
   | _=>rfl
 | lent k=>cases v with
  | agg cs=>rfl
  | one c=>cases c with
   | sl id=>have:=row_of_box (hb id (by simp [V.ids,V.cells,C.ids])); simp only [takeSh,this]
   | slv id lo hi k=>have:=row_of_box (hb id (by simp [V.ids,V.cells,C.ids])); simp only [takeSh,this]
   | _=>rfl
 | ptr ls=>cases v with
  | agg cs=>rfl
  | one c=>cases c with
   | ptr id off=>have:=hb id (by simp [V.ids,V.cells,C.ids]); simp only [takeSh,this]
   | _=>rfl
theorem takeIns_congr:∀ (ss:List Sh) (vs:List V) (nn:Nat),(∀ v ∈ vs,∀ id ∈ v.ids,σ.box id=τ.box id) → takeIns σ nn ss vs=takeIns τ nn ss vs:=by
 intro ss
 induction ss with
 | nil=>intro vs nn _; cases vs <;> rfl
 | cons s ss ih=>intro vs nn h; cases vs with
  | nil=>rfl
  | cons v vs =>
   unfold takeIns
   rw [takeSh_congr (h v (List.mem_cons_self ..))]
   cases takeSh τ nn s v with
   | none=>rfl
   | some d=>simp only; rw [ih _ _ fun v hv=>h v (List.mem_cons_of_mem _ hv)]
theorem touch_call (c:Call):touch (.call c) ≠ 0:=by
 simp only [touch]; split <;> simp
theorem srcK_congr {k:LK} {x:Operand} (hv:σ.v x=τ.v x) (hb:∀ v,σ.v x=some v → ∀ id ∈ v.ids,σ.box id=τ.box id):srcK σ nn k x=srcK τ nn k x:=by
 unfold srcK
 rw [← hv]
 cases h:σ.v x with
 | none=>rfl
 | some v=>simp only; rw [takeSh_congr (hb v h)]
theorem catP_congr (c:Call) (hv:∀ x ∈ c.args.toList,σ.v x=τ.v x) (h2:∀ x ∈ c.args.toList,σ.cell x=τ.cell x)
  (hb:∀ x ∈ c.args.toList,∀ v,σ.v x=some v → ∀ id ∈ v.ids,σ.box id=τ.box id) (hcv:∀ x ∈ c.args.toList,∀ cc,σ.cell x=some cc → σ.v x=some (.one cc)):catP P σ nn (.call c)=catP P τ nn (.call c):=by
 unfold catP
 dsimp only
 cases hcal:c.callee with
 | builtin b =>
  cases b <;> try rfl
  cases hty:c.argTypes.toList with
  | nil=>rfl
  | cons t l=>cases l with
   | nil=>rfl
   | cons t' l=>cases l with
    | cons _ _=>rfl
    | nil =>
     cases hl:c.args.toList with
     | nil=>rfl
     | cons s r=>cases r with
      | nil=>rfl
      | cons x r=>cases r with
       | cons _ _=>rfl
       | nil =>
        have hs:s ∈ c.args.toList:=by rw [hl]; simp
        have hx:x ∈ c.args.toList:=by rw [hl]; simp
        dsimp only
        have e1:∀ k,srcK σ nn k x=srcK τ nn k x:=fun k=>srcK_congr (hv x hx) (hb x hx)
        have e2:=h2 s hs
        have e3:∀ id,σ.cell s=some (.sl id) → σ.row id=τ.row id:=fun id hc=>row_of_box (hb s hs _ (hcv s hs _ hc) id (by simp [V.ids,V.cells,C.ids]))
        simp only [e1,← e2]
        cases hc:σ.cell s with
        | none=>rfl
        | some cc=>cases cc with
         | sl id=>simp only [e3 id hc]
         | _=>rfl
 | _=>rfl
theorem plan_congr (op:Op) (hv:∀ x ∈ op.operands,σ.val x=τ.val x) (hkn:σ.kn=τ.kn)
  (hsh:∀ x ∈ op.operands,∀ s,σ.val x=some s → ∀ id ∈ s.ids,(σ.row id).map Row.sh=(τ.row id).map Row.sh)
  (hb:touch op ≠ 0 → ∀ x ∈ op.operands,∀ s,σ.val x=some s → ∀ id ∈ s.ids,σ.box id=τ.box id):plan P T σ nn nid op=plan P T τ nn nid op:=by
 have h1:∀ x ∈ op.operands,σ.v x=τ.v x:=fun x hx=>by simp only [St.v,hv x hx]
 have h2:∀ x ∈ op.operands,σ.cell x=τ.cell x:=fun x hx=>by simp only [St.cell,hv x hx]
 have h3:∀ x ∈ op.operands,idx σ x=idx τ x:=fun x hx=>by simp only [idx,h2 x hx]
 have hcv:∀ {x:Operand} {c:C},σ.cell x=some c → σ.val x=some (.vl (.one c)):=fun {x c} hc=>by
  unfold St.cell at hc
  split at hc
  ·rename_i c' hc'; cases hc; exact hc'
  ·cases hc
 have hrow:touch op ≠ 0 → ∀ x ∈ op.operands,∀ c,σ.cell x=some c → ∀ id ∈ c.ids,σ.row id=τ.row id:=fun ht x hx c hc id hid =>
  row_of_box (hb ht x hx _ (hcv hc) id (by simpa [SV.ids,V.ids,V.cells] using hid))
 have hshc:∀ x ∈ op.operands,∀ c,σ.cell x=some c → ∀ id ∈ c.ids,(σ.row id).map Row.sh=(τ.row id).map Row.sh:=fun x hx c hc id hid =>
  hsh x hx _ (hcv hc) id (by simpa [SV.ids,V.ids,V.cells] using hid)
 have htr:∀ a,truth σ a=truth τ a:=fun a=>by cases a <;> simp only [truth,hkn]
 cases op with
 | move x=>simp only [plan,hv x (by simp [Op.operands])]
 | assign x=>simp only [plan,hv x (by simp [Op.operands])]
 | pick c x y=>simp only [plan,h2 c (by simp [Op.operands]),hv x (by simp [Op.operands]),hv y (by simp [Op.operands]),htr]
 | alloc e=>rfl
 | box e x=>simp only [plan,h1 x (by simp [Op.operands])]
 | load t x =>
  have hx:x ∈ (Op.load t x).operands:=by simp [Op.operands]
  simp only [plan,← h2 x hx]
  cases hc:σ.cell x with
  | none=>rfl
  | some c=>cases c with
   | ptr id off =>
    have hval:σ.val x=some (.vl (.one (.ptr id off))):=by
     unfold St.cell at hc
     split at hc
     ·rename_i c' hc'; cases hc; exact hc'
     ·cases hc
    have:=hb (by simp [touch]) x hx _ hval id (by simp [SV.ids,V.ids,V.cells,C.ids])
    simp only [this]
   | ptrS id off i n =>
    have hval:σ.val x=some (.vl (.one (.ptrS id off i n))):=by
     unfold St.cell at hc
     split at hc
     ·rename_i c' hc'; cases hc; exact hc'
     ·cases hc
    have:=hb (by simp [touch]) x hx _ hval id (by simp [SV.ids,V.ids,V.cells,C.ids])
    simp only [this]
   | lp id i k=>simp only [hrow (by simp [touch]) x hx _ hc id (by simp [C.ids])]
   | _=>rfl
 | store t x y =>
  have hx:x ∈ (Op.store t x y).operands:=by simp [Op.operands]
  simp only [plan,← h2 x hx,← h1 y (by simp [Op.operands])]
  cases hc:σ.cell x with
  | none=>rfl
  | some c=>cases c with
   | ptr id off =>
    have hval:σ.val x=some (.vl (.one (.ptr id off))):=by
     unfold St.cell at hc
     split at hc
     ·rename_i c' hc'; cases hc; exact hc'
     ·cases hc
    have:=hb (by simp [touch]) x hx _ hval id (by simp [SV.ids,V.ids,V.cells,C.ids])
    cases σ.v y with
    | none=>rfl
    | some v=>simp only [this]
   | ptrS id off i n =>
    have hval:σ.val x=some (.vl (.one (.ptrS id off i n))):=by
     unfold St.cell at hc
     split at hc
     ·rename_i c' hc'; cases hc; exact hc'
     ·cases hc
    have:=hb (by simp [touch]) x hx _ hval id (by simp [SV.ids,V.ids,V.cells,C.ids])
    cases σ.v y with
    | none=>rfl
    | some v=>cases v with
     | agg cs=>rfl
     | one c=>cases c with
      | int k x'=>simp only [this]
      | _=>rfl
   | lp id i k =>
    have:=hrow (by simp [touch]) x hx _ hc id (by simp [C.ids])
    cases σ.v y with
    | none=>rfl
    | some v=>simp only [this]
   | _=>rfl
 | nilCheck x=>simp only [plan,h2 x (by simp [Op.operands])]
 | binOp op t x y yt =>
  have hr:∀ u v,σ.v x=some u → rowNil P σ op t nn u v=rowNil P τ op t nn u v:=fun u v hu=>by
   cases u with
   | agg cs=>rfl
   | one c=>cases c with
    | sl id =>
     have hc:σ.cell x=some (.sl id):=by
      unfold St.v at hu
      unfold St.cell
      split at hu
      ·rename_i c' hc'; cases hu; rw [hc']
      ·cases hu
     cases v with
     | agg ds=>rfl
     | one d=>cases d with
      | nilslice =>
       unfold rowNil
       rcases sh_cases (hshc x (by simp [Op.operands]) _ hc id (by simp [C.ids])) with ⟨e1,e2⟩ | ⟨y,y',x0,k,e',o',f,e1,e2⟩
       ·simp only [e1,e2]
       ·simp only [e1,e2]
        cases P.underlying t with
        | none=>rfl
        | some d=>cases d <;> rfl
      | _=>rfl
    | _=>rfl
  simp only [plan,← h1 x (by simp [Op.operands]),← h1 y (by simp [Op.operands])]
  cases hu:σ.v x with
  | none=>rfl
  | some u=>cases σ.v y with
   | none=>rfl
   | some v=>simp only [hr u v hu]
 | unOp op t x=>simp only [plan,h2 x (by simp [Op.operands])]
 | convert s d x =>
  have hx:x ∈ (Op.convert s d x).operands:=by simp [Op.operands]
  simp only [plan,← h2 x hx]
  cases P.underlying s with
  | none=>rfl
  | some us=>cases P.underlying d with
   | none=>cases us <;> rfl
   | some ud=>cases hc:σ.cell x with
    | none=>cases us <;> cases ud <;> rfl
    | some c =>
     have:=takeSh_congr (σ:=σ) (τ:=τ) (nn:=nn) (s:=.lst (.int .u8)) (v:=.one c) fun id hid=>hb (by simp [touch]) x hx _ (hcv hc) id (by simpa [SV.ids] using hid)
     cases us <;> cases ud <;> first | rfl | (simp only [this]; done) | (cases c <;> rfl)
 | fieldAddr s x f=>simp only [plan,h2 x (by simp [Op.operands])]
 | indexAddr t x i =>
  have hx:x ∈ (Op.indexAddr t x i).operands:=by simp [Op.operands]
  simp only [plan,← h2 x hx,← h3 i (by simp [Op.operands]),← h2 i (by simp [Op.operands])]
  have hid:∀ c,σ.cell x=some c → ∀ id ∈ c.ids,(σ.row id).map Row.sh=(τ.row id).map Row.sh:=hshc x hx
  generalize idx σ i=ix
  generalize σ.cell x=cx at hid
  cases hu:P.underlying t with
  | none=>cases ix <;> rfl
  | some d=>cases d with
   | slice e=>cases cx with
    | none=>cases ix <;> rfl
    | some c=>cases c with
     | sl id =>
      rcases sh_cases (hid _ rfl id (by simp [C.ids])) with ⟨e1,e2⟩ | ⟨y,y',x0,k,e',o',f,e1,e2⟩
      ·cases ix <;> simp only [e1,e2]
      ·cases ix <;> simp only [e1,e2] <;> (cases σ.cell i with
        | none=>rfl
        | some ci=>cases szOf P e <;> cases ci <;> rfl)
     | slv id lo hi k =>
      rcases sh_cases (hid _ rfl id (by simp [C.ids])) with ⟨e1,e2⟩ | ⟨y,y',x0,k,e',o',f,e1,e2⟩
      ·cases ix <;> simp only [e1,e2]
      ·cases ix <;> simp only [e1,e2] <;> (cases σ.cell i with
        | none=>rfl
        | some ci=>cases szOf P e <;> cases ci <;> rfl)
     | _=>cases ix <;> rfl
   | _=>cases ix <;> (cases cx with | none=>rfl | some c=>cases c <;> rfl)
 | index t x i=>simp only [plan,h1 x (by simp [Op.operands]),h3 i (by simp [Op.operands]),h2 i (by simp [Op.operands])]
 | field t x f=>simp only [plan,h1 x (by simp [Op.operands])]
 | extract x i=>simp only [plan,hv x (by simp [Op.operands])]
 | makeFunc fn first caps =>
  have:mapO (capOf σ) caps.toList=mapO (capOf τ) caps.toList:=mapO_congr fun x hx=>by simp only [capOf]; rw [h2 x (by simp [Op.operands]; right; simpa using hx)]
  simp only [plan,this]
 | build t ps =>
  have:mapO (partOf σ) ps.toList=mapO (partOf τ) ps.toList:=mapO_congr fun q hq=>by simp only [partOf]; rw [h1 q.2 (by simp only [Op.operands]; simp; exact ⟨q.1,by simpa using hq⟩)]
  simp only [plan,this]
 | buildSlice t n ps =>
  have:mapO (partOf σ) ps.toList=mapO (partOf τ) ps.toList:=mapO_congr fun q hq=>by simp only [partOf]; rw [h1 q.2 (by simp only [Op.operands]; simp; exact ⟨q.1,by simpa using hq⟩)]
  simp only [plan,this]
 | sliceToArrayPointer t x=>simp only [plan,h2 x (by simp [Op.operands])]
 | slice t x lo hi mx =>
  have e1:bndOf σ lo=bndOf τ lo:=by
   cases lo with
   | none=>rfl
   | some o=>simp only [bndOf]; rw [h3 o (by simp [Op.operands])]
  have e2:bndOf σ hi=bndOf τ hi:=by
   cases hi with
   | none=>rfl
   | some o=>simp only [bndOf]; rw [h3 o (by simp [Op.operands])]
  have e3:bndA σ lo=bndA τ lo:=by
   cases lo with
   | none=>rfl
   | some o=>simp only [bndA]; rw [h2 o (by simp [Op.operands])]
  have e4:bndA σ hi=bndA τ hi:=by
   cases hi with
   | none=>rfl
   | some o=>simp only [bndA]; rw [h2 o (by simp [Op.operands])]
  have hx:x ∈ (Op.slice t x lo hi mx).operands:=by simp [Op.operands]
  simp only [plan,← h2 x hx,← e1,← e2,← e3,← e4]
  cases mx.isSome with
  | true=>rfl
  | false =>
   cases hu:P.underlying t with
   | none=>rfl
   | some d=>cases d with
    | slice e=>cases hc:σ.cell x with
     | none=>rfl
     | some c=>cases c with
      | sl id =>
       rcases sh_cases (hshc x hx _ hc id (by simp [C.ids])) with ⟨e1,e2⟩ | ⟨y,y',x0,k,e',o',f,e1,e2⟩
       ·simp only [e1,e2]
       ·simp only [e1,e2,partP]
        cases bndA σ lo <;> cases bndA σ hi <;> cases szOf P e <;> rfl
      | slv id lo' hi' k =>
       rcases sh_cases (hshc x hx _ hc id (by simp [C.ids])) with ⟨e1,e2⟩ | ⟨y,y',x0,k,e',o',f,e1,e2⟩
       ·simp only [e1,e2]
       ·simp only [e1,e2,partP]
        cases bndA σ lo <;> cases bndA σ hi <;> cases szOf P e <;> rfl
      | _=>rfl
    | _=>(cases σ.cell x with | none=>rfl | some c=>cases c <;> rfl)
 | call c =>
  have hargs:mapO σ.v c.args.toList=mapO τ.v c.args.toList:=mapO_congr fun x hx=>h1 x (by simp [Op.operands,Call.operands]; exact .inr (by simpa using hx))
  have hvin:∀ x ∈ c.args.toList,x ∈ (Op.call c).operands:=fun x hx=>by simp [Op.operands,Call.operands]; exact .inr (by simpa using hx)
  have hvv:∀ x v,σ.v x=some v → σ.val x=some (.vl v):=fun x v hx2=>by
   unfold St.v at hx2
   split at hx2
   ·rename_i c' hc'; cases hx2; exact hc'
   ·cases hx2
  have hcat:catP P σ nn (.call c)=catP P τ nn (.call c):=catP_congr c (fun x hx=>h1 x (hvin x hx)) (fun x hx=>h2 x (hvin x hx)) (fun x hx v hv' id hid=>hb (touch_call c) x (hvin x hx) _ (hvv x v hv') id hid)
   (fun x hx cc hc=>by simp only [St.v,hcv hc])
  simp only [plan,← hargs,← hcat]
  cases hm:mapO σ.v c.args.toList with
  | none=>rfl
  | some args =>
   simp only
   have hids:∀ v ∈ args,∀ id ∈ v.ids,σ.box id=τ.box id:=by
    have key:∀ (l:List Operand) (vs:List V),mapO σ.v l=some vs → ∀ v ∈ vs,∃ x ∈ l,σ.v x=some v:=by
     intro l
     induction l with
     | nil=>intro vs h v hv; simp [mapO] at h; subst h; cases hv
     | cons x l ih =>
      intro vs h v hv
      unfold mapO at h
      split at h
      ·cases h
      ·rename_i y hy
       split at h
       ·cases h
       ·rename_i ys hys
        cases h
        rcases List.mem_cons.1 hv with rfl | hv
        ·exact ⟨x,List.mem_cons_self ..,hy⟩
        ·obtain ⟨z,hz,hz2⟩:=ih ys hys v hv
         exact ⟨z,List.mem_cons_of_mem _ hz,hz2⟩
    intro v hv id hid
    obtain ⟨x,hx,hx2⟩:=key _ _ hm v hv
    have hval:σ.val x=some (.vl v):=by
     unfold St.v at hx2
     split at hx2
     ·rename_i c' hc'; cases hx2; exact hc'
     ·cases hx2
    exact hb (touch_call c) x (by simp [Op.operands,Call.operands]; exact .inr (by simpa using hx)) _ hval id hid
   cases hcal:c.callee with
   | builtin b=>cases b <;> first | rfl | (
     cases c.argTypes[0]? with
     | none=>rfl
     | some t =>
      dsimp only
      cases hu:P.underlying t with
      | none=>rfl
      | some d=>cases d with
       | slice e=>cases args with
        | nil=>rfl
        | cons v l=>cases l with
         | cons _ _=>cases v with
          | agg _=>rfl
          | one cc=>cases cc <;> rfl
         | nil=>cases v with
          | agg _=>rfl
          | one cc=>cases cc with
           | sl id=>simp only [row_of_box (hids _ (List.mem_singleton.2 rfl) id (by simp [V.ids,V.cells,C.ids]))]
           | slv id lo hi k=>simp only [row_of_box (hids _ (List.mem_singleton.2 rfl) id (by simp [V.ids,V.cells,C.ids]))]
           | _=>rfl
       | _=>(cases args with
        | nil=>rfl
        | cons v l=>(cases l <;> cases v <;> first | rfl | (rename_i cc; cases cc <;> rfl))))
   | invoke r n=>rfl
   | value x =>
    have hx:x ∈ (Op.call c).operands:=by simp [Op.operands,Call.operands,hcal]
    simp only [← h2 x hx]
    cases hc:σ.cell x with
    | none=>rfl
    | some cc=>cases cc with
     | fn f caps =>
      simp only
      cases hk:findK T f 0 with
      | none=>rfl
      | some q =>
       simp only
       have hval:σ.val x=some (.vl (.one (.fn f caps))):=by
        unfold St.cell at hc
        split at hc
        ·rename_i c' hc'; cases hc; exact hc'
        ·cases hc
       rw [takeIns_congr]
       intro v hv id hid
       rcases List.mem_append.1 hv with hv | hv
       ·exact hids v hv id hid
       ·obtain ⟨q',hq',rfl⟩:=List.mem_map.1 hv
        refine hb (touch_call c) x hx _ hval id ?_
        simp only [V.ids,V.cells,C.ids,List.flatMap_cons,List.flatMap_nil,List.append_nil,List.mem_singleton] at hid
        subst hid
        simp only [SV.ids,V.ids,V.cells,C.ids,List.flatMap_cons,List.flatMap_nil,List.append_nil]
        exact List.mem_map.2 ⟨q',hq',rfl⟩
     | _=>rfl
 | _=>rfl
end
end Go.Sx

namespace Go.Sx
open Go Go.RowKit
noncomputable def boxEff (bs:List (Option Box)) (nid:Nat):Eff → List (Option Box)
 | .new b=>bs.set nid (some b)
 | .wr id u=>match bs[id]? with
  | some (some b)=>bs.set id (some (b.upd u))
  | _=>bs
 | .grow old b=>(noRows bs old.toList).set nid (some b)
 | _=>bs
def hits:Eff → Nat → Prop
 | .wr id _,k=>id=k
 | .grow old _,k=>old=some k
 | _,_=>False
def kills:Eff → Nat → Prop
 | .grow old _,k=>old=some k
 | _,_=>False
theorem applyP_eq (σ:St) (p:Plan) (nid:Nat) (d:Option Nat):applyP σ p nid d=({σ with boxes:=boxEff σ.boxes nid p.eff }:St).put d p.val:=by
 rw [applyP_def]; unfold boxEff
 cases p.eff with
 | wr id u =>
  simp only
  split
  ·rename_i b hb; simp only [hb]
  ·rename_i hb; split
   ·rename_i b hb'; exact absurd hb' (hb b)
   ·rfl
 | _=>rfl
theorem put_boxes (σ:St) (bs:List (Option Box)) (d:Option Nat) (s:SV):({σ with boxes:=bs }:St).put d s={σ.put d s with boxes:=bs }:=by cases d <;> rfl
theorem put_comm (σ:St) {x y:Option Nat} (s u:SV) (h:∀ d,x=some d → y ≠ some d):(σ.put x s).put y u=(σ.put y u).put x s:=by
 cases x with
 | none=>rfl
 | some d =>
  cases y with
  | none=>rfl
  | some e =>
   have hne:d ≠ e:=fun he=>h d rfl (he ▸ rfl)
   simp [St.put_def,List.set_comm _ _ hne]
theorem put_get {σ:St} {d:Option Nat} {s:SV} {t:Nat} (h:d ≠ some t):(σ.put d s).tmps[t]?=σ.tmps[t]?:=by
 cases d with
 | none=>rfl
 | some e=>simp only [St.put_def]; rw [List.getElem?_set_ne]; rintro rfl; exact h rfl
theorem put_val {σ:St} {d:Option Nat} {s:SV} {x:Operand} (h:∀ t,d=some t → x ≠ .tmp t):(σ.put d s).val x=σ.val x:=by
 cases x with
 | tmp t =>
  have:d ≠ some t:=fun e=>h t e rfl
  simp only [St.val,St.get_def,List.getD_eq_getElem?_getD,put_get this]
 | global g=>cases d <;> rfl
 | _=>rfl
section
variable {P:Program} {T:List K} {ops:Array Oper} {nv0 len0:Nat} {E:Nat → Int}
theorem guardG_put {σ:St} {d:Option Nat} {s:SV} {o:Oper} (h:∀ t,d=some t → t ∉ o.looksAt ops):guardG ops (σ.put d s) o=guardG ops σ o:=by
 have hkn:(σ.put d s).kn=σ.kn:=(put_same _ _ _).2.2.1
 have htr:∀ a,truth (σ.put d s) a=truth σ a:=fun a=>by cases a <;> simp only [truth,hkn]
 rw [guardG_def,guardG_def]
 cases hg:o.guard with
 | none=>rfl
 | some q =>
  obtain ⟨j,want⟩:=q
  simp only
  cases hd:(ops[j]?).bind (·.dst) with
  | none=>rfl
  | some t =>
   have hne:d ≠ some t:=fun e=>h t e (by
    refine List.mem_append_right _ ?_
    rw [hg]; simp [hd])
   simp only [put_get hne,htr]
def Live (σ:St):Prop:=∀ x s,σ.val x=some s → ∀ id ∈ s.ids,σ.al id=true
theorem C.rel_ids {m:M} {nv:Nat} {al:Nat → Bool} {c:C} {v:Value} (h:c.rel m nv al v):∀ id ∈ c.ids,al id=true:=by
 cases c <;> simp only [C.ids,List.not_mem_nil,List.mem_singleton,false_imp_iff,implies_true,forall_eq] <;> first | trivial | exact h.1 | skip
 intro id hid
 obtain ⟨p,hp,rfl⟩:=List.mem_map.1 hid
 exact h.1 p hp
theorem Rels.ids {m:M} {nv:Nat} {al:Nat → Bool}:∀ {cs:List C} {vs:List Value},Rels m nv al cs vs → ∀ id ∈ cs.flatMap C.ids,al id=true
 | [],_,_=>by simp
 | c :: cs,[],h=>h.elim
 | c :: cs,v :: vs,h=>fun id hid=>by
  rw [List.flatMap_cons] at hid
  rcases List.mem_append.1 hid with hid | hid
  ·exact C.rel_ids h.1 id hid
  ·exact Rels.ids h.2 id hid
theorem V.rel_ids {m:M} {nv:Nat} {al:Nat → Bool} {c:V} {v:Value} (h:c.rel m nv al v):∀ id ∈ c.ids,al id=true:=by
 cases c with
 | one c=>intro id hid; exact C.rel_ids h id (by simpa [V.ids,V.cells] using hid)
 | agg cs=>obtain ⟨vs,_,hr⟩:=h; exact Rels.ids hr
theorem VRels.ids {m:M} {nv:Nat} {al:Nat → Bool}:∀ {cs:List V} {vs:List Value},VRels m nv al cs vs → ∀ id ∈ cs.flatMap V.ids,al id=true
 | [],_,_=>by simp
 | c :: cs,[],h=>h.elim
 | c :: cs,v :: vs,h=>fun id hid=>by
  rw [List.flatMap_cons] at hid
  rcases List.mem_append.1 hid with hid | hid
  ·exact V.rel_ids h.1 id hid
  ·exact VRels.ids h.2 id hid
theorem SV.rel_ids {m:M} {nv:Nat} {al:Nat → Bool} {s:SV} {v:Value} (h:s.rel m nv al v):∀ id ∈ s.ids,al id=true:=by
 cases s with
 | vl c=>exact V.rel_ids h
 | tup l=>obtain ⟨vs,_,hr⟩:=h; exact VRels.ids hr
theorem Rep.live {w0:World} {m:M} {σ:St} {a:Act} {w:World} (h:Rep w0 m σ a w):Live σ:=fun _ _ hx=>SV.rel_ids (h.val hx)
theorem al_box {σ:St} {id:Nat} (h:σ.al id=true):∃ b,σ.boxes[id]?=some (some b):=by
 unfold St.al at h
 split at h
 ·rename_i b hb; exact ⟨b,hb⟩
 ·cases h
theorem plan_wr {σ:St} {nn nid:Nat} {op:Op} {p:Plan} (hp:plan P T σ nn nid op=.ok p) {id:Nat} {u:Upd} (he:p.eff=.wr id u):touch op=3 ∧ ∃ x ∈ op.operands,∃ s,σ.val x=some s ∧ id ∈ s.ids:=by
 cases op with
 | store t x y =>
  refine ⟨rfl,x,by simp [Op.operands],?_⟩
  simp only [plan] at hp
  split at hp
  ·rename_i id' off' v hx hv
   repeat' split at hp
   all_goals first | (cases hp; done) | skip
   cases hp
   simp only [Eff.wr.injEq] at he
   obtain ⟨rfl,_⟩:=he
   unfold St.cell at hx
   split at hx
   ·rename_i c hc; cases hx; exact ⟨_,hc,by simp [SV.ids,V.ids,V.cells,C.ids]⟩
   ·cases hx
  ·rename_i id' off' i' n' k' x' hx hv
   repeat' split at hp
   all_goals first | (cases hp; done) | skip
   cases hp
   simp only [Eff.wr.injEq] at he
   obtain ⟨rfl,_⟩:=he
   unfold St.cell at hx
   split at hx
   ·rename_i c hc; cases hx; exact ⟨_,hc,by simp [SV.ids,V.ids,V.cells,C.ids]⟩
   ·cases hx
  ·rename_i id' i' k' v hx hv
   repeat' split at hp
   all_goals first | (cases hp; done) | skip
   cases hp
   simp only [Eff.wr.injEq] at he
   obtain ⟨rfl,_⟩:=he
   unfold St.cell at hx
   split at hx
   ·rename_i c hc; cases hx; exact ⟨_,hc,by simp [SV.ids,V.ids,V.cells,C.ids]⟩
   ·cases hx
  ·cases hp
 | call c =>
  exfalso
  simp only [plan] at hp
  repeat' split at hp
  all_goals first | (cases hp; done) | (unfold okP at hp; cases hp; cases he; done) | skip
  all_goals
   cases hp
   cases he
 | binOp op t x y yt =>
  exfalso
  simp only [plan] at hp
  split at hp
  ·split at hp
   ·rename_i q hq
    cases hp
    obtain ⟨id,r,e,n,rfl,rfl,hr,hut,hn,rfl⟩:=rowNil_spec hq
    cases he
   rename_i hnone
   clear hnone
   unfold planBin at hp
   split at hp
   ·simp only [binInt,mkP] at hp
    repeat' split at hp
    all_goals (first | (cases hp; done) | (cases hp; cases he; done))
   all_goals
    try simp only [mkP,okP] at hp
    repeat' split at hp
    all_goals (first | (cases hp; done) | (cases hp; cases he; done))
  ·cases hp
 | buildSlice t len ps =>
  exfalso
  simp only [plan] at hp
  split at hp
  ·rename_i q hq
   cases hp
   obtain ⟨_,_,_,_,_,_,_,_,rfl⟩:=empty_spec hq
   cases he
  ·repeat' split at hp
   all_goals (first | (cases hp; done) | (cases hp; cases he; done))
 | _ =>
  exfalso
  simp only [plan,okP,partC,mkP,loadRow,partP] at hp
  repeat' split at hp
  all_goals (first | (cases hp; done) | (cases hp; cases he; done))
theorem catP_old {σ:St} {nn:Nat} {c:Call} {g:Grow} (h:catP P σ nn (.call c)=some g) {id:Nat} (ho:g.old=some id):touch (.call c)=4 ∧ ∃ x ∈ (Op.call c).operands,∃ s,σ.val x=some s ∧ id ∈ s.ids:=by
 obtain ⟨s,x,t,i,z,v,G⟩:=cat_spec (o:={op:=.call c,type:=0,dst:=none,after:=#[],guard:=none,pos:="" }) h
 have hc:c={callee:=.builtin .append,args:=#[s,x],argTypes:=#[t,t] }:=by
  have:=G.op; injection this
 refine ⟨by rw [hc]; rfl,s,by rw [hc]; simp [Op.operands,Call.operands],?_⟩
 rcases G.old with ⟨h1,_⟩ | ⟨id',r,h1,_,h3,_⟩
 ·rw [h1] at ho; cases ho
 ·rw [h1] at ho
  cases ho
  unfold St.cell at h3
  split at h3
  ·rename_i c' hc'; cases h3; exact ⟨_,hc',by simp [SV.ids,V.ids,V.cells,C.ids]⟩
  ·cases h3
theorem plan_grow {σ:St} {nn nid:Nat} {op:Op} {p:Plan} (hp:plan P T σ nn nid op=.ok p) {old:Option Nat} {b:Box} (he:p.eff=.grow old b) {id:Nat} (ho:old=some id):touch op=4 ∧ ∃ x ∈ op.operands,∃ s,σ.val x=some s ∧ id ∈ s.ids:=by
 cases op with
 | call c =>
  simp only [plan] at hp
  split at hp
  ·cases hp
  ·split at hp
   ·exfalso
    repeat' split at hp
    all_goals first | (cases hp; done) | (unfold okP at hp; cases hp; cases he; done) | (cases hp; cases he; done)
   ·exfalso
    repeat' split at hp
    all_goals first | (cases hp; done) | (cases hp; cases he; done)
   ·exfalso
    repeat' split at hp
    all_goals first | (cases hp; done) | (cases hp; cases he; done)
   ·exfalso
    repeat' split at hp
    all_goals first | (cases hp; done) | (cases hp; cases he; done)
   ·split at hp
    ·rename_i g hg
     cases hp
     cases he
     exact catP_old hg ho
    ·cases hp
   ·cases hp
   ·cases hp
   ·exfalso
    repeat' split at hp
    all_goals first | (cases hp; done) | skip
    all_goals
     cases hp
     cases he
 | binOp op t x y yt =>
  exfalso
  simp only [plan] at hp
  split at hp
  ·split at hp
   ·rename_i q hq
    cases hp
    obtain ⟨id,r,e,n,rfl,rfl,hr,hut,hn,rfl⟩:=rowNil_spec hq
    cases he
   rename_i hnone
   clear hnone
   unfold planBin at hp
   split at hp
   ·simp only [binInt,mkP] at hp
    repeat' split at hp
    all_goals (first | (cases hp; done) | (cases hp; cases he; done))
   all_goals
    try simp only [mkP,okP] at hp
    repeat' split at hp
    all_goals (first | (cases hp; done) | (cases hp; cases he; done))
  ·cases hp
 | buildSlice t len ps =>
  exfalso
  simp only [plan] at hp
  split at hp
  ·rename_i q hq
   cases hp
   obtain ⟨_,_,_,_,_,_,_,_,rfl⟩:=empty_spec hq
   cases he
  ·repeat' split at hp
   all_goals (first | (cases hp; done) | (cases hp; cases he; done))
 | _ =>
  exfalso
  simp only [plan,okP,partC,mkP,loadRow,partP] at hp
  repeat' split at hp
  all_goals (first | (cases hp; done) | (cases hp; cases he; done))
theorem plan_hits {σ:St} {nn nid:Nat} {op:Op} {p:Plan} (hp:plan P T σ nn nid op=.ok p) {id:Nat} (he:hits p.eff id):((touch op=3 ∧ ¬ kills p.eff id) ∨ touch op=4) ∧ ∃ x ∈ op.operands,∃ s,σ.val x=some s ∧ id ∈ s.ids:=by
 cases hc:p.eff with
 | wr id' u =>
  rw [hc] at he
  have he:id'=id:=he
  subst he
  obtain ⟨h1,h2⟩:=plan_wr hp hc
  exact ⟨.inl ⟨h1,fun h=>h⟩,h2⟩
 | grow old b =>
  rw [hc] at he
  obtain ⟨h1,h2⟩:=plan_grow hp hc he
  exact ⟨.inr h1,h2⟩
 | none=>rw [hc] at he; exact he.elim
 | new b=>rw [hc] at he; exact he.elim
 | extv=>rw [hc] at he; exact he.elim
noncomputable def act1 (σ:St) (q:Option Plan) (nid:Nat) (d:Option Nat):St:=match q with | none=>σ.put d undefS | some p=>applyP σ p nid d
theorem noRow_out {bs:List (Option Box)} {id k:Nat} (h:k ≠ id):(noRow bs id)[k]?=bs[k]?:=by
 rw [noRow_def]
 split
 ·exact List.getElem?_set_ne (Ne.symm h)
 ·rfl
theorem boxEff_out {bs:List (Option Box)} {nid:Nat} {e:Eff} {k:Nat} (h1:isNew e=true → k ≠ nid) (h2:∀ id,hits e id → k ≠ id):(boxEff bs nid e)[k]?=bs[k]?:=by
 cases e with
 | new bx=>exact List.getElem?_set_ne (Ne.symm (h1 rfl))
 | wr id u =>
  simp only [boxEff]
  split
  ·exact List.getElem?_set_ne (Ne.symm (h2 _ rfl))
  ·rfl
 | grow old bx =>
  simp only [boxEff]
  rw [List.getElem?_set_ne (Ne.symm (h1 rfl))]
  cases old with
  | none=>rfl
  | some id=>exact noRow_out (h2 id rfl)
 | _=>rfl
theorem upd_sh (b:Box) (u:Upd):(b.upd u).row.map Row.sh=b.row.map Row.sh:=by
 cases u with
 | cells off cs=>rfl
 | row x=>cases hr:b.row with
  | none=>simp [Box.upd,hr]
  | some r=>simp [Box.upd,hr,Row.sh]
theorem boxEff_sh {bs:List (Option Box)} {nid:Nat} {e:Eff} {id:Nat} {b:Box} (hb:bs[id]?=some (some b)) (hn:isNew e=true → id ≠ nid) (hk:¬ kills e id):∃ b',(boxEff bs nid e)[id]?=some (some b') ∧ b'.row.map Row.sh=b.row.map Row.sh:=by
 cases e with
 | new bx=>exact ⟨b,by simp only [boxEff]; rw [List.getElem?_set_ne (Ne.symm (hn rfl))]; exact hb,rfl⟩
 | wr id' u =>
  simp only [boxEff]
  by_cases he:id'=id
  ·subst he
   rw [hb]
   have hl:=(List.getElem?_eq_some_iff.1 hb).1
   exact ⟨b.upd u,by simp [hl],upd_sh b u⟩
  ·refine ⟨b,?_,rfl⟩
   split
   ·rw [List.getElem?_set_ne he]; exact hb
   ·exact hb
 | grow old bx=>exact ⟨b,by rw [boxEff_out hn (fun id' h e=>hk (by subst e; exact h))]; exact hb,rfl⟩
 | _=>exact ⟨b,hb,rfl⟩
def tweak (bs:List (Option Box)) (i:Nat) (f:Box → Box):List (Option Box) :=
 match bs[i]? with
 | some (some b)=>bs.set i (some (f b))
 | _=>bs
theorem tweak_out {bs:List (Option Box)} {i k:Nat} {f:Box → Box} (h:k ≠ i):(tweak bs i f)[k]?=bs[k]?:=by
 unfold tweak
 split
 ·exact List.getElem?_set_ne (Ne.symm h)
 ·rfl
theorem tweak_set {bs:List (Option Box)} {i n:Nat} {f:Box → Box} {x:Option Box} (h:i ≠ n):tweak (bs.set n x) i f=(tweak bs i f).set n x:=by
 unfold tweak
 rw [List.getElem?_set_ne (Ne.symm h)]
 split
 ·exact List.set_comm _ _ (Ne.symm h)
 ·rfl
theorem tweak_tweak {bs:List (Option Box)} {i j:Nat} {f g:Box → Box} (h:i ≠ j):tweak (tweak bs i f) j g=tweak (tweak bs j g) i f:=by
 apply List.ext_getElem?
 intro k
 have hl:∀ (bs:List (Option Box)) i f k,(tweak bs i f)[k]?=if k=i then (match bs[i]? with | some (some b)=>some (some (f b)) | y=>y) else bs[k]?:=by
  intro bs i f k
  by_cases hk:k=i
  ·subst hk
   rw [if_pos rfl]
   unfold tweak
   cases hx:bs[k]? with
   | none=>exact hx
   | some o=>cases o with
    | none=>exact hx
    | some b=>exact List.getElem?_set_self (List.getElem?_eq_some_iff.1 hx).1
  ·rw [if_neg hk,tweak_out hk]
 simp only [hl,h,Ne.symm h,if_false]
 by_cases h1:k=i
 ·subst h1
  simp only [h,if_false,if_true]
 ·by_cases h2:k=j
  ·subst h2; simp only [h1,if_false,if_true]
  ·simp only [h1,h2,if_false]
def effT (bs:List (Option Box)):Eff → List (Option Box)
 | .wr id u=>tweak bs id (·.upd u)
 | .grow (some id) _=>tweak bs id (fun b=>{b with row:=none })
 | _=>bs
def effN (bs:List (Option Box)) (n:Nat):Eff → List (Option Box)
 | .new b=>bs.set n (some b)
 | .grow _ b=>bs.set n (some b)
 | _=>bs
theorem boxEff_two (bs:List (Option Box)) (n:Nat) (e:Eff):boxEff bs n e=effN (effT bs e) n e:=by
 cases e with
 | grow old b=>cases old with
  | none=>rfl
  | some id =>
   show (noRow bs id).set n (some b)=_
   rw [noRow_def]; rfl
 | _=>rfl
theorem effT_tweak {bs:List (Option Box)} {e:Eff} {i:Nat} {f:Box → Box} (h:∀ id,hits e id → id ≠ i):effT (tweak bs i f) e=tweak (effT bs e) i f:=by
 cases e with
 | wr id u=>exact tweak_tweak (Ne.symm (h id rfl))
 | grow old b=>cases old with
  | none=>rfl
  | some id=>exact tweak_tweak (Ne.symm (h id rfl))
 | _=>rfl
theorem effT_comm {bs:List (Option Box)} {e e':Eff} (h:∀ id,hits e id → ∀ id',hits e' id' → id ≠ id'):effT (effT bs e) e'=effT (effT bs e') e:=by
 cases e with
 | wr id u=>exact effT_tweak fun id' h'=>Ne.symm (h id rfl id' h')
 | grow old b=>cases old with
  | none=>rfl
  | some id=>exact effT_tweak fun id' h'=>Ne.symm (h id rfl id' h')
 | _=>rfl
theorem effT_effN {bs:List (Option Box)} {n:Nat} {e e':Eff} (h:isNew e=true → ∀ id,hits e' id → id ≠ n):effT (effN bs n e) e'=effN (effT bs e') n e:=by
 have key:∀ x,isNew e=true → effT (bs.set n x) e'=(effT bs e').set n x:=by
  intro x he
  cases e' with
  | wr id u=>exact tweak_set (h he id rfl)
  | grow old b=>cases old with
   | none=>rfl
   | some id=>exact tweak_set (h he id rfl)
  | _=>rfl
 cases e with
 | new b=>exact key _ rfl
 | grow old b=>exact key _ rfl
 | _=>rfl
theorem effN_comm {bs:List (Option Box)} {n n':Nat} {e e':Eff} (h:isNew e=true → isNew e'=true → n ≠ n'):effN (effN bs n e) n' e'=effN (effN bs n' e') n e:=by
 cases e <;> cases e' <;> first | rfl | exact List.set_comm _ _ (h rfl rfl)
theorem boxEff_comm {bs:List (Option Box)} {n n':Nat} {e e':Eff} (h1:isNew e=true → isNew e'=true → n ≠ n') (h2:isNew e=true → ∀ id,hits e' id → id ≠ n) (h3:isNew e'=true → ∀ id,hits e id → id ≠ n')
  (h4:∀ id,hits e id → ∀ id',hits e' id' → id ≠ id'):boxEff (boxEff bs n e) n' e'=boxEff (boxEff bs n' e') n e:=by
 simp only [boxEff_two]
 rw [effT_effN h2,effT_effN h3,effT_comm h4,effN_comm h1]
theorem astep_cases {i:Nat} {o:Oper} (hi:ops[i]?=some o) {σ σ':St} (h:AStep P T ops nv0 len0 E i σ σ'):∃ q:Option Plan,σ'=act1 σ q (len0 + i) o.dst ∧
  (match q with | none=>guardG ops σ o=.no | some p=>guardG ops σ o=.yes ∧ plan P T σ (nv0 + i * stride) (len0 + i) o.op=.ok p ∧ p.defs.length + p.post.length ≤ stride ∧ Fine T E (nv0 + i * stride) p ∧ (isNew p.eff=true → σ.boxes[len0 + i]?=some none)):=by
 unfold AStep at h
 rw [hi] at h
 rcases h with ⟨h1,h2⟩ | ⟨h1,p,h2,h3,h4,h5,h6⟩
 ·exact ⟨none,h2,h1⟩
 ·exact ⟨some p,h6,h1,h2,h3,h4,h5⟩
theorem astep_of {i:Nat} {o:Oper} (hi:ops[i]?=some o) {σ:St} (q:Option Plan)
  (h:match q with | none=>guardG ops σ o=.no | some p=>guardG ops σ o=.yes ∧ plan P T σ (nv0 + i * stride) (len0 + i) o.op=.ok p ∧ p.defs.length + p.post.length ≤ stride ∧ Fine T E (nv0 + i * stride) p ∧ (isNew p.eff=true → σ.boxes[len0 + i]?=some none)):AStep P T ops nv0 len0 E i σ (act1 σ q (len0 + i) o.dst):=by
 unfold AStep
 rw [hi]
 cases q with
 | none=>exact .inl ⟨h,rfl⟩
 | some p=>exact .inr ⟨h.1,p,h.2.1,h.2.2.1,h.2.2.2.1,h.2.2.2.2,rfl⟩
def qEff:Option Plan → Eff | none=>.none | some p=>p.eff
def qVal:Option Plan → SV | none=>undefS | some p=>p.val
theorem act1_eq (σ:St) (q:Option Plan) (nid:Nat) (d:Option Nat):act1 σ q nid d=({σ with boxes:=boxEff σ.boxes nid (qEff q) }:St).put d (qVal q):=by
 cases q with
 | none=>rfl
 | some p=>exact applyP_eq ..
theorem act1_val {σ:St} {q:Option Plan} {nid:Nat} {d:Option Nat} {x:Operand} (h:∀ t,d=some t → x ≠ .tmp t):(act1 σ q nid d).val x=σ.val x:=by
 rw [act1_eq,put_val h]; cases x <;> rfl
theorem act1_kn (σ:St) (q:Option Plan) (nid:Nat) (d:Option Nat):(act1 σ q nid d).kn=σ.kn:=by rw [act1_eq]; exact (put_same _ _ _).2.2.1
theorem act1_boxes (σ:St) (q:Option Plan) (nid:Nat) (d:Option Nat):(act1 σ q nid d).boxes=boxEff σ.boxes nid (qEff q):=by rw [act1_eq]; exact (put_same _ _ _).2.1
theorem act1_guard {σ:St} {q:Option Plan} {nid:Nat} {d:Option Nat} {o:Oper} (h:∀ t,d=some t → t ∉ o.looksAt ops):guardG ops (act1 σ q nid d) o=guardG ops σ o:=by
 rw [act1_eq,guardG_put h]; rfl
theorem act1_plan {σ:St} {q:Option Plan} {nid nn nid':Nat} {x y:Oper} (hl:Live σ) (h:∀ t,x.dst=some t → t ∉ y.looksAt ops)
  (h1:isNew (qEff q)=true → σ.boxes[nid]?=some none) (h2:∀ id,hits (qEff q) id → (touch y.op=0 ∧ ¬ kills (qEff q) id) ∨ ∀ z ∈ y.op.operands,∀ s,σ.val z=some s → id ∉ s.ids):plan P T (act1 σ q nid x.dst) nn nid' y.op=plan P T σ nn nid' y.op:=by
 have hv:∀ z ∈ y.op.operands,(act1 σ q nid x.dst).val z=σ.val z:=fun z hz=>act1_val fun t ht he=>h t ht (by
  subst he; exact List.mem_append_left _ (List.mem_filterMap.2 ⟨.tmp t,by simpa using hz,rfl⟩))
 refine plan_congr _ hv (act1_kn ..) (fun z hz s hs id hid=>?_) fun ht z hz s hs id hid=>?_
 ·rw [hv z hz] at hs
  obtain ⟨b,hb⟩:=al_box (hl z s hs id hid)
  obtain ⟨b',h3,h4⟩:=boxEff_sh (nid:=nid) (e:=qEff q) hb (fun hn e=>by subst e; rw [h1 hn] at hb; cases hb) (fun hk=>by
   have hh:hits (qEff q) id:=by
    cases hq:qEff q with
    | grow old b=>rw [hq] at hk; exact hk
    | _=>rw [hq] at hk; exact hk.elim
   rcases h2 _ hh with h5 | h5
   ·exact h5.2 hk
   ·exact h5 z hz s hs hid)
  rw [← act1_boxes (d:=x.dst)] at h3
  simp only [St.row,St.box_def,h3,hb]
  exact h4
 rw [hv z hz] at hs
 obtain ⟨b,hb⟩:=al_box (hl z s hs id hid)
 simp only [St.box_def]
 rw [act1_boxes,boxEff_out]
 ·intro hn e; subst e; rw [h1 hn] at hb; cases hb
 ·intro id' he e
  rcases h2 _ he with h3 | h3
  ·exact ht h3.1
  ·exact h3 z hz s hs (e ▸ hid)
theorem calm_spec {x y:Oper} (h:calm x y=true):(touch x.op=3 → touch y.op=0) ∧ (touch y.op=3 → touch x.op=0) ∧ touch x.op ≠ 4 ∧ touch y.op ≠ 4:=by
 unfold calm at h
 simp only [Bool.not_eq_true',Bool.or_eq_false_iff,Bool.and_eq_false_iff,beq_eq_false_iff_ne,bne_eq_false_iff_eq] at h
 exact ⟨fun e=>h.1.1.1.resolve_left fun n=>n e,fun e=>h.1.1.2.resolve_left fun n=>n e,h.1.2,h.2⟩
def Sep (σ:St) (x y:Oper):Prop:=∀ zx ∈ x.op.operands,∀ s,σ.val zx=some s → ∀ id ∈ s.ids,∀ zy ∈ y.op.operands,∀ s',σ.val zy=some s' → id ∉ s'.ids
theorem set_some {bs:List (Option Box)} {i n:Nat} {b x:Box} (h:bs[i]?=some (some b)):∃ b',(bs.set n (some x))[i]?=some (some b'):=by
 by_cases hn:n=i
 ·subst hn; exact ⟨x,List.getElem?_set_self (List.getElem?_eq_some_iff.1 h).1⟩
 ·exact ⟨b,by rw [List.getElem?_set_ne hn]; exact h⟩
theorem tweak_some {bs:List (Option Box)} {i n:Nat} {b:Box} {f:Box → Box} (h:bs[i]?=some (some b)):∃ b',(tweak bs n f)[i]?=some (some b'):=by
 unfold tweak
 split
 ·exact set_some h
 ·exact ⟨b,h⟩
theorem boxEff_some {bs:List (Option Box)} {nid i:Nat} {e:Eff} {b:Box} (h:bs[i]?=some (some b)):∃ b',(boxEff bs nid e)[i]?=some (some b'):=by
 rw [boxEff_two]
 have h1:∃ b',(effT bs e)[i]?=some (some b'):=by
  cases e with
  | wr id u=>exact tweak_some h
  | grow old b=>cases old with
   | none=>exact ⟨_,h⟩
   | some id=>exact tweak_some h
  | _=>exact ⟨_,h⟩
 obtain ⟨b1,h1⟩:=h1
 cases e with
 | new b=>exact set_some h1
 | grow old b=>exact set_some h1
 | _=>exact ⟨_,h1⟩
theorem exchange {i j:Nat} {oi oj:Oper} (hij:i ≠ j) (hi:ops[i]?=some oi) (hj:ops[j]?=some oj) (hap:oi.apart ops oj=true) {σ σi σij:St} (hc:calm oi oj=true ∨ Sep σ oi oj) (hl:Live σ)
  (h1:AStep P T ops nv0 len0 E i σ σi) (h2:AStep P T ops nv0 len0 E j σi σij):∃ σj,AStep P T ops nv0 len0 E j σ σj ∧ AStep P T ops nv0 len0 E i σj σij:=by
 obtain ⟨a1,a2,a3⟩:=Oper.apart_spec hap
 obtain ⟨qi,rfl,k1⟩:=astep_cases hi h1
 obtain ⟨qj,rfl,k2⟩:=astep_cases hj h2
 have newi:isNew (qEff qi)=true → σ.boxes[len0 + i]?=some none:=fun hn=>by
  cases qi with
  | none=>cases hn
  | some p=>exact k1.2.2.2.2 hn
 have wri:∀ id,hits (qEff qi) id → ((touch oi.op=3 ∧ ¬ kills (qEff qi) id) ∨ touch oi.op=4) ∧ σ.al id=true ∧ ∃ x ∈ oi.op.operands,∃ s,σ.val x=some s ∧ id ∈ s.ids:=fun id he=>by
  cases qi with
  | none=>exact he.elim
  | some p =>
   obtain ⟨g1,x,hx,s,hs,hid⟩:=plan_hits k1.2.1 he
   exact ⟨g1,hl x s hs id hid,x,hx,s,hs,hid⟩
 have hplj:∀ nn nid',plan P T (act1 σ qi (len0 + i) oi.dst) nn nid' oj.op=plan P T σ nn nid' oj.op:=fun nn nid'=>act1_plan hl a1 newi fun id he=>by
  obtain ⟨g1,_,x,hx,s,hs,hid⟩:=wri _ he
  rcases hc with hc | hc
  ·rcases g1 with g1 | g1
   ·exact .inl ⟨(calm_spec hc).1 g1.1,g1.2⟩
   ·exact absurd g1 (calm_spec hc).2.2.1
  ·exact .inr fun z hz s' hs'=>hc x hx s hs id hid z hz s' hs'
 have hgj:guardG ops (act1 σ qi (len0 + i) oi.dst) oj=guardG ops σ oj:=act1_guard a1
 have wrj:∀ id,hits (qEff qj) id → ((touch oj.op=3 ∧ ¬ kills (qEff qj) id) ∨ touch oj.op=4) ∧ σ.al id=true ∧ ∃ x ∈ oj.op.operands,∃ s,σ.val x=some s ∧ id ∈ s.ids:=fun id he=>by
  cases qj with
  | none=>exact he.elim
  | some p =>
   have k3:=k2.2.1
   rw [hplj] at k3
   obtain ⟨g1,x,hx,s,hs,hid⟩:=plan_hits k3 he
   exact ⟨g1,hl x s hs id hid,x,hx,s,hs,hid⟩
 have newj:isNew (qEff qj)=true → σ.boxes[len0 + j]?=some none:=fun hn=>by
  cases qj with
  | none=>cases hn
  | some p =>
   have k3:=k2.2.2.2.2 hn
   rw [act1_boxes] at k3
   rwa [boxEff_out (fun _=>by omega) (fun id he e=>?_)] at k3
   obtain ⟨b,hb⟩:=al_box (wri _ he).2.1
   obtain ⟨b',hb'⟩:=boxEff_some (nid:=len0 + i) (e:=qEff qi) hb
   rw [e,hb'] at k3; cases k3
 have ne:∀ {k id:Nat},σ.boxes[k]?=some none → σ.al id=true → id ≠ k:=fun hk hal e=>by
  obtain ⟨b,hb⟩:=al_box hal
  rw [e,hk] at hb; cases hb
 refine ⟨act1 σ qj (len0 + j) oj.dst,astep_of hj qj ?_,?_⟩
 ·cases qj with
  | none=>exact hgj.symm.trans k2
  | some p=>exact ⟨hgj.symm.trans k2.1,(hplj _ _).symm.trans k2.2.1,k2.2.2.1,k2.2.2.2.1,newj⟩
 ·have hpli:∀ nn nid',plan P T (act1 σ qj (len0 + j) oj.dst) nn nid' oi.op=plan P T σ nn nid' oi.op:=fun nn nid'=>act1_plan hl a3 newj fun id he=>by
   obtain ⟨g1,_,x,hx,s,hs,hid⟩:=wrj _ he
   rcases hc with hc | hc
   ·rcases g1 with g1 | g1
    ·exact .inl ⟨(calm_spec hc).2.1 g1.1,g1.2⟩
    ·exact absurd g1 (calm_spec hc).2.2.2
   ·exact .inr fun z hz s' hs' hid'=>hc z hz s' hs' id hid' x hx s hs hid
  have hgi:guardG ops (act1 σ qj (len0 + j) oj.dst) oi=guardG ops σ oi:=act1_guard a3
  have hfin:act1 (act1 σ qi (len0 + i) oi.dst) qj (len0 + j) oj.dst=act1 (act1 σ qj (len0 + j) oj.dst) qi (len0 + i) oi.dst:=by
   have hb:boxEff (boxEff σ.boxes (len0 + i) (qEff qi)) (len0 + j) (qEff qj)=boxEff (boxEff σ.boxes (len0 + j) (qEff qj)) (len0 + i) (qEff qi) :=
    boxEff_comm (fun _ _=>by omega) (fun hn id he=>ne (newi hn) (wrj _ he).2.1) (fun hn id he=>ne (newj hn) (wri _ he).2.1)
     (fun id he id' he'=>by
      obtain ⟨g1,_,x,hx,s,hs,hid⟩:=wri _ he
      obtain ⟨g2,_,x',hx',s',hs',hid'⟩:=wrj _ he'
      rcases hc with hc | hc
      ·obtain ⟨c1,c2,c3,c4⟩:=calm_spec hc
       exfalso
       rcases g1 with g1 | g1
       ·have:=c1 g1.1
        rcases g2 with g2 | g2
        ·rw [g2.1] at this; cases this
        ·exact c4 g2
       ·exact c3 g1
      ·intro e; subst e; exact hc x hx s hs _ hid x' hx' s' hs' hid')
   rw [act1_eq (act1 σ qi _ _),act1_boxes,hb,act1_eq (act1 σ qj _ _),act1_boxes,act1_eq σ qi,act1_eq σ qj]
   simp only [put_boxes]
   rw [put_comm _ _ _ a2]
  rw [hfin]
  refine astep_of hi qi ?_
  cases qi with
  | none=>exact hgi.trans k1
  | some p =>
   refine ⟨hgi.trans k1.1,(hpli _ _).trans k1.2.1,k1.2.2.1,k1.2.2.2.1,fun hn=>?_⟩
   rw [act1_boxes,boxEff_out (fun _=>by omega) (fun id he=>Ne.symm (ne (newi hn) (wrj _ he).2.1))]
   exact newi hn
end
end Go.Sx

namespace Go.Sx
open Go Go.RowKit
section
variable {P:Program} {T:List K} {ops:Array Oper} {nv0 len0:Nat} {E:Nat → Int} {w0:World}
theorem step_exec (hT:∀ (g:Nat) κ,T[g]?=some κ → κ.ok P) {m:M} {σ σ':St} {a:Act} {w:World} {i:Nat} {o:Oper} (hi:ops[i]?=some o) (h:Rep w0 m σ a w) (hE:m.env=E) (hnv:nv0 + ops.size * stride ≤ σ.nv)
  (hs:AStep P T ops nv0 len0 E i σ σ') {K:Act → World → Prop} {Q:Exit → Act → World → Prop}
  (hK:∀ m' a' w',m'.env=E → MExt m σ.nv σ.al m' σ'.nv σ'.al → Rep w0 m' σ' a' w' → σ'.nv=σ.nv → K a' w'):if Region.wanted o (yielded ops a.tmps) then o.wp P a w K Q else K (a.put o.dst undef) w:=by
 have hlt:=(Array.getElem?_eq_some_iff.1 hi).1
 have hmul:i * stride + stride ≤ ops.size * stride:=by
  have:=Nat.mul_le_mul_right stride (show i + 1 ≤ ops.size from hlt)
  rwa [Nat.add_mul,Nat.one_mul] at this
 obtain ⟨g1,g2⟩:=guard_ok h (all:=ops) (o:=o)
 unfold AStep at hs
 rw [hi] at hs
 rcases hs with ⟨k1,rfl⟩ | ⟨k1,p,k2,k3,k4,k5,rfl⟩
 ·rw [if_neg (by rw [g2 k1]; simp)]
  have hp:=h.put (s:=undefS) (v:=undef) ⟨[],rfl,trivial⟩ o.dst
  have hal:(σ.put o.dst undefS).al=σ.al:=by funext id; unfold St.al; rw [(put_same _ _ _).2.1]
  have hn:(σ.put o.dst undefS).nv=σ.nv:=(put_same _ _ _).1
  exact hK m _ _ hE (by rw [hal,hn]; exact MExt.refl ..) hp hn
 ·rw [if_pos (g1 k1)]
  refine (op_exec hT h k2 k5 (by rw [hE]; exact k4.defs) (by rw [hE]; exact k4.post) (by omega) (by rw [hE]; exact k4.nz) (by rw [hE]; exact k4.req) fun m' a' w' e1 e2 e3=>?_)
  have hn:(applyP σ p (len0 + i) o.dst).nv=σ.nv:=(applyP_len _ _ _ _).2.1
  exact hK m' a' w' (e1.trans hE) (by rw [hn]; exact e2) e3 hn
def Has (nv1:Nat) (E:Nat → Int) (σ:St):Prop:=∃ (w0:World) (m:M) (a:Act) (w:World),m.env=E ∧ Rep w0 m σ a w ∧ σ.nv=nv1
theorem has_step (hT:∀ (g:Nat) κ,T[g]?=some κ → κ.ok P) {i:Nat} {nv1:Nat} (hnv:nv0 + ops.size * stride ≤ nv1) {o:Oper} (hi:ops[i]?=some o) {σ σ':St} (h:Has nv1 E σ) (hs:AStep P T ops nv0 len0 E i σ σ'):Has nv1 E σ':=by
 obtain ⟨w0,m,a,w,e1,e2,e3⟩:=h
 have:=step_exec hT hi e2 e1 (by omega) hs (K:=fun _ _=>Has nv1 E σ') (Q:=fun _ _ _=>False) fun m' a' w' h1 _ h3 h4=>⟨w0,m',a',w',h1,h3,h4.trans e3⟩
 split at this
 ·obtain ⟨_,_,h⟩:=wp_exists this; exact h
 ·exact this
def anyS (P:Program) (T:List K) (ops:Array Oper) (nv0 len0:Nat) (E:Nat → Int) (Q:St → Prop):Nat → Array Bool → St → Prop
 | 0,listed,σ=>Region.ready .any ops listed=[] ∧ Q σ
 | fuel + 1,listed,σ =>
  (Region.ready .any ops listed=[] → Q σ) ∧
  ∀ i ∈ Region.ready .any ops listed,∃ σ',AStep P T ops nv0 len0 E i σ σ' ∧ anyS P T ops nv0 len0 E Q fuel (listed.setIfInBounds i true) σ'
theorem ready_some {md:Region.Mode} {i:Nat} {listed:Array Bool} (h:i ∈ Region.ready md ops listed):∃ o,ops[i]?=some o:=by
 obtain ⟨_,o,ho,_⟩:=mem_ready.1 h; exact ⟨o,ho⟩
theorem calmAll_spec {i j:Nat} {oi oj:Oper} (h:calmAll ops.toList=true) (hij:j ≠ i) (hi:ops[i]?=some oi) (hj:ops[j]?=some oj)
  (h1:∀ e ∈ oj.after,Region.binds .any e=true → e.on ≠ i) (h2:∀ e ∈ oi.after,Region.binds .any e=true → e.on ≠ j):calm oi oj=true:=by
 unfold calmAll at h
 simp only [List.all_eq_true] at h
 have hm:∀ {k:Nat} {o:Oper},ops[k]?=some o → (o,k) ∈ ops.toList.zipIdx:=fun {k o} hk=>by
  rw [List.mem_zipIdx_iff_getElem?]; simpa using hk
 have:=h _ (hm hi) _ (hm hj)
 have no:∀ {x:Nat} {y:Oper},(∀ e ∈ y.after,Region.binds .any e=true → e.on ≠ x) → ordered x y=false:=fun {x y} hh=>by
  unfold ordered
  rw [Bool.eq_false_iff]
  intro hany
  obtain ⟨e,he,hb⟩:=Array.any_eq_true'.1 hany
  simp only [Bool.and_eq_true,beq_iff_eq] at hb
  exact hh e he hb.1 hb.2
 rw [no h1,no h2] at this
 simp only [Bool.or_false,Bool.or_eq_true,beq_iff_eq] at this
 rcases this with this | this
 ·exact absurd this.symm hij
 ·exact this
theorem act1_tmps {σ:St} {q:Option Plan} {nid:Nat} {d:Option Nat} {t:Nat} (h:d ≠ some t):(act1 σ q nid d).tmps[t]?=σ.tmps[t]?:=by rw [act1_eq,put_get h]
theorem act1_gl (σ:St) (q:Option Plan) (nid:Nat) (d:Option Nat):(act1 σ q nid d).gl=σ.gl:=by rw [act1_eq]; exact (put_same _ _ _).2.2.2.1
theorem step_tmps {i:Nat} {o:Oper} (hi:ops[i]?=some o) {σ σ':St} (h:AStep P T ops nv0 len0 E i σ σ') {t:Nat} (ht:o.dst ≠ some t):σ'.tmps[t]?=σ.tmps[t]? ∧ σ'.gl=σ.gl:=by
 obtain ⟨q,rfl,_⟩:=astep_cases hi h
 exact ⟨act1_tmps ht,act1_gl ..⟩
theorem slots {σ':St} {t:Nat}:∀ (fuel:Nat) (listed:Array Bool) (σ:St),anyS P T ops nv0 len0 E (fun s=>s=σ') fuel listed σ → (∀ (k:Nat) o,ops[k]?=some o → listed.getD k true=false → o.dst ≠ some t) → σ.tmps[t]?=σ'.tmps[t]?
 | 0,_,σ,h,_=>by rw [h.2]
 | fuel + 1,listed,σ,h,ht=>by
  cases hr:Region.ready .any ops listed with
  | nil=>rw [h.1 hr]
  | cons i r =>
   have hi:i ∈ Region.ready .any ops listed:=by rw [hr]; exact List.mem_cons_self ..
   obtain ⟨σ2,k1,k2⟩:=h.2 i hi
   obtain ⟨hun,o,ho,_⟩:=mem_ready.1 hi
   have h1:=(step_tmps ho k1 (ht i o ho hun)).1
   rw [← h1]
   refine slots fuel _ σ2 k2 fun k ok hk hku=>ht k ok hk ?_
   by_cases hik:i=k
   ·subst hik; exact hun
   ·rw [getD_set_ne true hik] at hku; exact hku
theorem gl_same {σ':St}:∀ (fuel:Nat) (listed:Array Bool) (σ:St),anyS P T ops nv0 len0 E (fun s=>s=σ') fuel listed σ → σ.gl=σ'.gl
 | 0,_,σ,h=>by rw [h.2]
 | fuel + 1,listed,σ,h=>by
  cases hr:Region.ready .any ops listed with
  | nil=>rw [h.1 hr]
  | cons i r =>
   have hi:i ∈ Region.ready .any ops listed:=by rw [hr]; exact List.mem_cons_self ..
   obtain ⟨σ2,k1,k2⟩:=h.2 i hi
   obtain ⟨_,o,ho,_⟩:=mem_ready.1 hi
   obtain ⟨q,rfl,_⟩:=astep_cases ho k1
   have:=gl_same fuel _ _ k2
   rw [act1_gl] at this
   exact this
theorem val_same {σ σ':St} (hg:σ.gl=σ'.gl) {z:Operand} (hz:∀ t,z=.tmp t → σ.tmps[t]?=σ'.tmps[t]?):σ.val z=σ'.val z:=by
 cases z with
 | tmp t=>simp only [St.val,St.get_def,List.getD_eq_getElem?_getD,hz t rfl]
 | global g=>simp only [St.val,hg]
 | _=>rfl
theorem tidy_spec (h:tidy ops.toList=true) {k j t:Nat} {ok oj:Oper} (hk:ops[k]?=some ok) (hj:ops[j]?=some oj) (hd:ok.dst=some t) (hz:.tmp t ∈ oj.op.operands):ordered k oj=true:=by
 unfold tidy at h
 simp only [List.all_eq_true] at h
 have hm:∀ {k:Nat} {o:Oper},ops[k]?=some o → (o,k) ∈ ops.toList.zipIdx:=fun {k o} hk=>by
  rw [List.mem_zipIdx_iff_getElem?]; simpa using hk
 have h1:=h _ (hm hk)
 simp only [hd,List.all_eq_true] at h1
 have h2:=h1 _ (hm hj)
 have h3:oj.op.operands.any (isTmp t)=true:=Array.any_eq_true'.2 ⟨_,hz,by simp [isTmp]⟩
 simp only [h3,Bool.not_true,Bool.false_or] at h2
 exact h2
def Closed (ops:Array Oper) (listed:Array Bool):Prop:=∀ (i:Nat) oi,listed.getD i false=true → ops[i]?=some oi → ∀ e ∈ oi.after,Region.binds .any e=true → listed.getD e.on false=true
theorem getD_set_true {listed:Array Bool} {i j:Nat} (h:listed.getD j false=true):(listed.setIfInBounds i true).getD j false=true:=by
 by_cases hij:i=j
 ·subst hij
  have hlt:i < listed.size:=by
   by_cases hc:i < listed.size
   ·exact hc
   ·rw [Array.getD_eq_getD_getElem?,Array.getElem?_eq_none (by omega)] at h; cases h
  simp [Array.getD_eq_getD_getElem?,hlt]
 ·simp only [Array.getD_eq_getD_getElem?,Array.getElem?_setIfInBounds] at h ⊢
  rw [if_neg hij]; exact h
theorem Closed.set {listed:Array Bool} (h:Closed ops listed) {i:Nat} (hi:i ∈ Region.ready .any ops listed):Closed ops (listed.setIfInBounds i true):=by
 intro j oj hj hoj e he hb
 by_cases hij:j=i
 ·subst hij
  obtain ⟨_,o',ho',hall⟩:=mem_ready.1 hi
  rw [hoj] at ho'; cases ho'
  exact getD_set_true (hall e he hb)
 ·refine getD_set_true (h j oj ?_ hoj e he hb)
  simp only [Array.getD_eq_getD_getElem?,Array.getElem?_setIfInBounds] at hj ⊢
  rw [if_neg (by omega)] at hj; exact hj
theorem before_listed {listed:Array Bool} (hc:Closed ops listed) {x:Nat}:∀ (n:Nat) (y:Oper),(∀ e ∈ y.after,Region.binds .any e=true → listed.getD e.on false=true) → before ops.toList n x y=true → listed.getD x false=true
 | 0,y,h,hb=>by
  unfold before ordered at hb
  obtain ⟨e,he,hbe⟩:=Array.any_eq_true'.1 hb
  simp only [Bool.and_eq_true,beq_iff_eq] at hbe
  rw [← hbe.2]; exact h e he hbe.1
 | n + 1,y,h,hb=>by
  unfold before at hb
  rcases Bool.or_eq_true_iff.1 hb with hb | hb
  ·unfold ordered at hb
   obtain ⟨e,he,hbe⟩:=Array.any_eq_true'.1 hb
   simp only [Bool.and_eq_true,beq_iff_eq] at hbe
   rw [← hbe.2]; exact h e he hbe.1
  ·obtain ⟨e,he,hbe⟩:=Array.any_eq_true'.1 hb
   rw [Bool.and_eq_true] at hbe
   obtain ⟨h1,h2⟩:=hbe
   have hl:=h e he h1
   cases ho:ops.toList[e.on]? with
   | none=>rw [ho] at h2; cases h2
   | some o =>
    rw [ho] at h2
    exact before_listed hc n o (hc e.on o hl (by simpa using ho)) h2
theorem pairsOk_spec {σ':St} {i j:Nat} {oi oj:Oper} (h:pairsOk σ' ops.toList=true) (hij:j ≠ i) (hi:ops[i]?=some oi) (hj:ops[j]?=some oj)
  (h1:∀ e ∈ oj.after,Region.binds .any e=true → e.on ≠ i) (h2:∀ e ∈ oi.after,Region.binds .any e=true → e.on ≠ j) (h3:before ops.toList 3 i oj=false) (h4:before ops.toList 3 j oi=false):calm oi oj=true ∨ sepB σ' oi oj=true:=by
 unfold pairsOk at h
 simp only [List.all_eq_true] at h
 have hm:∀ {k:Nat} {o:Oper},ops[k]?=some o → (o,k) ∈ ops.toList.zipIdx:=fun {k o} hk=>by
  rw [List.mem_zipIdx_iff_getElem?]; simpa using hk
 have:=h _ (hm hi) _ (hm hj)
 have no:∀ {x:Nat} {y:Oper},(∀ e ∈ y.after,Region.binds .any e=true → e.on ≠ x) → ordered x y=false:=fun {x y} hh=>by
  unfold ordered
  rw [Bool.eq_false_iff]
  intro hany
  obtain ⟨e,he,hb⟩:=Array.any_eq_true'.1 hany
  simp only [Bool.and_eq_true,beq_iff_eq] at hb
  exact hh e he hb.1 hb.2
 rw [no h1,no h2] at this
 simp only [h3,h4,Bool.or_false,Bool.or_eq_true,beq_iff_eq] at this
 rcases this with (this | this) | this
 ·exact absurd this.symm hij
 ·exact .inl this
 ·exact .inr this
theorem sepB_spec {σ σ':St} {x y:Oper} (h:sepB σ' x y=true) (hx:∀ z ∈ x.op.operands,σ.val z=σ'.val z) (hy:∀ z ∈ y.op.operands,σ.val z=σ'.val z):Sep σ x y:=by
 intro zx hzx s hs id hid zy hzy s' hs' hid'
 rw [hx zx hzx] at hs
 rw [hy zy hzy] at hs'
 unfold sepB at h
 have h1:=Array.all_eq_true'.1 h zx hzx
 simp only [List.all_eq_true,idsOf,hs] at h1
 have h2:=Array.all_eq_true'.1 (h1 id hid) zy hzy
 simp only [hs',Bool.not_eq_true',List.contains_eq_mem,decide_eq_false_iff_not] at h2
 exact h2 hid'
theorem anyS_first (hT:∀ (g:Nat) κ,T[g]?=some κ → κ.ok P) {nv1:Nat} (hnv:nv0 + ops.size * stride ≤ nv1) {σ':St} (hcalm:allOk σ' ops=true) {i:Nat} {oi:Oper} (hi:ops[i]?=some oi) :
  ∀ (fuel:Nat) (listed:Array Bool) (σ σi:St),
   (∀ j oj,ops[j]?=some oj → j ≠ i → listed.getD j true=false → (∀ e ∈ oj.after,Region.binds .any e=true → e.on ≠ i) → oi.apart ops oj=true) →
   i ∈ Region.ready .any ops listed → Closed ops listed → Has nv1 E σ → AStep P T ops nv0 len0 E i σ σi →
   anyS P T ops nv0 len0 E (fun s=>s=σ') fuel (listed.setIfInBounds i true) σi → anyS P T ops nv0 len0 E (fun s=>s=σ') (fuel + 1) listed σ:=by
 intro fuel
 induction fuel with
 | zero =>
  intro listed σ σi _ hr _ _ hy H
  refine ⟨fun h=>(by rw [h] at hr; cases hr),fun j hj=>?_⟩
  by_cases hji:j=i
  ·subst hji; exact ⟨_,hy,H⟩
  ·have:=ready_mono hj hji
   rw [H.1] at this
   cases this
 | succ fuel ih =>
  intro listed σ σi hfree hr hC hR hy H
  refine ⟨fun h=>(by rw [h] at hr; cases hr),fun j hj=>?_⟩
  by_cases hji:j=i
  ·subst hji; exact ⟨_,hy,H⟩
  ·obtain ⟨σij,h1,h2⟩:=H.2 j (ready_mono hj hji)
   obtain ⟨hjun,oj,hoj,hall⟩:=mem_ready.1 hj
   have hnot:∀ {x y:Nat} {oy:Oper},listed.getD x true=false → (∀ e ∈ oy.after,Region.binds .any e=true → listed.getD e.on false=true) → ∀ e ∈ oy.after,Region.binds .any e=true → e.on ≠ x:=fun {x y oy} h0 hall e he hb heq=>by
    have h1:=hall e he hb
    rw [heq] at h1
    rcases Nat.lt_or_ge x listed.size with h' | h'
    ·simp [h'] at h0 h1; rw [h0] at h1; cases h1
    ·simp [Array.getElem?_eq_none h'] at h1
   have hnl:∀ {x:Nat},listed.getD x true=false → ¬ listed.getD x false=true:=fun {x} h0 h1=>by
    rcases Nat.lt_or_ge x listed.size with h' | h'
    ·simp [h'] at h0 h1; rw [h0] at h1; cases h1
    ·simp [Array.getElem?_eq_none h'] at h1
   obtain ⟨hiun,oi',hoi',halli⟩:=mem_ready.1 hr
   rw [hi] at hoi'; cases hoi'
   have same:∀ (y:Oper) (yi:Nat),ops[yi]?=some y → (∀ e ∈ y.after,Region.binds .any e=true → listed.getD e.on false=true) → (htidy:tidy ops.toList=true:=by assumption) → ∀ z ∈ y.op.operands,σ.val z=σ'.val z:=by
    intro y yi hy' hally htidy z hz
    have hgl:σ.gl=σ'.gl:=by
     obtain ⟨q,hq,_⟩:=astep_cases hi hy
     have:=gl_same _ _ _ H
     rw [hq,act1_gl] at this
     exact this
    refine val_same hgl fun t ht=>?_
    subst ht
    have hno:∀ (k:Nat) o,ops[k]?=some o → listed.getD k true=false → o.dst ≠ some t:=fun k o hk hku hd=>by
     have:=tidy_spec htidy hk hy' hd hz
     unfold ordered at this
     obtain ⟨e,he,hbe⟩:=Array.any_eq_true'.1 this
     simp only [Bool.and_eq_true,beq_iff_eq] at hbe
     exact hnot (y:=yi) hku hally e he hbe.1 hbe.2
    rw [← (step_tmps hi hy (hno i oi hi hiun)).1]
    refine slots _ _ _ H fun k o hk hku=>hno k o hk ?_
    by_cases hik:i=k
    ·subst hik; exact hiun
    ·rw [getD_set_ne true hik] at hku; exact hku
   have n1:=hnot (y:=j) hiun hall
   have n2:=hnot (y:=i) hjun halli
   have hap:=hfree j oj hoj hji hjun n1
   have hpair:calm oi oj=true ∨ Sep σ oi oj:=by
    unfold allOk at hcalm
    rw [Bool.or_eq_true,Bool.and_eq_true] at hcalm
    rcases hcalm with hcalm | ⟨htidy,hpairs⟩
    ·exact .inl (calmAll_spec hcalm hji hi hoj n1 n2)
    ·rcases pairsOk_spec hpairs hji hi hoj n1 n2 (Bool.eq_false_iff.2 fun h=>hnl hiun (before_listed hC 3 oj hall h)) (Bool.eq_false_iff.2 fun h=>hnl hjun (before_listed hC 3 oi halli h)) with h | h
     ·exact .inl h
     ·refine .inr (sepB_spec h ?_ ?_)
      ·exact same oi i hi halli
      ·exact same oj j hoj hall
   obtain ⟨σj,k1,k2⟩:=exchange (Ne.symm hji) hi hoj hap hpair (by obtain ⟨_,_,_,_,_,hr,_⟩:=hR; exact hr.live) hy h1
   have hfree':∀ k ok,ops[k]?=some ok → k ≠ i → (listed.setIfInBounds j true).getD k true=false →
     (∀ e ∈ ok.after,Region.binds .any e=true → e.on ≠ i) → oi.apart ops ok=true:=fun k ok hk hki hun hno=>by
    refine hfree k ok hk hki ?_ hno
    by_cases hjk:j=k
    ·subst hjk; exact hjun
    ·rw [getD_set_ne true hjk] at hun; exact hun
   refine ⟨σj,k1,ih (listed.setIfInBounds j true) σj σij hfree' (ready_mono hr (Ne.symm hji)) (hC.set hj) (has_step hT hnv hoj hR k1) k2 ?_⟩
   rw [Array.setIfInBounds_comm _ _ hji]
   exact h2
theorem anyS_lex (hT:∀ (g:Nat) κ,T[g]?=some κ → κ.ok P) {nv1:Nat} (hnv:nv0 + ops.size * stride ≤ nv1) {σ':St} (hcalm:allOk σ' ops=true):∀ (l:List Oper) (k:Nat) (listed:Array Bool) (σ:St),(∀ j,l[j]?=ops[k + j]?) →
  Region.lexFrom .any ops l.length k listed=true → Closed ops listed → Has nv1 E σ → Lex P T ops nv0 len0 E l k σ σ' → anyS P T ops nv0 len0 E (fun s=>s=σ') l.length listed σ
 | [],_,_,_,_,hB,_,_,h=>by cases h; exact ⟨by simpa [Region.lexFrom] using hB,rfl⟩
 | o :: l,k,listed,σ,hl,hB,hC,hR,h=>by
  have h0:ops[k]?=some o:=by simpa using (hl 0).symm
  simp only [List.length_cons,Region.lexFrom,Bool.and_eq_true] at hB
  obtain ⟨⟨hr,hf⟩,hB'⟩:=hB
  cases h with
  | cons hs ht =>
   exact anyS_first hT hnv hcalm h0 l.length listed σ _ (Region.free_spec h0 hf) (by simpa using hr) hC hR hs
    (anyS_lex hT hnv hcalm l (k + 1) _ _ (fun j=>by have:=hl (j + 1); simpa [Nat.add_assoc,Nat.add_comm 1 j] using this) hB' (hC.set (by simpa using hr)) (has_step hT hnv h0 hR hs) ht)
theorem closed_none (ops:Array Oper) (n:Nat):Closed ops (Array.replicate n false):=fun i oi hi=>by
 simp [Array.getD_eq_getD_getElem?,Array.getElem?_replicate] at hi
 split at hi <;> simp at hi
theorem any_of_anyS (hT:∀ (g:Nat) κ,T[g]?=some κ → κ.ok P) {nv1:Nat} (hnv:nv0 + ops.size * stride ≤ nv1) {Q:St → Prop} {Q':Exit → Act → World → Prop} {m0:M} {nv:Nat} {al:Nat → Bool}
  (hQ:∀ σ' m' a' w',m'.env=E → MExt m0 nv al m' σ'.nv σ'.al → Rep w0 m' σ' a' w' → Q σ' → Q' .normal a' w'):∀ (fuel:Nat) (listed:Array Bool) (σ:St) (m:M) (a:Act) (w:World),m.env=E → MExt m0 nv al m σ.nv σ.al → Rep w0 m σ a w → σ.nv=nv1 →
  anyS P T ops nv0 len0 E Q fuel listed σ → wpAny P .any ops Q' fuel listed a w
 | 0,_,σ,m,a,w,h1,h2,h3,_,h=>⟨h.1,hQ σ m a w h1 h2 h3 h.2⟩
 | fuel + 1,listed,σ,m,a,w,h1,h2,h3,h4,h=>⟨fun h0=>hQ σ m a w h1 h2 h3 (h.1 h0),fun i hi=>by
   obtain ⟨o,ho⟩:=ready_some hi
   obtain ⟨σ',k1,k2⟩:=h.2 i hi
   have:=step_exec hT ho h3 h1 (by omega) k1 (K:=wpAny P .any ops Q' fuel (listed.setIfInBounds i true)) (Q:=Q') fun m' a' w' e1 e2 e3 e4 =>
    any_of_anyS hT hnv hQ fuel _ σ' m' a' w' e1 (h2.trans e2) e3 (e4.trans h4) k2
   unfold wpOp
   rw [ho]
   simp only
   split
   ·rename_i hw; rw [if_pos hw] at this; exact .inl this
   ·rename_i hw; rw [if_neg hw] at this; exact this⟩
theorem Rep.knows_ {w1:World} {m:M} {τ:St} {a:Act} {w:World} {kn':List (Nat × Bool)} (h:Rep w1 m τ a w) (hk:∀ p ∈ kn',p ∈ τ.kn ∨ (p.1 < τ.nv ∧ decide (m.env p.1 ≠ 0)=p.2)):Rep w1 m {τ with kn:=kn' } a w :=
 ⟨h.defers,h.size,h.tmp,h.below,h.own,h.ro,h.inj,fun p hp=>(hk p hp).elim (fun hp=>h.kn p hp) id,h.gl,h.rows,h.rbox,h.rsep⟩
theorem draw_pre (hT:∀ (g:Nat) κ,T[g]?=some κ → κ.ok P) {m:M} {σ:St} {a:Act} {w:World} {fuel:Nat} {kk:St → Tree} {goal:Gl} (hR:Rep w0 m σ a w)
  (hh:(lexK P T ops σ.nv σ.boxes.length fuel ops.toList 0 {σ with nv:=σ.nv + ops.size * stride,boxes:=σ.boxes ++ List.replicate ops.size none } kk).holds T goal m.env) :
  ∃ E σ',(kk σ').holds T goal E ∧ σ'.lvl=σ.lvl ∧ σ'.nv=σ.nv + ops.size * stride ∧
   Lex P T ops σ.nv σ.boxes.length E ops.toList 0 {σ with nv:=σ.nv + ops.size * stride,boxes:=σ.boxes ++ List.replicate ops.size none,kn:=σ'.kn } σ' ∧
   Rep w0 {m with env:=E } {σ with nv:=σ.nv + ops.size * stride,boxes:=σ.boxes ++ List.replicate ops.size none,kn:=σ'.kn } a {w with drawn:=w.drawn + 1 } ∧
   MExt m σ.nv σ.al {m with env:=E } (σ.nv + ops.size * stride) ({σ with boxes:=σ.boxes ++ List.replicate ops.size none }:St).al:=by
 have hr1:=hR.room ops.size
 have hal:({σ with boxes:=σ.boxes ++ List.replicate ops.size none }:St).al=σ.al:=by
  funext id
  unfold St.al
  by_cases hl:id < σ.boxes.length
  ·simp [List.getElem?_append_left hl]
  ·rw [List.getElem?_append_right (by omega),List.getElem?_eq_none (show σ.boxes.length ≤ id by omega)]
   by_cases h2:id - σ.boxes.length < ops.size
   ·simp [h2]
   ·rw [List.getElem?_eq_none (by simp; omega)]
 obtain ⟨E,σ',e1,e2,e3,e4,e5,e6,e7⟩:=lex_ok (nv0:=σ.nv) (len0:=σ.boxes.length) hT (nv1:=σ.nv + ops.size * stride) (goal:=goal) fuel ops.toList 0 {σ with nv:=σ.nv + ops.size * stride,boxes:=σ.boxes ++ List.replicate ops.size none } (by simp) rfl (by simp)
  (fun k _ hk=>by
   simp only [Nat.zero_add,Array.length_toList] at hk
   show (σ.boxes ++ List.replicate ops.size none)[σ.boxes.length + k]?=_
   rw [List.getElem?_append_right (by omega)]
   simp [hk]) m a w (by simpa using hr1.nv_irrel (σ.nv + 0 * stride) (by show σ.nv ≤ _; omega)) hh
 have hr2:=(hr1.names E (fun j hj=>e1 j (by simp; exact hj)) (σ.nv + ops.size * stride) (by show σ.nv ≤ _; omega)).drew
 have hx:MExt m σ.nv σ.al {m with env:=E } (σ.nv + ops.size * stride) σ.al:=⟨fun j hj=>e1 j (by simpa using hj),fun _ _=>rfl,rfl,fun _ _=>rfl,by omega,fun _ h=>h⟩
 exact ⟨E,σ',e3,e5,e4,e2,hr2.knows_ e7,by rw [hal]; exact hx⟩
theorem draw_ok (hm:P.follows .mixedOrders=true) (hT:∀ (g:Nat) κ,T[g]?=some κ → κ.ok P) {m:M} {σ:St} {a:Act} {w:World} {id fuel:Nat} {kk:St → Tree} {goal:Gl} {Q:Exit → Act → World → Prop}
  (hR:Rep w0 m σ a w) (hd:drawOk ops=true)
  (hh:(lexK P T ops σ.nv σ.boxes.length fuel ops.toList 0 {σ with nv:=σ.nv + ops.size * stride,boxes:=σ.boxes ++ List.replicate ops.size none } kk).holds T goal m.env)
  (hK:∀ m' a' w' σ',MExt m σ.nv σ.al m' σ'.nv σ'.al → Rep w0 m' σ' a' w' → σ'.lvl=σ.lvl → (kk σ').holds T goal m'.env → Q .normal a' w') (hall:∀ σ' E,(kk σ').holds T goal E → allOk σ' ops=true):(Code.region id ops true).wp P Q a w:=by
 have hB:=hd
 unfold drawOk at hB
 simp only [Region.lexB,Bool.and_eq_true] at hB
 obtain ⟨E,σ',e3,e5,e4,e2,hr2,hx⟩:=draw_pre hT hR hh
 have hcalm:=hall σ' E e3
 refine wp_region_any hm (any_of_anyS (len0:=σ.boxes.length) hT (nv1:=σ.nv + ops.size * stride) (Nat.le_refl _) (Q:=fun s=>s=σ') (fun s m' a' w' h1 h2 h3 h4=>by
  subst h4; exact hK m' a' w' _ h2 h3 e5 (by rw [h1]; exact e3)) _ _ _ _ _ _ rfl ?_ hr2 rfl ?_)
 ·exact hx
 ·have:=anyS_lex hT (nv1:=σ.nv + ops.size * stride) (Nat.le_refl _) hcalm ops.toList 0 (Array.replicate ops.size false) _ (by simp) (by simpa using hB.2) (closed_none _ _) ⟨w0,_,_,_,rfl,hr2,rfl⟩ e2
  simpa using this
theorem ready_ne {k:Nat} (hk:ops.size=k + 1) (hb:backOnly ops=true) {listed:Array Bool} (hs:listed.size=ops.size):∀ (N i:Nat),i ≤ N → i ≤ k → listed.getD i true=false → Region.ready .any ops listed ≠ []:=by
 intro N
 induction N with
 | zero =>
  intro i hi hik hl hr
  have hio:∃ o,ops[i]?=some o:=⟨ops[i]'(by omega),Array.getElem?_eq_getElem _⟩
  obtain ⟨o,ho⟩:=hio
  have hm:i ∈ Region.ready .any ops listed:=mem_ready.2 ⟨hl,o,ho,fun e he hbe=>by
   unfold backOnly at hb
   simp only [List.all_eq_true] at hb
   have:=hb (o,i) (by rw [List.mem_zipIdx_iff_getElem?]; simpa using ho)
   have:=Array.all_eq_true'.1 this e he
   simp only [hbe,Bool.not_true,Bool.false_or,decide_eq_true_eq] at this
   omega⟩
  rw [hr] at hm; cases hm
 | succ N ih =>
  intro i hi hik hl hr
  have hio:∃ o,ops[i]?=some o:=⟨ops[i]'(by omega),Array.getElem?_eq_getElem _⟩
  obtain ⟨o,ho⟩:=hio
  have hm:i ∈ Region.ready .any ops listed:=mem_ready.2 ⟨hl,o,ho,fun e he hbe=>by
   have hb':=hb
   unfold backOnly at hb'
   simp only [List.all_eq_true] at hb'
   have:=hb' (o,i) (by rw [List.mem_zipIdx_iff_getElem?]; simpa using ho)
   have:=Array.all_eq_true'.1 this e he
   simp only [hbe,Bool.not_true,Bool.false_or,decide_eq_true_eq] at this
   cases hle:listed.getD e.on false with
   | true=>rfl
   | false =>
    exfalso
    have hlt:e.on < listed.size:=by omega
    have:listed.getD e.on true=false:=by
     simp only [Array.getD_eq_getD_getElem?,Array.getElem?_eq_getElem hlt,Option.getD_some] at hle ⊢
     exact hle
    exact ih e.on (by omega) (by omega) this hr⟩
  rw [hr] at hm; cases hm
theorem closed_all {k:Nat} {o:Oper} {listed:Array Bool} (ho:ops[k]?=some o) (hc:Closed ops listed) (hi:k ∈ Region.ready .any ops listed) (hord:∀ j,j < k → ∃ i oi,j < i ∧ i ≤ k ∧ ops[i]?=some oi ∧ ordered j oi=true):∀ (N j:Nat),k ≤ j + N → j < k → listed.getD j false=true:=by
 intro N
 induction N with
 | zero=>intro j h1 h2; omega
 | succ N ih =>
  intro j h1 h2
  obtain ⟨i,oi,g1,g2,g3,g4⟩:=hord j h2
  unfold ordered at g4
  obtain ⟨e,he,hbe⟩:=Array.any_eq_true'.1 g4
  simp only [Bool.and_eq_true,beq_iff_eq] at hbe
  rw [← hbe.2]
  by_cases hik:i=k
  ·subst hik
   obtain ⟨_,o',ho',hall⟩:=mem_ready.1 hi
   rw [g3] at ho'; cases ho'
   exact hall e he hbe.1
  ·exact hc i oi (ih i (by omega) (by omega)) g3 e he hbe.1
theorem tailsL_get:∀ (l:List Oper) (s j:Nat),(tailsL l s)[j]?=if j < s then l[j]? else (l[j]?).map tailOp
 | [],s,j=>by simp [tailsL]
 | o :: r,0,j=>by
  cases j with
  | zero=>simp [tailsL]
  | succ j =>
   have:=tailsL_get r 0 j
   simp only [Nat.not_lt_zero,if_false] at this ⊢
   simpa [tailsL] using this
 | o :: r,s + 1,j=>by
  cases j with
  | zero=>simp [tailsL]
  | succ j =>
   have:=tailsL_get r s j
   simp only [Nat.succ_lt_succ_iff]
   simpa [tailsL] using this
theorem tails_get (ops:Array Oper) (s j:Nat):(tails ops s)[j]?=if j < s then ops[j]? else (ops[j]?).map tailOp:=by
 unfold tails
 rw [List.getElem?_toArray,tailsL_get]; simp
theorem tailsL_len:∀ (l:List Oper) (s:Nat),(tailsL l s).length=l.length
 | [],s=>by simp [tailsL]
 | o :: r,0=>by simp [tailsL,tailsL_len r 0]
 | o :: r,s + 1=>by simp [tailsL,tailsL_len r s]
theorem tails_size (ops:Array Oper) (s:Nat):(tails ops s).size=ops.size:=by simp [tails,tailsL_len]
theorem tails_dst (s j:Nat):((tails ops s)[j]?).bind (·.dst)=(ops[j]?).bind (·.dst):=by
 rw [tails_get]
 split
 ·rfl
 ·cases ops[j]? <;> rfl
theorem tails_ready {s:Nat} {listed:Array Bool} {i:Nat}:i ∈ Region.ready .any (tails ops s) listed ↔ i ∈ Region.ready .any ops listed:=by
 rw [mem_ready,mem_ready,tails_get]
 split
 ·rfl
 ·cases ho:ops[i]? with
  | none=>simp
  | some o=>simp [tailOp]
theorem guardG_tails {s:Nat} (σ:St) (x:Oper):guardG (tails ops s) σ x=guardG ops σ x:=by
 rw [guardG_def,guardG_def]
 split
 ·rfl
 ·rw [tails_dst]
theorem firstBig_lt:∀ (l:List Oper) (i s:Nat),firstBig T l i=some s → s < i + l.length
 | [],i,s,h=>by cases h
 | o :: r,i,s,h=>by
  simp only [firstBig] at h
  split at h
  ·cases h; simp
  ·have:=firstBig_lt r (i + 1) s h
   simp only [List.length_cons]; omega
structure TailOk (ops:Array Oper) (s:Nat):Prop where
 lt:s < ops.size
 guard:∀ i o,s ≤ i → ops[i]?=some o → o.guard=none
 ord:∀ i,s ≤ i → i < ops.size → ∀ j,j < i → ∃ x ox,j < x ∧ x ≤ i ∧ ops[x]?=some ox ∧ ordered j ox=true
 back:backOnly ops=true
theorem tailOf_spec {q:List Oper × Array Oper} (h:tailOf T ops=some q):∃ s,q=(ops.toList.drop s,tails ops s) ∧ TailOk ops s:=by
 unfold tailOf at h
 split at h
 ·rename_i s hs
  split at h
  ·rename_i hc
   cases h
   have hlt:=firstBig_lt _ _ _ hs
   simp only [Nat.zero_add,Array.length_toList] at hlt
   simp only [tailOk,Bool.and_eq_true,List.all_eq_true,List.mem_range,Bool.or_eq_true,decide_eq_true_eq] at hc
   refine ⟨s,rfl,hlt,fun i o hi ho=>?_,fun i hi hil j hj=>?_,hc.2⟩
   ·rcases hc.1 i (Array.getElem?_eq_some_iff.1 ho).1 with h | h
    ·omega
    ·have:=h.2; rw [ho] at this; simpa using this
   ·rcases hc.1 i hil with h | h
    ·omega
    ·have h1:=h.1
     simp only [behindAll,List.all_eq_true,List.mem_range] at h1
     obtain ⟨x,hx,hc2⟩:=List.any_eq_true.1 (h1 j hj)
     simp only [Bool.and_eq_true,decide_eq_true_eq] at hc2
     cases hox:ops[x]? with
     | none=>rw [hox] at hc2; simp at hc2
     | some ox=>rw [hox] at hc2; exact ⟨x,ox,hc2.1,by have:=List.mem_range.1 hx; omega,hox,by simpa using hc2.2⟩
  ·cases h
 ·cases h
noncomputable def puts (σ:St) (l:List Oper):St:=l.foldl (fun σ o=>σ.put o.dst (.vl (.one (.bool (.lit 0))))) σ
theorem ready_at {s i:Nat} (ht:TailOk ops s) {listed:Array Bool} (hi:s ≤ i) (hs:listed.size=ops.size) (h1:∀ j,j < i → listed.getD j false=true) (h2:∀ j,i ≤ j → j < ops.size → listed.getD j true=false) (hcl:Closed ops listed) (j:Nat) :
  j ∈ Region.ready .any ops listed ↔ (j=i ∧ i < ops.size):=by
 constructor
 ·intro hj
  obtain ⟨g1,oj,g2,g3⟩:=mem_ready.1 hj
  have hjs:=(Array.getElem?_eq_some_iff.1 g2).1
  have hij:i ≤ j:=by
   by_cases hc:j < i
   ·have:=h1 j hc
    have hjl:j < listed.size:=by omega
    simp only [Array.getD_eq_getD_getElem?,Array.getElem?_eq_getElem hjl,Option.getD_some] at g1 this
    rw [g1] at this; cases this
   ·omega
  by_cases hji:j=i
  ·exact ⟨hji,by omega⟩
  ·exfalso
   have hl:=closed_all g2 hcl hj (ht.ord j (by omega) hjs) j i (by omega) (by omega)
   have hl2:=h2 i (Nat.le_refl _) (by omega)
   have hil:i < listed.size:=by omega
   simp only [Array.getD_eq_getD_getElem?,Array.getElem?_eq_getElem hil,Option.getD_some] at hl hl2
   rw [hl2] at hl; cases hl
 ·rintro ⟨rfl,hlt⟩
  refine mem_ready.2 ⟨h2 j (Nat.le_refl _) hlt,ops[j],Array.getElem?_eq_getElem hlt,fun e he hbe=>h1 _ ?_⟩
  have hb:=ht.back
  unfold backOnly at hb
  simp only [List.all_eq_true] at hb
  have:=hb (ops[j],j) (by rw [List.mem_zipIdx_iff_getElem?]; simp [hlt])
  have:=Array.all_eq_true'.1 this e he
  simpa only [hbe,Bool.not_true,Bool.false_or,decide_eq_true_eq] using this
theorem tails_rest {s:Nat} (ht:TailOk ops s) {Q:St → Prop} {Q':Exit → Act → World → Prop}:∀ (fuel i:Nat) (listed:Array Bool) (σ:St),s ≤ i → i ≤ ops.size → listed.size=ops.size → (∀ j,j < i → listed.getD j false=true) → (∀ j,i ≤ j → j < ops.size → listed.getD j true=false) → Closed ops listed →
  anyS P T (tails ops s) nv0 len0 E Q fuel listed σ → Q (puts σ (ops.toList.drop i)) ∧ ∀ a w,wpList P ops Q' (ops.toList.drop i) a w → wpAny P .any ops Q' fuel listed a w:=by
 intro fuel
 induction fuel with
 | zero =>
  intro i listed σ hi his hs h1 h2 hcl h
  have hr:=ready_at ht hi hs h1 h2 hcl
  by_cases hlt:i < ops.size
  ·exfalso
   have:=tails_ready (s:=s).2 ((hr i).2 ⟨rfl,hlt⟩)
   rw [h.1] at this; cases this
  ·have hdrop:ops.toList.drop i=[]:=by rw [List.drop_eq_nil_iff]; simp; omega
   rw [hdrop]
   refine ⟨h.2,fun a w hw=>⟨?_,hw⟩⟩
   apply List.eq_nil_iff_forall_not_mem.2
   intro j hj
   exact hlt ((hr j).1 hj).2
 | succ fuel ih =>
  intro i listed σ hi his hs h1 h2 hcl h
  have hr:=ready_at ht hi hs h1 h2 hcl
  by_cases hlt:i < ops.size
  ·have hmem:=(hr i).2 ⟨rfl,hlt⟩
   obtain ⟨σ',k1,k2⟩:=h.2 i (tails_ready.2 hmem)
   have ho:ops[i]?=some ops[i]:=Array.getElem?_eq_getElem hlt
   have hg:=ht.guard i _ hi ho
   have hdrop:ops.toList.drop i=ops[i] :: ops.toList.drop (i + 1):=by
    rw [List.drop_eq_getElem_cons (by simpa using hlt)]; rfl
   have hσ':σ'=σ.put ops[i].dst (.vl (.one (.bool (.lit 0)))):=by
    unfold AStep at k1
    rw [tails_get,if_neg (by omega),ho] at k1
    simp only [Option.map_some] at k1
    have hgy:guardG (tails ops s) σ (tailOp ops[i])=.yes:=by rw [guardG_def]; simp only [tailOp,hg]
    rcases k1 with ⟨k1,_⟩ | ⟨_,p,kp,_,_,_,hs'⟩
    ·rw [hgy] at k1; cases k1
    ·have:p={val:=.vl (.one (.bool (.lit 0))) }:=by
      simp only [tailOp,plan,St.val,vOf,cOf,Option.map_some] at kp
      cases kp; rfl
     rw [hs',this]; rfl
   have hset:∀ j,(listed.setIfInBounds i true).getD j false=true ↔ (j=i ∨ listed.getD j false=true):=fun j=>by
    by_cases hij:i=j
    ·subst hij; simp [Array.getD_eq_getD_getElem?,hs,hlt]
    ·simp only [Array.getD_eq_getD_getElem?,Array.getElem?_setIfInBounds]
     rw [if_neg hij]
     exact ⟨.inr,fun h=>h.resolve_left (fun e=>hij e.symm)⟩
   obtain ⟨q1,q2⟩:=ih (i + 1) _ σ' (by omega) (by omega) (by simpa using hs) (fun j hj=>(hset j).2 (by
    by_cases hji:j=i
    ·exact .inl hji
    ·exact .inr (h1 j (by omega)))) (fun j hj hjs=>by
    have:=h2 j (by omega) hjs
    simp only [Array.getD_eq_getD_getElem?,Array.getElem?_setIfInBounds] at this ⊢
    rw [if_neg (by omega)]; exact this) (hcl.set hmem) k2
   rw [hdrop]
   refine ⟨?_,fun a w hw=>⟨fun h0=>?_,fun j hj=>?_⟩⟩
   ·show Q (puts (σ.put ops[i].dst _) (ops.toList.drop (i + 1)))
    rw [hσ'] at q1
    exact q1
   ·rw [h0] at hmem; cases hmem
   ·obtain ⟨rfl,_⟩:=(hr j).1 hj
    unfold wpOp
    rw [ho]
    simp only
    have hw':(if Region.wanted ops[j] (yielded ops a.tmps) then ops[j].wp P a w (wpList P ops Q' (ops.toList.drop (j + 1))) Q' ∨ (ops[j].asks P a w ∧ LetsOut Q') else wpList P ops Q' (ops.toList.drop (j + 1)) (a.put ops[j].dst undef) w):=hw
    split
    ·rename_i hwa
     rw [if_pos hwa] at hw'
     rcases hw' with hw' | hw'
     ·exact .inl (Oper.wp_mono (fun a w=>q2 a w) hw')
     ·exact .inr hw'
    ·rename_i hwa
     rw [if_neg hwa] at hw'
     exact q2 _ _ hw'
  ·have hdrop:ops.toList.drop i=[]:=by rw [List.drop_eq_nil_iff]; simp; omega
   have hempty:Region.ready .any ops listed=[]:=by
    apply List.eq_nil_iff_forall_not_mem.2
    intro j hj
    exact hlt ((hr j).1 hj).2
   rw [hdrop]
   refine ⟨h.1 ?_,fun a w hw=>⟨fun _=>hw,fun j hj=>by rw [hempty] at hj; cases hj⟩⟩
   apply List.eq_nil_iff_forall_not_mem.2
   intro j hj
   have:=tails_ready.1 hj
   rw [hempty] at this; cases this
theorem any_of_tails (hT:∀ (g:Nat) κ,T[g]?=some κ → κ.ok P) {nv1:Nat} (hnv:nv0 + ops.size * stride ≤ nv1) {s:Nat} (ht:TailOk ops s)
  {Q:St → Prop} {Q':Exit → Act → World → Prop} {m0:M} {nv:Nat} {al:Nat → Bool}
  (hQ:∀ σ0 m' a' w',m'.env=E → MExt m0 nv al m' σ0.nv σ0.al → Rep w0 m' σ0 a' w' → σ0.nv=nv1 → Q (puts σ0 (ops.toList.drop s)) → wpList P ops Q' (ops.toList.drop s) a' w'):∀ (fuel:Nat) (listed:Array Bool) (σ:St) (m:M) (a:Act) (w:World),m.env=E → MExt m0 nv al m σ.nv σ.al → Rep w0 m σ a w → σ.nv=nv1 →
  listed.size=ops.size → Closed ops listed → (∀ j,s ≤ j → j < ops.size → listed.getD j true=false) → anyS P T (tails ops s) nv0 len0 E Q fuel listed σ → wpAny P .any ops Q' fuel listed a w:=by
 intro fuel
 induction fuel with
 | zero =>
  intro listed σ m a w h1 h2 h3 h4 hs hcl hl h
  exfalso
  have hlt:=ht.lt
  have hk:ops.size=(ops.size - 1) + 1:=by omega
  refine ready_ne hk ht.back hs s s (Nat.le_refl _) (by omega) (hl s (Nat.le_refl _) hlt) ?_
  apply List.eq_nil_iff_forall_not_mem.2
  intro i hi
  have hi':=(tails_ready (s:=s)).2 hi
  rw [h.1] at hi'; cases hi'
 | succ fuel ih =>
  intro listed σ m a w h1 h2 h3 h4 hs hcl hl h
  have hlt:=ht.lt
  by_cases hsr:s ∈ Region.ready .any ops listed
  ·have ho:ops[s]?=some ops[s]:=Array.getElem?_eq_getElem hlt
   have hall:∀ j,j < s → listed.getD j false=true:=fun j hj=>closed_all ho hcl hsr (ht.ord s (Nat.le_refl _) hlt) s j (by omega) hj
   obtain ⟨q1,q2⟩:=tails_rest ht (Q:=Q) (Q':=Q') (fuel + 1) s listed σ (Nat.le_refl _) (by omega) hs hall hl hcl h
   exact q2 _ _ (hQ σ m a w h1 h2 h3 h4 q1)
  ·have hk:ops.size=(ops.size - 1) + 1:=by omega
   refine ⟨fun h0=>(ready_ne hk ht.back hs s s (Nat.le_refl _) (by omega) (hl s (Nat.le_refl _) hlt) h0).elim,fun i hi=>?_⟩
   obtain ⟨σ',k1,k2⟩:=h.2 i (tails_ready.2 hi)
   obtain ⟨oi,hoi⟩:=ready_some hi
   have his:i < s:=by
    by_cases hc:i < s
    ·exact hc
    ·exfalso
     have hil:=(Array.getElem?_eq_some_iff.1 hoi).1
     by_cases hei:i=s
     ·subst hei; exact hsr hi
     ·have hl1:=closed_all hoi hcl hi (ht.ord i (by omega) hil) i s (by omega) (by omega)
      have hl2:=hl s (Nat.le_refl _) hlt
      have hsl:s < listed.size:=by omega
      simp only [Array.getD_eq_getD_getElem?,Array.getElem?_eq_getElem hsl,Option.getD_some] at hl1 hl2
      rw [hl2] at hl1; cases hl1
   have hgi:(tails ops s)[i]?=some oi:=by rw [tails_get,if_pos his]; exact hoi
   have k1':AStep P T ops nv0 len0 E i σ σ':=by
    unfold AStep at k1 ⊢
    rw [hgi] at k1
    rw [hoi]
    simp only [guardG_tails] at k1 ⊢
    exact k1
   have:=step_exec hT hoi h3 h1 (by omega) k1' (K:=wpAny P .any ops Q' fuel (listed.setIfInBounds i true)) (Q:=Q') fun m' a' w' e1 e2 e3 e4 =>
    ih _ σ' m' a' w' e1 (h2.trans e2) e3 (e4.trans h4) (by simpa using hs) (hcl.set hi) (fun j hj hjs=>by
     have:=hl j hj hjs
     simp only [Array.getD_eq_getD_getElem?,Array.getElem?_setIfInBounds] at this ⊢
     rw [if_neg (by omega)]; exact this) k2
   unfold wpOp
   rw [hoi]
   simp only
   split
   ·rename_i hw; rw [if_pos hw] at this; exact .inl this
   ·rename_i hw; rw [if_neg hw] at this; exact this
theorem dropT_set (t:Nat) (s:SV):∀ (l:List Nat) (σ:St),t ∈ l → dropT {σ with tmps:=σ.tmps.set t s } l=dropT σ l
 | [],σ,h=>by cases h
 | u :: r,σ,h=>by
  simp only [dropT]
  by_cases htu:t=u
  ·subst htu; simp
  ·have hr:t ∈ r:=by
    rcases List.mem_cons.1 h with h | h
    ·exact absurd h htu
    ·exact h
   have:=dropT_set t s r {σ with tmps:=σ.tmps.set u topS } hr
   rw [← this]
   simp only
   rw [List.set_comm _ _ (fun e=>htu e)]
theorem dropT_put (σ:St) (s:SV) (l:List Nat):∀ (d:Option Nat),(∀ t,d=some t → t ∈ l) → dropT (σ.put d s) l=dropT σ l:=by
 intro d
 cases d with
 | none=>intro _; simp [St.put_def]
 | some t =>
  intro h
  simp only [St.put_def]
  exact dropT_set t s l σ (h t rfl)
theorem dropT_puts (L:List Nat):∀ (l:List Oper) (σ:St),(∀ o ∈ l,∀ t,o.dst=some t → t ∈ L) → dropT (puts σ l) L=dropT σ L
 | [],σ,_=>rfl
 | o :: l,σ,h=>by
  show dropT (puts (σ.put o.dst _) l) L=_
  rw [dropT_puts L l _ fun o' ho'=>h o' (List.mem_cons_of_mem _ ho'),dropT_put _ _ _ _ (h o (List.mem_cons_self ..))]
theorem puts_same:∀ (l:List Oper) (σ:St),(puts σ l).nv=σ.nv ∧ (puts σ l).lvl=σ.lvl
 | [],σ=>⟨rfl,rfl⟩
 | o :: l,σ=>by
  obtain ⟨h1,h2⟩:=puts_same l (σ.put o.dst (.vl (.one (.bool (.lit 0)))))
  refine ⟨h1.trans ?_,h2.trans ?_⟩ <;> cases o.dst <;> rfl
theorem draw_tail (hm:P.follows .mixedOrders=true) (hT:∀ (g:Nat) κ,T[g]?=some κ → κ.ok P) {m:M} {σ:St} {a:Act} {w:World} {id fuel:Nat} {kk:St → Tree} {goal:Gl} {Q:Exit → Act → World → Prop} {q:List Oper × Array Oper}
  (hR:Rep w0 m σ a w) (htl:tailOf T ops=some q) (hd:drawOk q.2=true)
  (hh:(lexK P T q.2 σ.nv σ.boxes.length fuel q.2.toList 0 {σ with nv:=σ.nv + q.2.size * stride,boxes:=σ.boxes ++ List.replicate q.2.size none } kk).holds T goal m.env)
  (hK:∀ m' a' w' σ0 σ',MExt m σ.nv σ.al m' σ0.nv σ0.al → Rep w0 m' σ0 a' w' → puts σ0 q.1=σ' → σ0.nv=σ'.nv → σ'.lvl=σ.lvl → (kk σ').holds T goal m'.env → wpList P ops Q q.1 a' w') (hall:∀ σ' E,(kk σ').holds T goal E → allOk σ' q.2=true):(Code.region id ops true).wp P Q a w:=by
 obtain ⟨s,rfl,ht⟩:=tailOf_spec htl
 simp only at hd hK hh hall
 have hsz:(tails ops s).size=ops.size:=tails_size ops s
 have hB:=hd
 unfold drawOk at hB
 simp only [Region.lexB,Bool.and_eq_true] at hB
 obtain ⟨E,σ',e3,e5,hnv',e2,hr2,hx⟩:=draw_pre hT hR hh
 have hcalm:=hall σ' E e3
 refine wp_region_any hm (any_of_tails (len0:=σ.boxes.length) hT (nv0:=σ.nv) (nv1:=σ.nv + (tails ops s).size * stride) (by rw [hsz]; exact Nat.le_refl _) ht (Q:=fun s=>s=σ') (m0:=m) (nv:=σ.nv) (al:=σ.al) (fun σ0 m' a' w' h1 h2 h3 h5 h4=>by
  exact hK m' a' w' σ0 σ' h2 h3 h4 (h5.trans hnv'.symm) e5 (by rw [h1]; exact e3)) _ _ {σ with boxes:=σ.boxes ++ List.replicate (tails ops s).size none,nv:=σ.nv + (tails ops s).size * stride,kn:=σ'.kn } _ _ _ rfl ?_ hr2 rfl (by simp) (fun i oi hi=>by simp [Array.getD_eq_getD_getElem?,Array.getElem?_replicate] at hi; split at hi <;> simp at hi) (fun j _ hj=>by rw [Array.getD_eq_getD_getElem?,Array.getElem?_eq_getElem (by simp; omega)]; simp) ?_)
 ·exact hx
 ·have:=anyS_lex hT (nv1:=σ.nv + (tails ops s).size * stride) (Nat.le_refl _) hcalm (tails ops s).toList 0 (Array.replicate (tails ops s).size false) _ (fun j=>by rw [Array.getElem?_toList,Nat.zero_add]) (by rw [Array.length_toList]; exact hB.2) (closed_none _ _) ⟨w0,_,_,_,rfl,hr2,rfl⟩ e2
  rw [Array.length_toList,hsz] at this
  rw [hsz]
  exact this
end
end Go.Sx

namespace Go.Sx
open Go Go.RowKit
section
variable {P:Program} {T:List K} {w0:World} {m:M} {σ:St} {a:Act} {w:World}
theorem Rep.know (h:Rep w0 m σ a w) {v:Nat} {b:Bool} (hv:v < σ.nv) (hb:decide (m.env v ≠ 0)=b):Rep w0 m (σ.know v b) a w :=
 ⟨h.defers,h.size,h.tmp,h.below,h.own,h.ro,h.inj,fun p hp=>by
  rcases List.mem_cons.1 hp with rfl | hp
  ·exact ⟨hv,hb⟩
  ·exact h.kn p hp,h.gl,h.rows,h.rbox,h.rsep⟩
theorem truth_need {x:A} {n:Nat} (h:truth σ x=.need n):x=.var n:=by
 cases x with
 | lit k=>simp only [truth] at h; split at h <;> cases h
 | var k=>simp only [truth] at h; split at h <;> cases h; rfl
 | limb a b=>cases h
theorem resOne_ok (h:Rep w0 m σ a w) {r:ResultVar} {v:V} (hr:resOne P σ r=some v):∃ u,((match r with | .tmp t=>pure (a.tmps.getD t undef) | .cell ad t=>do loadVar t (← asAddr (a.tmps.getD ad undef))):Sem Value).run P w=.ok u w ∧ v.rel m σ.nv σ.al u:=by
 cases r with
 | tmp t =>
  simp only [resOne] at hr
  have:=h.get t
  split at hr
  ·rename_i v' hv
   cases hr
   rw [hv] at this
   exact ⟨_,rfl,this⟩
  ·cases hr
 | cell t ty =>
  simp only [resOne] at hr
  have:=h.get t
  split at hr
  ·rename_i id off hv
   rw [hv] at this
   obtain ⟨h1,h2⟩:C.rel m σ.nv σ.al (.ptr id off) _:=this
   split at hr
   ·rename_i b d n hb hd hn
    split at hr
    ·rename_i ha
     split at hr
     ·cases hr
     ·rename_i hl
      cases hr
      obtain ⟨vs,hvl,hr,hv⟩:=h.reads hb off n (by omega)
      refine ⟨.agg vs.toArray,?_,vs,rfl,hr⟩
      simp only [h2]
      simp [asAddr,run_loadVar_agg hd ha (by rw [hn,hvl]) hv]
    ·rename_i ha
     split at hr
     ·rename_i c hc
      cases hr
      obtain ⟨v,hv,hr⟩:=h.read hb _ _ hc
      refine ⟨v,?_,hr⟩
      simp only [h2]
      simp [asAddr,run_loadVar_one hd (by simpa using ha) hv]
     ·cases hr
   ·cases hr
  ·cases hr
theorem res_list (h:Rep w0 m σ a w):∀ (l:List ResultVar) (vs:List V),mapO (resOne P σ) l=some vs → ∃ us:List Value,
  ((l.mapM fun (r:ResultVar)=>((match r with | .tmp t=>pure (a.tmps.getD t undef) | .cell ad t=>do loadVar t (← asAddr (a.tmps.getD ad undef))):Sem Value)):Sem (List Value)).run P w=.ok us w ∧ VRels m σ.nv σ.al vs us:=by
 intro l
 induction l with
 | nil=>intro vs hvs; simp [mapO] at hvs; subst hvs; exact ⟨[],rfl,trivial⟩
 | cons r l ih =>
  intro vs hvs
  unfold mapO at hvs
  split at hvs
  ·cases hvs
  ·rename_i y hy
   split at hvs
   ·cases hvs
   ·rename_i ys hys
    cases hvs
    obtain ⟨u,h1,h2⟩:=resOne_ok h hy
    obtain ⟨us,h3,h4⟩:=ih ys hys
    refine ⟨u :: us,?_,h2,h4⟩
    rw [List.mapM_cons]
    simp only [Sem.run_bind,h1,Result.andThen_ok,h3,Sem.run_pure]
theorem res_ok (h:Rep w0 m σ a w) {fn:Func} {vs:List V} (hr:resS P σ fn=some vs):∃ us:List Value,(results fn a.tmps).run P w=.ok (retV us) w ∧ VRels m σ.nv σ.al vs us:=by
 obtain ⟨us,h1,h2⟩:=res_list h _ _ hr
 refine ⟨us,?_,h2⟩
 unfold results
 rw [Array.mapM_eq_mapM_toList]
 rw [bind_map_left,Sem.run_bind]
 refine (congrArg (fun r=>Result.andThen r _) h1).trans ?_
 rw [Result.andThen_ok,Sem.run_pure]
 cases us with
 | nil=>rfl
 | cons u us=>cases us with
  | nil=>rfl
  | cons u' us=>simp [retV]
theorem enter_rep (h:Rep w0 m σ a w) {args:List V} {us:List Value} (hr:VRels m σ.nv σ.al args us) (n:Nat) :
  Rep w0 m {σ with tmps:=args.map SV.vl ++ List.replicate (n - args.length) undefS } {tmps:=us.toArray ++ Array.replicate (n - us.toArray.size) undef,defers:=[] } w:=by
 have hl:=hr.length
 refine ⟨rfl,by simp [hl],fun i s hi=>?_,h.below,h.own,h.ro,h.inj,h.kn,h.gl,h.rows,h.rbox,h.rsep⟩
 have hi:(args.map SV.vl ++ List.replicate (n - args.length) undefS)[i]?=some s:=hi
 show ∃ v,(us.toArray ++ Array.replicate (n - us.toArray.size) undef)[i]?=some v ∧ s.rel m σ.nv σ.al v
 by_cases hlt:i < args.length
 ·rw [List.getElem?_append_left (by simpa using hlt),List.getElem?_map] at hi
  cases hai:args[i]? with
  | none=>rw [hai] at hi; cases hi
  | some v =>
   rw [hai] at hi
   cases hi
   obtain ⟨u,hu,hv⟩:=hr.get i v hai
   exact ⟨u,by rw [Array.getElem?_append_left (by simp; omega)]; simpa using hu,hv⟩
 ·rw [List.getElem?_append_right (by simp; omega),List.getElem?_replicate] at hi
  split at hi
  ·rename_i hlt2
   cases hi
   refine ⟨undef,?_,[],rfl,trivial⟩
   rw [Array.getElem?_append_right (by simp; omega),Array.getElem?_replicate,if_pos]
   simp only [List.size_toArray]
   simp only [List.length_map] at hlt2
   rw [← hl]; exact hlt2
  ·cases hi
theorem Rep.back {σ':St} {m':M} {a':Act} {w':World} (h:Rep w0 m σ a w) (h':Rep w0 m' σ' a' w') (hx:MExt m σ.nv σ.al m' σ'.nv σ'.al):Rep w0 m' {σ' with tmps:=σ.tmps } a w' :=
 ⟨h.defers,h.size,fun i s hi=>by obtain ⟨v,hv,hs⟩:=h.tmp i s hi; exact ⟨v,hv,SV.rel_mono hx hs⟩,h'.below,h'.own,h'.ro,h'.inj,h'.kn,h'.gl,h'.rows,h'.rbox,h'.rsep⟩
theorem plan_call {o:Oper} {nn nid f:Nat} {args:List V} (h:Rep w0 m σ a w) (hp:plan P T σ nn nid o.op=.call f args) :
  ∃ us:List Value,VRels m σ.nv σ.al args us ∧ (execOp a.eval o).run P w=(callFunc f us.toArray).run P w:=by
 cases ho:o.op with
 | call c =>
  rw [ho] at hp
  simp only [plan] at hp
  split at hp
  ·cases hp
  ·rename_i args' hargs
   have hvr:=args_ok h _ _ hargs
   split at hp
   ·repeat' split at hp
    all_goals (first | (cases hp; done) | (unfold okP at hp; cases hp; done))
   ·repeat' split at hp
    all_goals (first | (cases hp; done))
   ·repeat' split at hp
    all_goals (first | (cases hp; done))
   ·repeat' split at hp
    all_goals (first | (cases hp; done))
   ·split at hp
    ·cases hp
    ·cases hp
   ·cases hp
   ·cases hp
   ·rename_i x hcal
    split at hp
    ·rename_i f' caps hx
     have hfx:=h.cell hx
     split at hp
     ·repeat' split at hp
      all_goals (cases hp; done)
     ·simp only [Pl.call.injEq] at hp
      obtain ⟨rfl,rfl⟩:=hp
      refine ⟨c.args.toList.map a.eval ++ caps.map fun p=>Value.pointer (some (m.at p.1 p.2)),?_,?_⟩
      ·refine hvr.append ?_
       have hc:=hfx.1
       clear hfx hx
       induction caps with
       | nil=>trivial
       | cons q caps ih=>exact ⟨⟨hc q (List.mem_cons_self ..),rfl⟩,ih fun z hz=>hc z (List.mem_cons_of_mem _ hz)⟩
      ·rw [run_callValue ho hcal hfx.2]
       congr 2
       apply Array.ext'
       simp
    ·cases hp
 | binOp op t x y yt =>
  rw [ho] at hp
  simp only [plan] at hp
  split at hp
  ·split at hp
   ·cases hp
   rename_i hnone
   clear hnone
   unfold planBin at hp
   split at hp
   ·simp only [binInt,mkP] at hp
    repeat' split at hp
    all_goals (cases hp; done)
   all_goals
    try simp only [mkP,okP] at hp
    repeat' split at hp
    all_goals (cases hp; done)
  ·cases hp
 | _ =>
  rw [ho] at hp
  simp only [plan,okP,partC,mkP,loadRow] at hp
  repeat' split at hp
  all_goals (cases hp; done)
theorem run_callFunc {f:FuncId} {fn:Func} {args:Array Value} (hf:P.funcs[f]?=some fn) (hn:(fn.name == "runtime.NumGoroutine")=false) {c:Code} (hb:fn.body=some c):(callFunc f args).run P w=.ok (.enter f args) w:=by
 have hn':¬fn.name = "runtime.NumGoroutine":=by simpa using hn
 simp [callFunc,hf,hn',hb]
end
end Go.Sx

namespace Go.Sx
open Go Go.RowKit
theorem aEq_ok {a b:A} (h:aEq a b=true):a=b:=by
 cases a <;> cases b <;> simp [aEq] at h
 ·rw [h]
 ·rw [h]
 ·rw [h.1,h.2]
theorem cEqb_ok {a b:C} (h:cEqb a b=true):a=b:=by
 cases a <;> cases b <;> simp only [cEqb,Bool.and_eq_true,beq_iff_eq,Bool.false_eq_true] at h <;> first | rfl | skip
 ·obtain ⟨h1,h2⟩:=h
  first | rw [kind_ok h1,aEq_ok h2] | rw [h1,aEq_ok h2]
 ·rw [aEq_ok h]
 ·rw [h.1,h.2]
 ·rw [h.1.1.1,h.1.1.2,h.1.2,h.2]
 ·rw [h.1,h.2]
 ·rw [h]
 ·rw [h.1.1.1,h.1.1.2,aEq_ok h.1.2,h.2]
 ·rw [h]
 ·rw [h.1.1,aEq_ok h.1.2,LKeq_ok h.2]
 ·rw [h.1.1.1,aEq_ok h.1.1.2,aEq_ok h.1.2,LKeq_ok h.2]
 ·rw [aEq_ok h]
theorem csEqb_ok:∀ {a b:List C},csEqb a b=true → a=b
 | [],[],_=>rfl
 | a :: as,b :: bs,h=>by
  simp only [csEqb,Bool.and_eq_true] at h
  rw [cEqb_ok h.1,csEqb_ok h.2]
theorem vEqb_ok {a b:V} (h:vEqb a b=true):a=b:=by
 cases a <;> cases b <;> simp only [vEqb,Bool.false_eq_true] at h
 ·rw [cEqb_ok h]
 ·rw [csEqb_ok h]
theorem vsEqb_ok:∀ {a b:List V},vsEqb a b=true → a=b
 | [],[],_=>rfl
 | a :: as,b :: bs,h=>by
  simp only [vsEqb,Bool.and_eq_true] at h
  rw [vEqb_ok h.1,vsEqb_ok h.2]
theorem sEqb_ok {a b:SV} (h:sEqb a b=true):a=b:=by
 cases a <;> cases b <;> simp only [sEqb,Bool.false_eq_true] at h
 ·rw [vEqb_ok h]
 ·rw [vsEqb_ok h]
theorem tmpsLe_ok:∀ {as bs:List SV},tmpsLe as bs=true → as.length=bs.length ∧ ∀ (i:Nat) s,as[i]?=some s → s=topS ∨ bs[i]?=some s
 | [],[],_=>⟨rfl,by simp⟩
 | a :: as,b :: bs,h=>by
  simp only [tmpsLe,Bool.and_eq_true,Bool.or_eq_true] at h
  obtain ⟨h1,h2⟩:=tmpsLe_ok h.2
  refine ⟨by simp [h1],fun i s hi=>?_⟩
  cases i with
  | zero =>
   simp at hi
   subst hi
   rcases h.1 with h3 | h3
   ·left
    split at h3
    ·rfl
    ·cases h3
   ·right; rw [sEqb_ok h3]; rfl
  | succ i=>simpa using h2 i s (by simpa using hi)
theorem rowLe_ok {a b:Option Row} (h:rowLe a b=true):a=b:=by
 cases a with
 | none=>cases b with
  | none=>rfl
  | some r=>cases h
 | some q=>cases b with
  | none=>cases h
  | some r =>
   simp only [rowLe,rowEqb,Bool.and_eq_true,beq_iff_eq] at h
   obtain ⟨⟨⟨⟨⟨h1,h2⟩,h3⟩,h4⟩,h5⟩,h6⟩:=h
   cases q; cases r
   simp only at h1 h2 h3 h4 h5 h6
   rw [eqA_ok h1,eqA_ok h2,LKeq_ok h3,h4,h5,h6]
theorem boxLe_ok {a b:Option Box} (h:boxLe a b=true) {x:Box} (hx:a=some x):b=some x:=by
 subst hx
 cases b with
 | none=>cases h
 | some y =>
  simp only [boxLe,Bool.and_eq_true,beq_iff_eq] at h
  obtain ⟨⟨⟨h1,h2⟩,h3⟩,h4⟩:=h
  cases x; cases y
  simp only at h1 h2 h3 h4
  rw [h1,h2,csEqb_ok h3,rowLe_ok h4]
theorem boxesLe_ok:∀ {as bs:List (Option Box)},boxesLe as bs=true → ∀ (i:Nat) b,as[i]?=some (some b) → bs[i]?=some (some b)
 | [],_,_=>by simp
 | a :: as,b :: bs,h=>by
  simp only [boxesLe,Bool.and_eq_true] at h
  intro i x hi
  cases i with
  | zero=>simp at hi; have:=boxLe_ok h.1 hi; simp [this]
  | succ i=>simpa using boxesLe_ok h.2 i x (by simpa using hi)
 | a :: as,[],h=>by
  simp only [boxesLe,Bool.and_eq_true] at h
  intro i x hi
  cases i with
  | zero=>simp at hi; subst hi; cases h.1
  | succ i=>exact absurd (boxesLe_ok h.2 i x (by simpa using hi)) (by simp)
theorem setH_al (σ:St) (cs:List C) (h:Hp):(setH σ cs h).al=σ.al:=by
 cases h with
 | slot t=>simp only [setH]; split <;> rfl
 | box t =>
  simp only [setH]
  split
  ·rename_i id _
   split
   ·rename_i b hb
    have:=al_setBox σ id {b with cells:=cs }
    funext i
    rw [show ({σ with boxes:=σ.boxes.set id (some {b with cells:=cs }) }:St)=σ.setBox id {b with cells:=cs } from rfl,this]
    split
    ·rename_i hi
     rw [hi.1]
     rw [St.box_def] at hb
     split at hb
     ·rename_i b' hb'; exact (al_iff.2 ⟨b',hb'⟩).symm
     ·cases hb
    ·rfl
   ·rfl
  ·rfl
theorem putH_al:∀ (hav:List (Hp × List L)) (nn:Nat) (σ:St),(putH σ nn hav).al=σ.al
 | [],_,_=>rfl
 | (h,ls) :: r,nn,σ=>by simp only [putH]; rw [putH_al r,setH_al]
theorem putH_len:∀ (hav:List (Hp × List L)) (nn:Nat) (σ:St),(putH σ nn hav).tmps.length=σ.tmps.length
 | [],_,_=>rfl
 | (h,ls) :: r,nn,σ=>by simp only [putH]; rw [putH_len r,setH_len]
theorem setH_same (σ:St) (cs:List C) (h:Hp):(setH σ cs h).kn=σ.kn ∧ (setH σ cs h).gl=σ.gl:=by
 cases h <;> simp only [setH] <;> (repeat' split) <;> exact ⟨rfl,rfl⟩
theorem putH_same:∀ (hav:List (Hp × List L)) (nn:Nat) (σ:St),(putH σ nn hav).kn=σ.kn ∧ (putH σ nn hav).gl=σ.gl
 | [],_,_=>⟨rfl,rfl⟩
 | (h,ls) :: r,nn,σ=>by simp only [putH]; rw [(putH_same r _ _).1,(putH_same r _ _).2]; exact setH_same ..
theorem havOk_slot {hav:List (Hp × List L)} (ha:havOk hav=true):∀ q ∈ hav,∀ t,q.1=.box t → ∀ q' ∈ hav,q'.1 ≠ .slot t:=by
 simp only [havOk,List.all_eq_true,Bool.and_eq_true] at ha
 intro q hq t hqt q' hq' hs
 have:=(ha q hq).2
 rw [hqt] at this
 simp only [Bool.not_eq_true',List.any_eq_false] at this
 have:=this q' hq'
 rw [hs] at this
 simp [isSlot] at this
structure HeadOk (σh:St) (N:Nat) (hav:List (Hp × List L)):Prop where
 tmp:∀ (i:Nat) s,σh.tmps[i]?=some s → s=topS ∨ (∃ q ∈ hav,q.1=.slot i) ∨ s.okN N σh.al
 box:∀ (id:Nat) b,σh.boxes[id]?=some (some b) → (∃ (j:Nat) (t:Nat) (ls:List L),hav[j]?=some (.box t,ls) ∧ σh.get t=.vl (.one (.ptr id 0))) ∨ ∀ c ∈ b.cells,C.okN N σh.al c
 row:∀ (id:Nat) (b:Box) (r:Row),σh.boxes[id]?=some (some b) → b.row=some r → r.x.ok N ∧ r.x0.ok N
theorem C.okN_mono {N N':Nat} {al:Nat → Bool} {c:C} (h:c.okN N al) (hn:N ≤ N'):c.okN N' al:=by
 cases c <;> simp only [C.okN] at h ⊢ <;> first | exact A.ok_mono h hn | exact h | exact ⟨h.1,A.ok_mono h.2.1 hn,A.ok_mono h.2.2 hn⟩ | exact ⟨h.1,A.ok_mono h.2 hn⟩
theorem SV.okN_mono {N N':Nat} {al:Nat → Bool} {s:SV} (h:s.okN N al) (hn:N ≤ N'):s.okN N' al:=by
 cases s with
 | vl v=>exact fun c hc=>C.okN_mono (h c hc) hn
 | tup l=>exact fun v hv c hc=>C.okN_mono (h v hv c hc) hn
section
variable {P:Program} {T:List K} {w0:World} {m:M} {σ:St} {a:Act} {w:World}
theorem head_ok (h:Rep w0 m σ a w) {n0 nv' lv:Nat} {hav:List (Hp × List L)} (ha:havOk hav=true) (hn:σ.nv ≤ n0):HeadOk {putH σ n0 hav with nv:=nv',lvl:=lv } n0 hav:=by
 have hal:({putH σ n0 hav with nv:=nv',lvl:=lv }:St).al=σ.al:=putH_al hav n0 σ
 refine ⟨fun i s hi=>?_,fun id b hb=>?_,fun id b r hb hr=>?_⟩
 ·rcases putH_tmps hav n0 σ i s hi with ⟨h1,_⟩ | ⟨j,ls,h1,_⟩
  ·obtain ⟨v,_,hr⟩:=h.tmp i s h1
   exact .inr (.inr (by rw [hal]; exact SV.okN_mono (SV.rel_okN hr) hn))
  ·exact .inr (.inl ⟨_,List.mem_of_getElem? h1,rfl⟩)
 ·have hsl:=havOk_slot ha
  obtain ⟨b0,h1,h2,h3,h4⟩:=putH_boxes hav n0 σ id b hsl hb
  rcases h4 with ⟨rfl,_⟩ | ⟨j,t,ls,h5,h6,_⟩
  ·right
   rw [hal]
   cases ho:b.own with
   | true=>obtain ⟨_,_,vs,_,hr⟩:=h.own id b h1 ho; exact fun c hc=>C.okN_mono (Rels.okN hr c hc) hn
   | false =>
    intro c hc
    rcases h.ro id b h1 ho with h0 | ⟨_,hr⟩
    ·rw [h0] at hc; cases hc
    obtain ⟨j,hj⟩:=List.mem_iff_getElem?.1 hc
    obtain ⟨v,_,hv⟩:=hr j c hj
    exact C.okN_mono (C.rel_okN hv) hn
  ·refine .inl ⟨j,t,ls,h5,?_⟩
   show (putH σ n0 hav).get t=_
   rw [putH_get_eq hav n0 σ t (hsl _ (List.mem_of_getElem? h5) t rfl)]; exact h6
 ·obtain ⟨b0,g1,g2⟩:=putH_row hav n0 σ id b hb
  obtain ⟨r1,r2,_⟩:=h.rows id b0 r g1 (g2.symm.trans hr)
  exact ⟨A.ok_mono r1.1 hn,A.ok_mono r2.1 hn⟩
theorem dropT_rep:∀ (l:List Nat) {σ:St},Rep w0 m σ a w → Rep w0 m (dropT σ l) a w
 | [],_,h=>h
 | t :: r,σ,h=>by
  refine dropT_rep r ?_
  refine ⟨h.defers,by simp [h.size],fun i s hi=>?_,h.below,h.own,h.ro,h.inj,h.kn,h.gl,h.rows,h.rbox,h.rsep⟩
  have hi:(σ.tmps.set t topS)[i]?=some s:=hi
  by_cases hti:t=i
  ·subst hti
   have hlt:t < σ.tmps.length:=by simpa using (List.getElem?_eq_some_iff.1 hi).1
   rw [List.getElem?_set_self hlt] at hi
   cases hi
   obtain ⟨v,hv,_⟩:=h.tmp t _ (List.getElem?_eq_getElem hlt)
   exact ⟨v,hv,trivial⟩
  ·rw [List.getElem?_set_ne hti] at hi
   exact h.tmp i s hi
theorem dropT_same:∀ (l:List Nat) (σ:St),(dropT σ l).nv=σ.nv ∧ (dropT σ l).boxes=σ.boxes ∧ (dropT σ l).kn=σ.kn ∧ (dropT σ l).gl=σ.gl ∧ (dropT σ l).lvl=σ.lvl ∧ (dropT σ l).tmps.length=σ.tmps.length
 | [],_=>⟨rfl,rfl,rfl,rfl,rfl,rfl⟩
 | t :: r,σ=>by
  obtain ⟨h1,h2,h3,h4,h5,h6⟩:=dropT_same r {σ with tmps:=σ.tmps.set t topS }
  exact ⟨h1,h2,h3,h4,h5,h6.trans (by simp)⟩
theorem wp_loop_ex {c:Code} {Q:Exit → Act → World → Prop} (J:Nat → Act → World → Prop) {n0:Nat} (h₀:J n0 a w)
  (round:∀ n a w,J n a w → c.wp P (Exit.then (fun a' w'=>∃ n',n' < n ∧ J n' a' w') Q) a w):(Code.loop c).wp P Q a w:=by
 intro b k cs
 have key:∀ n a w,J n a w → ∃ e a' w',Q e a' w' ∧ Arrives P (lone (b.at a (.code c :: .inLoop c :: k)) cs w) b k cs e a' w':=by
  intro n
  induction n using Nat.strongRecOn with
  | _ n ih =>
   intro a w hI
   obtain ⟨e,a₁,w₁,hq,harr⟩:=round n a w hI b (.inLoop c :: k) cs
   cases e with
   | normal =>
    obtain ⟨n',hlt,hI₁⟩:=hq
    obtain ⟨e₂,a₂,w₂,hq₂,harr₂⟩:=ih n' hlt a₁ w₁ hI₁
    exact ⟨e₂,a₂,w₂,hq₂,.of_steps (Steps.trans harr (.one step_inLoop)) harr₂⟩
   | exit id=>exact ⟨_,a₁,w₁,hq,.pass (x:=.inLoop c) rfl (fun _ _=>.inl (by simp)) harr⟩
   | goto l=>exact ⟨_,a₁,w₁,hq,.pass (x:=.inLoop c) rfl (fun _ _=>.inl (by simp)) harr⟩
   | ret=>exact ⟨_,a₁,w₁,hq,.pass (x:=.inLoop c) rfl (fun _ _=>.inl (by simp)) harr⟩
   | panic ch=>exact ⟨_,a₁,w₁,hq,.pass (x:=.inLoop c) rfl (fun _ _=>.inl (by simp)) harr⟩
   | outgrown=>exact ⟨_,a₁,w₁,hq,.pass (x:=.inLoop c) rfl (fun _ _=>.inl (by simp)) harr⟩
 obtain ⟨e,a',w',hq,harr⟩:=key _ a w h₀
 exact ⟨e,a',w',hq,.of_steps (.one step_loop) harr⟩
theorem updL_low:∀ (vs:List Int) (e:Nat → Int) (n i:Nat),i < n → updL e n vs i=e i
 | [],_,_,_,_=>rfl
 | v :: vs,e,n,i,h=>by
  simp only [updL]
  rw [updL_low vs _ _ _ (by omega)]
  simp [upd]; omega
theorem updL_get:∀ (vs:List Int) (e:Nat → Int) (n i:Nat) (x:Int),vs[i]?=some x → updL e n vs (n + i)=x
 | [],_,_,_,_,h=>by simp at h
 | v :: vs,e,n,0,x,h=>by
  simp at h; subst h
  simp only [updL]
  rw [updL_low vs _ _ _ (by omega)]
  simp [upd]
 | v :: vs,e,n,i + 1,x,h=>by
  simp only [updL]
  have:=updL_get vs (upd e n v) (n + 1) i x (by simpa using h)
  rwa [show n + 1 + i=n + (i + 1) by omega] at this
def GExt (g g':Gl):Prop:=g'.goal=g.goal ∧ ∃ r,g'.stk=g.stk ++ r
theorem GExt.refl (g:Gl):GExt g g:=⟨rfl,[],by simp⟩
theorem GExt.trans {g g' g'':Gl} (h:GExt g g') (k:GExt g' g''):GExt g g'':=by
 obtain ⟨h1,r,h2⟩:=h
 obtain ⟨k1,s,k2⟩:=k
 exact ⟨k1.trans h1,r ++ s,by rw [k2,h2,List.append_assoc]⟩
def exitOf:Ex → Exit | .normal=>.normal | .exit id=>.exit id | .ret=>.ret
end
end Go.Sx

namespace Go.Sx
open Go Go.RowKit
section
variable {P:Program} {T:List K} {w0:World} {m:M} {σ:St} {a:Act} {w:World} {o:Oper}
theorem flat_snoc (k:LK) (l:List Int) (x:Int):flat k (l ++ [x])=flat k l ++ k.vals x:=by simp [flat]
structure GrowSpec (P:Program) (σ:St) (nn:Nat) (o:Oper) (g:Grow) (s x:Operand) (t:TypeId) (i:TypeInfo) (z:Value) (id off cap:Nat) (b:Box):Prop where
 op:o.op=.call {callee:=.builtin .append,args:=#[s,x],argTypes:=#[t,t] }
 und:P.underlying t=some (.slice g.elem)
 info:P.info? g.elem=some i
 zero:i.zero=some z
 zs:z.cells.size=i.size
 size:i.size=g.k.sz
 bytes:i.bytes ≤ 16384
 cell:σ.cell x=some (.slice id off 1 cap)
 box:σ.box id=some b
 len:g.k.sz ≤ (b.cells.drop off).length
 take:takeK nn g.k ((b.cells.drop off).take g.k.sz)=some (g.defs,g.a)
 old:(g.old=none ∧ g.x0=.lit 0 ∧ σ.cell s=some .nilslice) ∨ ∃ id' r,g.old=some id' ∧ g.x0=r.x ∧ σ.cell s=some (.sl id') ∧ σ.row id'=some r ∧ r.own=true ∧ r.elem=g.elem ∧ r.k=g.k
theorem grow_spec {nn:Nat} {g:Grow} (h:growP P σ nn o.op=some g):∃ s x t i z id off cap b,GrowSpec P σ nn o g s x t i z id off cap b:=by
 unfold growP at h
 split at h
 ·rename_i c hop
  split at h
  ·rename_i t t' s x hc ht hx
   split at h
   ·rename_i htt
    split at h
    ·rename_i e hu
     split at h
     ·rename_i i k hi hk
      split at h
      ·rename_i z hz
       split at h
       ·rename_i hcond
        simp only [Bool.and_eq_true,beq_iff_eq,decide_eq_true_eq] at hcond
        split at h
        ·rename_i id off cap hcx
         split at h
         ·rename_i b hb
          split at h
          ·rename_i hlen
           split at h
           ·rename_i ds y htk
            have hop':o.op=.call {callee:=.builtin .append,args:=#[s,x],argTypes:=#[t,t] }:=by
             have htt':t=t':=by simpa using htt
             subst htt'
             rw [hop]
             obtain ⟨callee,args,tys⟩:=c
             simp only at hc ht hx
             subst hc
             have ea:args=#[s,x]:=Array.ext' (by simpa using hx)
             have et:tys=#[t,t]:=Array.ext' (by simpa using ht)
             rw [ea,et]
            split at h
            ·rename_i hs
             cases h
             exact ⟨s,x,t,i,z,id,off,cap,b,⟨hop',hu,hi,hz,hcond.1.1,hcond.1.2,hcond.2,hcx,hb,by simpa using hlen,htk,.inl ⟨rfl,rfl,hs⟩⟩⟩
            ·rename_i id' hs
             split at h
             ·rename_i r hr
              split at h
              ·rename_i hrc
               simp only [Bool.and_eq_true,beq_iff_eq] at hrc
               cases h
               exact ⟨s,x,t,i,z,id,off,cap,b,⟨hop',hu,hi,hz,hcond.1.1,hcond.1.2,hcond.2,hcx,hb,by simpa using hlen,htk,.inr ⟨id',r,rfl,rfl,hs,hr,hrc.1.1,hrc.1.2,LKeq_ok hrc.2⟩⟩⟩
              ·cases h
             ·cases h
            ·cases h
           ·cases h
          ·cases h
         ·cases h
        ·cases h
       ·cases h
      ·cases h
     ·cases h
    ·cases h
   ·cases h
  ·cases h
 ·cases h
theorem grow_ok (hR:Rep w0 m σ a w) {nid:Nat} (hn:σ.boxes[nid]?=some none) {g:Grow} (hg:growP P σ σ.nv o.op=some g) {goal:Gl} {t:Tree} {K:Act → World → Prop} {Q:Exit → Act → World → Prop}
  (hh:(letts σ.nv (g.defs ++ [(.int .i64,.llen g.x0),(.bit,.cmp .lss (.var (σ.nv + g.defs.length)) (.lit 4294967296))]) (.nz (.var (σ.nv + (g.defs.length + 1))) (.lett (σ.nv + (g.defs.length + 2)) (.lst g.k) (.lapp g.x0 [g.a]) t))).holds T goal m.env)
  (hK:∀ m' a' w',MExt m σ.nv σ.al m' (growS σ nid g o.dst).nv (growS σ nid g o.dst).al → Rep w0 m' (growS σ nid g o.dst) a' w' → t.holds T goal m'.env → K a' w'):o.wp P a w K Q:=by
 obtain ⟨s,x,ty,i,z,id,off,cap,b,G⟩:=grow_spec hg
 obtain ⟨vs,hvl,hr,hv⟩:=hR.reads G.box off g.k.sz G.len
 obtain ⟨k1,k3⟩:=takeK_ok (T:=T) G.take m σ.nv vs hr
 obtain ⟨k1,k4⟩:=k1 (Nat.le_refl _)
 have hx0:g.x0.wf σ.nv m.env ∧ g.k.hasL (dec (g.x0.ev m.env)) ∧ w.ownsRow w0.heap.size g.elem g.k.sz (a.eval s) (dec (g.x0.ev m.env)).length (flat g.k (dec (g.x0.ev m.env))) ∧
   (match g.old with | none=>(a.eval s).ownBlock=none | some id=>∃ b q,σ.boxes[id]?=some (some b) ∧ b.row=some q ∧ q.own=true ∧ m.sv id=a.eval s):=by
  rcases G.old with ⟨h1,h2,h3⟩ | ⟨id',r,h1,h2,h3,h4,h5,h6,h7⟩
  ·have hs:a.eval s=.slice none 0 0:=hR.cell h3
   rw [h1,h2,hs]
   simp only [A.ev,dec_zero]
   exact ⟨⟨trivial,trivial⟩,⟨by simp,by simp⟩,World.ownsRow_nil ..,rfl⟩
  ·have hs:σ.al id'=true ∧ a.eval s=m.sv id' ∧ (a.eval s).oneCell'=true:=hR.cell h3
   obtain ⟨q1,q2,_,_,q3⟩:=hR.row_ok h4
   obtain ⟨bx,hbx,hbr⟩:=row_box h4
   have q4:=q3.2.1
   rw [h5] at q4
   simp only [if_true] at q4
   rw [h1,h2,← h6,← h7,hs.2.1]
   exact ⟨q2,q3.1,q4,bx,r,hbx,hbr,h5,rfl⟩
 obtain ⟨x1,x2,x3,x4⟩:=hx0
 generalize hl:dec (g.x0.ev m.env)=l at x2 x3
 have gen:GenOk T m.env σ.nv (g.defs ++ [(.int .i64,.llen g.x0),(.bit,.cmp .lss (.var (σ.nv + g.defs.length)) (.lit 4294967296))]):=by
  refine gen_append _ _ _ _ k1 fun e' he _=>⟨A.ok_mono x1.1 (by omega),?_,⟨Nat.lt_succ_self _,trivial⟩,b2i_bit _,trivial⟩
  simp only [KK.has,D.ev]
  rw [A.ev_congr x1.1 he,hl]
  have:=x2.1
  simp only [has,lo,hi]; omega
 obtain ⟨e1,b1,b2,b3,b4⟩:=letts_holds _ _ _ hh gen
 obtain ⟨c1,c2⟩:=(Told.append).1 b3
 have hx0e:g.x0.ev e1=g.x0.ev m.env:=A.ev_congr x1.1 b1
 have d0:e1 (σ.nv + g.defs.length)=(l.length:Int):=by
  have:=(c2 0 _ _ rfl).1
  simpa [D.ev,hx0e,hl] using this
 have d1:e1 (σ.nv + g.defs.length + 1)=b2i (decide (e1 (σ.nv + g.defs.length) < 4294967296)):=(c2 1 _ _ rfl).1
 obtain ⟨nzf,lt⟩:=b4
 have hlen:l.length < 4294967296:=by
  have:e1 (σ.nv + g.defs.length + 1) ≠ 0:=nzf
  rw [d1,d0] at this
  by_cases hc:(l.length:Int) < 4294967296
  ·omega
  ·simp [hc,b2i] at this
 obtain ⟨v1,v2⟩:=k3 e1 b1 c1
 generalize hy:g.a.ev e1=y at v1 v2
 have hd:D.ev T e1 (.lapp g.x0 [g.a])=enc (l ++ [y]):=by simp only [D.ev,hx0e,hl,List.map_cons,List.map_nil,hy]
 have hhas:g.k.hasL (l ++ [y]):=⟨by simp; omega,fun q hq=>by
  rcases List.mem_append.1 hq with hq | hq
  ·exact x2.2 q hq
  ·rw [List.mem_singleton.1 hq]; exact v2⟩
 have t1:=lt (enc (l ++ [y])) hd.symm (by simp only [KK.has,dec_enc]; exact hhas)
 have henv:∀ j,j < σ.nv → upd e1 (σ.nv + (g.defs.length + 2)) (enc (l ++ [y])) j=m.env j:=fun j hj=>by
  simp only [upd]; rw [if_neg (by omega)]; exact b1 j hj
 have hnm:=hR.names _ henv (σ.nv + (g.defs.length + 3)) (by omega)
 have hxc:=hR.cell G.cell
 refine wp_append_lies w s x ty G.op w0.heap.size g.elem i z g.k.sz i.bytes G.und G.info G.zero G.size rfl (G.zs.trans G.size) (sz_pos _) (a.eval s) l.length (flat g.k l) rfl x3 (m.at id off) 1 cap vs hxc.2 (by rw [hvl,Nat.one_mul]) hv
  (by rw [← v1]; exact vals_one _ _) (by omega) (by simp only [maxLen]; omega) ?_ hR.below.size w.heap.size rfl fun gb cap' w' hown' hgrow hat hlt=>?_
 ·have:=G.bytes
  have h1:(l.length + 1) * i.bytes ≤ 4294967296 * 16384:=Nat.mul_le_mul (by omega) this
  omega
 ·have hn':({σ with nv:=σ.nv + (g.defs.length + 3) }:St).boxes[nid]?=some none:=hn
  have hev:dec (A.ev (upd e1 (σ.nv + (g.defs.length + 2)) (enc (l ++ [y]))) (.var (σ.nv + (g.defs.length + 2))))=l ++ [y]:=by simp [A.ev,upd,dec_enc]
  obtain ⟨r1,r2⟩:=grow_rep hnm hn' (old:=g.old) (v0:=a.eval s) (v:=.slice (some ⟨gb,0,none⟩) (l.length + 1) cap') (w':=w') (r:={x:=.var (σ.nv + (g.defs.length + 2)),x0:=.var (σ.nv + (g.defs.length + 2)),k:=g.k,elem:=g.elem,own:=true,full:=false }) hgrow
   (by rw [hev]; exact ⟨hhas,by simp only [if_true]; rw [flat_snoc,v1,List.length_append]; exact hown',fun h=>by cases h⟩) ⟨by show σ.nv + (g.defs.length + 2) < σ.nv + (g.defs.length + 3); omega,trivial⟩ rfl x4 (fun g hg=>by cases hg; exact hat)
  have eq:growS σ nid g o.dst=(({σ with nv:=σ.nv + (g.defs.length + 3),boxes:=Sx.noRows σ.boxes g.old.toList }:St).setBox nid (rowBox {x:=.var (σ.nv + (g.defs.length + 2)),x0:=.var (σ.nv + (g.defs.length + 2)),k:=g.k,elem:=g.elem,own:=true,full:=false })).put o.dst (.vl (.one (.sl nid))):=by
   unfold growS; rw [lset_eq]; rfl
  have hnl:nid < (Sx.noRows σ.boxes g.old.toList).length:=by rw [noRows_len]; exact (List.getElem?_eq_some_iff.1 hn).1
  have fin:=r1.put (s:=.vl (.one (.sl nid))) (v:=.slice (some ⟨gb,0,none⟩) (l.length + 1) cap') ⟨by
   rw [al_setBox]; simp [hnl],by simp [M.row],rfl⟩ o.dst
  have hal:∀ (τ:St) (d:Option Nat) (q:SV),(τ.put d q).al=τ.al ∧ (τ.put d q).nv=τ.nv:=fun τ d q=>by cases d <;> exact ⟨rfl,rfl⟩
  refine hK _ _ _ ?_ (by rw [eq]; exact fin) t1
  rw [eq,(hal _ _ _).1,(hal _ _ _).2]
  refine MExt.trans (m':={m with env:=upd e1 (σ.nv + (g.defs.length + 2)) (enc (l ++ [y])) }) (nv':=σ.nv + (g.defs.length + 3)) (al':=σ.al) ⟨henv,fun _ _=>rfl,rfl,fun _ _=>rfl,by omega,fun _ h=>h⟩ r2
end
end Go.Sx
