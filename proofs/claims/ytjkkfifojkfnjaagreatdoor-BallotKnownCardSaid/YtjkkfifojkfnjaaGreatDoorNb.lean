/- Part Nb of the proof. -/
import Derived.Test.YtjkkfifojkfnjaaGreatDoorNa
import Derived.ProofKit
import Derived.OpenShut
import Derived.WideKeyArr2
import Derived.Carry
set_option linter.unusedVariables false
set_option linter.unusedSimpArgs false

namespace Go.Sx
open Go
noncomputable section
def cOf:Value->Option C
 | .int k n=>if hasB k n then some (.int k (.lit n)) else none
 | .bool b=>some (.bool (.lit (b2i b)))
 | .string s=>some (.str s)
 | .pointer none=>some .nil
 | .slice none 0 0=>some .nilslice
 | .nilFunc=>some .nilfn
 | .nilIface=>some .niliface
 | .map none=>some .nilmap
 | _=>none
def mapO {α β:Type} (f:α->Option β):List α->Option (List β)
 | []=>some []
 | x::xs=>match f x with
  | none=>none
  | some y=>match mapO f xs with
   | none=>none
   | some ys=>some (y::ys)
def vOf:Value->Option V
 | .agg cs=>(mapO cOf cs.toList).map .agg
 | v=>(cOf v).map .one
def look (l:List (Nat×Nat)) (n:Nat):Option Nat :=
 match l with
 | []=>none
 | p::r=>if p.1==n then some p.2 else look r n
def lookB (l:List (Nat×Bool)) (n:Nat):Option Bool :=
 match l with
 | []=>none
 | p::r=>if p.1==n then some p.2 else lookB r n
def St.get (Y:St) (t:Nat):SV:=(lget? Y.tmps t).getD (.tup [])
theorem St.get_def (Y:St) (t:Nat):Y.get t=Y.tmps.getD t (.tup []):=by rw [St.get,lget?_eq,List.getD_eq_getElem?_getD]
def St.val (Y:St):Operand->Option SV
 | .tmp t=>some (Y.get t)
 | .const v=>(vOf v).map .vl
 | .func f=>some (.vl (.one (.fn f [])))
 | .global g=>(look Y.gl g).map fun id=>.vl (.one (.ptr id 0))
def St.box (Y:St) (id:Nat):Option Box:=match lget? Y.boxes id with | some (some b)=>some b | _=>none
theorem St.box_def (Y:St) (id:Nat):Y.box id=match Y.boxes[id]? with | some (some b)=>some b | _=>none:=by rw [St.box,lget?_eq]
def St.cell (Y:St) (x:Operand):Option C:=match Y.val x with | some (.vl (.one c))=>some c | _=>none
def St.v (Y:St) (x:Operand):Option V:=match Y.val x with | some (.vl c)=>some c | _=>none
def C.solid:C->Bool | .top=>false | _=>true
def V.cells:V->List C | .one c=>[c] | .agg cs=>cs
def A.lit?:A->Option Int | .lit n=>some n | _=>none
def szOf (P:Program) (t:TypeId):Option Nat:=(P.info? t).map (·.size)
def isAggB (d:TypeDesc):Bool:=match d with | .struct _ | .array _ _=>true | _=>false
structure Val where
 kk:KK
 d:D
def litD (d:D):Option Int :=
 match d with
 | .bin op k (.lit a) (.lit b)=>some (binE op k a b)
 | .cmp op (.lit a) (.lit b)=>some (b2i (cmpE op a b))
 | .conv k (.lit a)=>some (wr k a)
 | .not (.lit a)=>some (if a=0 then 1 else 0)
 | .eqs l=>match mapO (fun p:A×A=>match p with | (.lit a,.lit b)=>some (a==b) | _=>none) l with
  | some bs=>some (b2i (bs.all id))
  | none=>none
 | _=>none
abbrev Defs:=List (KK×D)
def mk (nn:Nat) (kk:KK) (d:D):Defs×A :=
 match litD d with
 | some n=>([],.lit n)
 | none=>([(kk,d)],.var nn)
inductive Upd where
 | cells (off:Nat) (cs:List C)
 | row (x:A)
 | mark
def Box.upd (b:Box):Upd->Box
 | .cells off cs=>{b with cells:=b.cells.take off++cs++b.cells.drop (off+cs.length) }
 | .row x=>match b.row with
  | some r=>{b with row:=some {r with x:=x } }
  | none=>b
 | .mark=>{b with fz:=(b.cells.length,b.cells.length+1) }
def rowBox (r:Row):Box:={cells:=[],elem:=r.elem,own:=false,row:=some r }
inductive Eff where
 | none
 | new (b:Box)
 | wr (id:Nat) (u:Upd)
 | extv
 | grow (old:Option Nat) (b:Box)
structure Plan where
 val:SV
 defs:Defs:=[]
 eff:Eff:=.none
 reqs:List (Nat×List A):=[]
 post:Defs:=[]
 nz:List A:=[]
inductive Pl where
 | ok (p:Plan)
 | call (f:FuncId) (args:List V)
 | need (n:Nat)
 | bad (why:Nat)
def sixA (cs:List C):Option (List A) :=
 match cs with
 | [.int .u64 a,.int .u64 b,.int .u64 c,.int .u64 d,.int .u64 e,.int .u64 f]=>some [a,b,c,d,e,f]
 | _=>none
def uni (as:List A):Option Nat :=
 match as with
 | [.limb n 0,.limb n1 1,.limb n2 2,.limb n3 3,.limb n4 4,.limb n5 5] =>
  if n==n1&&n==n2&&n==n3&&n==n4&&n==n5 then some n else none
 | _=>none
def litsJ (as:List A):Option Int:=(mapO A.lit? as).map joinE
def numA (nn:Nat) (as:List A):Defs×A :=
 match uni as with
 | some n=>([],.var n)
 | none=>match litsJ as with
  | some n=>([],.lit n)
  | none=>([(.num,.join as)],.var nn)
def cEq:C->C->Bool
 | .int k (.lit a),.int k' (.lit b)=>k==k'&&a==b
 | .bool (.lit a),.bool (.lit b)=>a==b
 | .fn f [],.fn g []=>f==g
 | .str a,.str b=>decide (a=b)
 | .nil,.nil=>true
 | .nilslice,.nilslice=>true
 | .nilfn,.nilfn=>true
 | .nilmap,.nilmap=>true
 | .niliface,.niliface=>true
 | _,_=>false
def intA (k:IntKind):C->Option A | .int k' a=>if k==k' then some a else none | _=>none
def eltsFrom (k:IntKind) (n j:Nat):List A->Bool
 | []=>true
 | .elt k' m i::r=>k'==k&&m==n&&i==j&&eltsFrom k n (j+1) r
 | _=>false
def eltU (k:IntKind) (as:List A):Option Nat :=
 match as with
 | .elt _ n _::_=>if eltsFrom k n 0 as then some n else none
 | _=>none
def arrA (nn:Nat) (k:IntKind) (as:List A):Defs×A :=
 match eltU k as with
 | some n=>([(.arr k as.length,.lsub (.var n) (.lit 0) (.lit as.length))],.var nn)
 | none=>([(.arr k as.length,.lapp (.lit 0) as)],.var nn)
def eltCs (k:IntKind) (nn:Nat):Nat->Nat->List C
 | 0,_=>[]
 | n+1,j=>.int k (.elt k nn j)::eltCs k nn n (j+1)
def takeLs (nn:Nat):List L->List C->Option (Defs×List A)
 | [],[]=>some ([],[])
 | .cst c::ls,c'::cs=>if cEq c c' then takeLs nn ls cs else none
 | .int k::ls,.int k' a::cs=>if k==k' then (takeLs nn ls cs).map fun r=>(r.1,a::r.2) else none
 | .bool::ls,.bool a::cs=>match a with
  | .lit n=>if n==0 || n==1 then (takeLs nn ls cs).map fun r=>(r.1,a::r.2) else none
  | _=>(takeLs nn ls cs).map fun r=>(r.1,a::r.2)
 | .num::ls,a::b::c::d::e::f::cs=>match sixA [a,b,c,d,e,f] with
  | none=>none
  | some as=>match takeLs (nn+(numA nn as).1.length) ls cs with
   | none=>none
   | some r=>some ((numA nn as).1++r.1,(numA nn as).2::r.2)
 | .arr k n::ls,cs=>match mapO (intA k) (cs.take n) with
  | none=>none
  | some as=>if as.length==n&&decide (n<=1024) then match takeLs (nn+(arrA nn k as).1.length) ls (cs.drop n) with
    | none=>none
    | some r=>some ((arrA nn k as).1++r.1,(arrA nn k as).2::r.2)
   else none
 | _,_=>none
def St.row (Y:St) (id:Nat):Option Row:=match Y.box id with | some b=>b.row | none=>none
def isZ:A->Bool | .lit n=>n==0 | _=>false
theorem isZ_ok {a:A} (h:isZ a=true):a=.lit 0:=by
 cases a <;> simp [isZ] at h <;> simp [h]
def LK.leaf:LK->L | .num=>.num | .int k=>.int k | .tup _ _=>.bool | .byt=>.bool
def LL.leaf:LL->L | .num=>.num | .int k=>.int k | .bit=>.bool
def oneA (r:Option (Defs×List A)):Option (Defs×A):=match r with | some (ds,[y])=>some (ds,y) | _=>none
def takeK (nn:Nat) (k:LK) (cs:List C):Option (Defs×A) :=
 match k with
 | .num=>oneA (takeLs nn [.num] cs)
 | .int k=>oneA (takeLs nn [.int k] cs)
 | .tup l ls=>match takeLs nn ((l::ls).map LL.leaf) cs with
  | some (ds,as)=>some (ds++[(.any,.lapp (.lit 0) as)],.var (nn+ds.length))
  | none=>none
 | .byt=>none
def takeNK (k:LK):Nat->Nat->List C->Option (Defs×List A)
 | _,0,cs=>match cs with | []=>some ([],[]) | _=>none
 | nn,n+1,cs=>match takeK nn k (cs.take k.sz) with
  | none=>none
  | some d=>match takeNK k (nn+d.1.length) n (cs.drop k.sz) with
   | none=>none
   | some r=>some (d.1++r.1,d.2::r.2)
def takeSh (Y:St) (nn:Nat):Sh->V->Option (Defs×List A)
 | .one l,.one c=>takeLs nn [l] [c]
 | .agg ls,.agg cs=>takeLs nn ls cs
 | .ptr ls,.one (.ptr id off)=>match Y.box id with
  | none=>none
  | some b=>takeLs nn ls ((b.cells.drop off).take (ls.foldl (fun n l=>n+(match l with | .num=>6 | .lst _=>0 | .arr _ n=>n | _=>1)) 0))
 | .lst k,.one (.sl id)=>match Y.row id with
  | some r=>if r.k.eq k then some ([],[r.x]) else none
  | none=>none
 | .lst _,.one .nilslice=>some ([],[.lit 0])
 | .lst k,.one (.rol a)=>if k.eq (.int .u8) then some ([],[a]) else none
 | .lst k,.one (.slv id lo hi k')=>match Y.row id with
  | some r=>if r.k.eq k&&k'.eq k then some ([(.lst k,.lsub r.x lo hi)],[.var nn]) else none
  | none=>none
 | .lent k,.one (.sl id)=>match Y.row id with
  | some r=>if r.k.eq k&&r.full then some ([(.int .i64,.llen r.x0)],[r.x,.var nn]) else none
  | none=>none
 | .lent k,.one (.slv id lo hi k')=>match Y.row id with
  | some r=>if r.k.eq k&&k'.eq k&&r.full&&isZ lo then some ([],[r.x,hi]) else none
  | none=>none
 | .lent _,.one .nilslice=>some ([],[.lit 0,.lit 0])
 | .lst k,.one (.slice id off n c)=>match Y.box id with
  | none=>none
  | some b=>if decide (0<n)&&decide (n<=c)&&decide (n<=1024)&&decide (n*k.sz<=(b.cells.drop off).length) then
    match takeNK k nn n ((b.cells.drop off).take (n*k.sz)) with
    | some (ds,as)=>some (ds++[(.lst k,.lapp (.lit 0) as)],[.var (nn+ds.length)])
    | none=>none
   else none
 | .lst k,.one (.slS id off hi n)=>match Y.box id with
  | none=>none
  | some b=>if decide (0<n)&&decide (n<=1024)&&decide (n*k.sz<=(b.cells.drop off).length) then
    match takeNK k nn n ((b.cells.drop off).take (n*k.sz)) with
    | some (ds,as)=>some (ds++[(.lst k,.lapp (.lit 0) as),(.lst k,.lsub (.var (nn+ds.length)) (.lit 0) hi)],[.var (nn+(ds.length+1))])
    | none=>none
   else none
 | _,_=>none
def takeRs (Y:St):Nat->List C->Option (Defs×List A)
 | _,[]=>some ([],[])
 | nn,c::cs=>match takeSh Y nn (.lst (.int .u8)) (.one c) with
  | some (ds,[y])=>match takeRs Y (nn+ds.length) cs with
   | some r=>some (ds++r.1,y::r.2)
   | none=>none
  | _=>none
def takeLl (Y:St) (nn:Nat):V->Option (Defs×List A)
 | .one (.ll a)=>some ([],[a])
 | .one .nilslice=>some ([],[.lit 0])
 | .one (.slice id off n c)=>match Y.box id with
  | none=>none
  | some b=>if decide (0<n)&&decide (n<=c)&&decide (n<=1024)&&decide (n<=(b.cells.drop off).length) then
    match takeRs Y nn ((b.cells.drop off).take n) with
    | some r=>some (r.1++[(.lst .byt,.lapp (.lit 0) r.2)],[.var (nn+r.1.length)])
    | none=>none
   else none
 | _=>none
def isLl:Sh->Bool | .ll=>true | _=>false
def takeArg (Y:St) (nn:Nat) (s:Sh) (v:V):Option (Defs×List A):=if isLl s then takeLl Y nn v else takeSh Y nn s v
def takeIns (Y:St) (nn:Nat):List Sh->List V->Option (Defs×List A)
 | [],[]=>some ([],[])
 | s::ss,v::vs=>match takeArg Y nn s v with
  | none=>none
  | some d=>match takeIns Y (nn+d.1.length) ss vs with
   | none=>none
   | some r=>some (d.1++r.1,d.2++r.2)
 | _,_=>none
def kkOf:L->KK | .int k=>.int k | .num=>.num | .lst k=>.lst k | .arr k n=>.arr k n | _=>.bit
def putLs (g:Nat) (args:List A) (nn j:Nat):List L->Defs×List C
 | []=>([],[])
 | .cst c::ls=>let r:=putLs g args nn j ls;(r.1,(if cstB c then c else .top)::r.2)
 | .int k::ls=>let r:=putLs g args (nn+1) (j+1) ls;((.int k,.app g j args)::r.1,.int k (.var nn)::r.2)
 | .bool::ls=>let r:=putLs g args (nn+1) (j+1) ls;((.bit,.app g j args)::r.1,.bool (.var nn)::r.2)
 | .lst k::ls=>let r:=putLs g args (nn+1) (j+1) ls;((.lst k,.app g j args)::r.1,r.2)
 | .arr k n::ls=>let r:=putLs g args (nn+1) (j+1) ls;((.arr k n,.app g j args)::r.1,eltCs k nn n 0++r.2)
 | .num::ls=>let r:=putLs g args (nn+1) (j+1) ls
  ((.num,.app g j args)::r.1,[C.int .u64 (.limb nn 0),.int .u64 (.limb nn 1),.int .u64 (.limb nn 2),.int .u64 (.limb nn 3),.int .u64 (.limb nn 4),.int .u64 (.limb nn 5)]++r.2)
def putOuts (g:Nat) (args:List A) (nn j nid:Nat):List Oh->Option (Defs×List V×Option Box)
 | []=>some ([],[],none)
 | .one l::os =>
  let r:=putLs g args nn j [l]
  match putOuts g args (nn+lcount [l]) (j+lcount [l]) nid os with
  | none=>none
  | some q=>match r.2 with
   | [c]=>some (r.1++q.1,.one c::q.2.1,q.2.2)
   | _=>none
 | .agg ls::os =>
  let r:=putLs g args nn j ls
  match putOuts g args (nn+lcount ls) (j+lcount ls) nid os with
  | none=>none
  | some q=>some (r.1++q.1,.agg r.2::q.2.1,q.2.2)
 | .box e ls::os =>
  let r:=putLs g args nn j ls
  match putOuts g args (nn+lcount ls) (j+lcount ls) nid os with
  | none=>none
  | some q=>match q.2.2 with
   | none=>some (r.1++q.1,.one (.ptr nid 0)::q.2.1,some {cells:=r.2,elem:=e,own:=true })
   | some _=>none
 | .frz e ls::os =>
  let r:=putLs g args nn j ls
  match putOuts g args (nn+lcount ls) (j+lcount ls) nid os with
  | none=>none
  | some q=>match q.2.2 with
   | none=>some (r.1++q.1,.one (.slice nid 0 r.2.length r.2.length)::q.2.1,some {cells:=r.2,elem:=e,own:=true,fz:=(r.2.length,r.2.length+1) })
   | some _=>none
 | .lst e k::os =>
  let r:=putLs g args nn j [.lst k]
  match putOuts g args (nn+1) (j+1) nid os with
  | none=>none
  | some q=>match q.2.2 with
   | none=>some (r.1++q.1,.one (.sl nid)::q.2.1,some (rowBox {x:=.var nn,x0:=.var nn,k:=k,elem:=e,own:=true,full:=false }))
   | some _=>none
 | .lent e k::os =>
  let r:=putLs g args nn j [.lst k,.int .i64]
  match putOuts g args (nn+2) (j+2) nid os with
  | none=>none
  | some q=>match q.2.2 with
   | none=>some (r.1++q.1,.one (.slv nid (.lit 0) (.var (nn+1)) k)::q.2.1,some (rowBox {x:=.var nn,x0:=.var nn,k:=k,elem:=e,own:=true,full:=true }))
   | some _=>none
def putK (X:K) (g:Nat) (args:List A) (nn nid:Nat):Option (Defs×List V×Option Box) :=
 match X.fold,X.outs,mapO A.lit? args with
 | true,[.one (.int k)],some xs=>if hasB k ((X.sem xs).getD 0 0) then some ([],[V.one (.int k (.lit ((X.sem xs).getD 0 0)))],none) else putOuts g args nn 0 nid X.outs
 | _,_,_=>putOuts g args nn 0 nid X.outs
def retS:List V->SV
 | [v]=>.vl v
 | vs=>.tup vs
def findK (T:List K) (f:FuncId):Nat->Option (Nat×K)
 | g=>match T with
  | []=>none
  | X::r=>if X.fn==f then some (g,X) else findK r f (g+1)
def cstFit:List Sh->List V->Bool
 | .one (.cst c)::ss,.one c'::vs=>cEq c c'&&cstFit ss vs
 | _::ss,_::vs=>cstFit ss vs
 | _,_=>true
def pickK (T:List K) (f:FuncId) (vs:List V):Nat->Option (Nat×K)
 | g=>match T with
  | []=>none
  | X::r=>if X.fn==f&&cstFit X.ins vs then some (g,X) else pickK r f vs (g+1)
def findC (T:List K) (f:FuncId) (vs:List V):Option (Nat×K) :=
 match pickK T f vs 0 with
 | some r=>some r
 | none=>findK T f 0
inductive Tr where | yes | no | need (n:Nat) | bad
def okP (v:C):Pl:=.ok {val:=.vl (.one v) }
def mkP (nn:Nat) (kk:KK) (d:D) (c:A->C):Pl:=let r:=mk nn kk d;.ok {val:=.vl (.one (c r.2)),defs:=r.1 }
def truth (Y:St):A->Tr
 | .lit n=>if n=0 then .no else .yes
 | .var n=>match lookB Y.kn n with | some true=>.yes | some false=>.no | none=>.need n
 | _=>.bad
def idx (Y:St) (x:Operand):Option Nat :=
 match Y.cell x with
 | some (.int _ (.lit n))=>if 0<=n then some n.toNat else none
 | _=>none
def fillC (place:Nat->Option (Nat×Nat)) (cells:List C):List (Nat×List C)->Option (List C)
 | []=>some cells
 | (i,v)::rest=>match place i with
  | none=>none
  | some (off,size)=>if v.length≠size || cells.length<off+v.length then none
   else fillC place (cells.take off++v++cells.drop (off+v.length)) rest
def subKind:IntKind->IntKind->Bool
 | .u8,.i64 | .u8,.u64 | .u8,.u32 | .u8,.u16 | .u8,.i32 | .u8,.i16 | .u16,.u32 | .u16,.i32 | .u16,.i64 | .u16,.u64 | .u32,.i64 | .u32,.u64 | .i32,.i64 | .i8,.i64=>true
 | a,b=>a==b
end
noncomputable section
def eqN (f:List C->List C->Option (List (A×A)×List C×List C)):Nat->List C->List C->Option (List (A×A)×List C×List C)
 | 0,xs,ys=>some ([],xs,ys)
 | n+1,xs,ys=>match f xs ys with
  | none=>none
  | some r=>match eqN f n r.2.1 r.2.2 with
   | none=>none
   | some q=>some (r.1++q.1,q.2)
def eqFs (f:TypeId->List C->List C->Option (List (A×A)×List C×List C)) (sz:TypeId->Option Nat):List Field->Nat->List C->List C->Option (List (A×A)×Nat×List C×List C)
 | [],n,xs,ys=>some ([],n,xs,ys)
 | fd::fs,n,xs,ys=>if fd.name == "_" || fd.offset != n then none else match f fd.type xs ys,sz fd.type with
  | some r,some s=>match eqFs f sz fs (n+s) r.2.1 r.2.2 with
   | none=>none
   | some q=>some (r.1++q.1,q.2)
  | _,_=>none
def eqW (P:Program):Nat->TypeId->List C->List C->Option (List (A×A)×List C×List C)
 | 0,_,_,_=>none
 | d+1,t,xs,ys=>match P.underlying t with
  | some (.int _)=>match xs,ys with
   | .int k a::xs',.int k' b::ys'=>if k==k'&&szOf P t==some 1 then some ([(a,b)],xs',ys') else none
   | _,_=>none
  | some .bool=>match xs,ys with
   | .bool a::xs',.bool b::ys'=>if szOf P t==some 1 then some ([(a,b)],xs',ys') else none
   | _,_=>none
  | some (.array n e)=>if szOf P t==(szOf P e).map (n * ·) then eqN (eqW P d e) n xs ys else none
  | some (.struct fs)=>if P.stoodInHeld t then none else match eqFs (eqW P d) (szOf P) fs.toList 0 xs ys with
   | some r=>if szOf P t==some r.2.1 then some (r.1,r.2.2) else none
   | none=>none
  | _=>none
def binInt (op:BinOp) (k:IntKind) (k':IntKind) (a b:A) (nn:Nat):Pl :=
 match op with
 | .shl | .shr=>match b with
  | .lit n=>if 0<=n then mkP nn (.int k) (.bin op k a b) (.int k) else .bad 1
  | _=>if lo k'==0 then mkP nn (.int k) (.bin op k a b) (.int k) else
   .ok {val:=.vl (.one (.int k (.var (nn+1)))),defs:=[(.bit,.cmp .leq (.lit 0) b),(.int k,.bin op k a b)],nz:=[.var nn] }
 | .add | .sub | .mul | .and | .or | .xor | .andNot=>if k==k' then mkP nn (.int k) (.bin op k a b) (.int k) else .bad 3
 | .quo | .rem=>if k==k' then
   match b with
   | .lit n=>if n != 0 then mkP nn (.int k) (.bin op k a b) (.int k) else .bad 4
   | _=>let r:=mk nn (.int k) (.bin op k a b);.ok {val:=.vl (.one (.int k r.2)),defs:=r.1,nz:=[b] }
  else .bad 5
 | .eql | .neq | .lss | .leq | .gtr | .geq=>if k==k' then mkP nn .bit (.cmp op a b) .bool else .bad 6
def eqNil (d:TypeDesc) (x y:C):Option Bool :=
 match d,x,y with
 | .pointer _,.nil,.nil=>some true
 | .pointer _,.nil,.ptr ..=>some false
 | .pointer _,.ptr ..,.nil=>some false
 | .slice _,.nilslice,.nilslice=>some true
 | .slice _,.nilslice,.slice ..=>some false
 | .slice _,.slice ..,.nilslice=>some false
 | .func ..,.nilfn,.nilfn=>some true
 | .func ..,.nilfn,.fn ..=>some false
 | .func ..,.fn ..,.nilfn=>some false
 | .map ..,.nilmap,.nilmap=>some true
 | _,_,_=>none
def intsOf (cs:List C):Option (IntKind×List A) :=
 match cs with
 | .int k _::_=>(mapO (intA k) cs).map fun as=>(k,as)
 | _=>none
def bytesA (s:ByteArray):List A:=s.data.toList.map fun b=>.lit b.toNat
def inRange (a:A) (len:Nat):Defs:=[(.bit,.cmp .leq (.lit 0) a),(.bit,.cmp .lss a (.lit len))]
def putDs (k:IntKind) (i x:A):List A->Nat->Defs
 | [],_=>[]
 | a::as,j=>(.int k,.put i j x a)::putDs k i x as (j+1)
def selD (k:IntKind) (i:A) (as:List A):D:=match eltU k as with | some n=>.lget (.var n) i | none=>.sel i as
def putCs (k:IntKind) (nn:Nat):Nat->List C
 | 0=>[]
 | n+1=>.int k (.var nn)::putCs k (nn+1) n
def planBin (P:Program) (op:BinOp) (t:TypeId) (x y:V) (nn:Nat):Pl :=
 match x,y with
 | .one (.int k a),.one (.int k' b)=>binInt op k k' a b nn
 | .one (.bool a),.one (.bool b)=>match op,P.underlying t with
  | .eql,some .bool=>mkP nn .bit (.cmp .eql a b) .bool
  | .neq,some .bool=>mkP nn .bit (.cmp .neq a b) .bool
  | _,_=>.bad 13
 | .one (.sv a),.one (.sv b)=>match op with
  | .eql=>mkP nn .bit (.lsame a b) .bool
  | .neq=>.ok {val:=.vl (.one (.bool (.var (nn+1)))),defs:=[(.bit,.lsame a b),(.bit,.not (.var nn))] }
  | _=>.bad 128
 | .one (.str a),.one (.str b)=>match op with
  | .eql=>okP (.bool (.lit (b2i (a.data.toList==b.data.toList))))
  | .neq=>okP (.bool (.lit (b2i (!(a.data.toList==b.data.toList)))))
  | _=>.bad 131
 | .agg xs,.agg ys=>if P.eqGuardType P.depth t || !((P.underlying t).any isAggB) then .bad 15 else match eqW P 20 t xs ys with
  | some (l,[],[])=>match op with
    | .eql=>mkP nn .bit (.eqs l) .bool
    | .neq=>match litD (.eqs l) with
     | some n=>.ok {val:=.vl (.one (.bool (.lit (if n=0 then 1 else 0)))) }
     | none=>.ok {val:=.vl (.one (.bool (.var (nn+1)))),defs:=[(.bit,.eqs l),(.bit,.not (.var nn))] }
    | _=>.bad 14
  | _=>.bad 16
 | .one x,.one y=>match P.underlying t with
  | some d=>match eqNil d x y with
   | some b=>match op with
    | .eql=>okP (.bool (.lit (b2i b)))
    | .neq=>okP (.bool (.lit (b2i (!b))))
    | _=>.bad 17
   | none=>.bad 18
  | none=>.bad 19
 | _,_=>.bad 18
def partC (d:TypeDesc) (size:Nat) (cs:List C) (off:Nat):Pl :=
 if isAggB d then .ok {val:=.vl (.agg ((cs.drop off).take size)) }
 else match cs[off]? with
  | some c=>okP c
  | none=>.bad 20
def bndOf (Y:St) (b:Option Operand):Option (Option Nat):=match b with | some o=>(idx Y o).map some | none=>some none
def capOf (Y:St) (x:Operand):Option (Nat×Nat):=match Y.cell x with | some (.ptr id off)=>some (id,off) | _=>none
def partOf (Y:St) (p:Nat×Operand):Option (Nat×List C):=match Y.v p.2 with | some v=>some (p.1,v.cells) | none=>none
def eqA:A->A->Bool
 | .lit a,.lit b=>a==b
 | .var a,.var b=>a==b
 | .limb a i,.limb b j=>a==b&&i==j
 | .elt k a i,.elt k' b j=>k==k'&&a==b&&i==j
 | _,_=>false
def inRow (nn:Nat) (x a:A):Defs:=[(.int .i64,.llen x),(.bit,.cmp .leq (.lit 0) a),(.bit,.cmp .lss a (.var nn))]
def inView (a hi:A):Defs:=[(.bit,.cmp .leq (.lit 0) a),(.bit,.cmp .lss a hi)]
def inView' (y:A) (n:Nat):Defs:=[(.bit,.cmp .leq (.lit 0) y),(.bit,.cmp .leq y (.lit n))]
def partP (nn id:Nat) (r:Row) (lo hi:A):Pl :=
 .ok {val:=.vl (.one (.slv id lo hi r.k)),defs:=[(.int .i64,.llen r.x0),(.bit,.cmp .leq (.lit 0) lo),(.bit,.cmp .leq lo hi),(.bit,.cmp .leq hi (.var nn))],nz:=[.var (nn+1),.var (nn+2),.var (nn+3)] }
def partV (nn id:Nat) (r:Row) (lo' hi' l:A) (h:Option A):Pl :=
 .ok {val:=.vl (.one (.slv id (.var (nn+6)) ((h.map fun _=>A.var (nn+7)).getD hi') r.k)),defs:=[(.int .i64,.llen r.x0),(.int .i64,.bin .sub .i64 (.var nn) lo'),(.int .i64,.bin .sub .i64 hi' lo'),(.bit,.cmp .leq (.lit 0) l),(.bit,.cmp .leq l (h.getD (.var (nn+2)))),(.bit,.cmp .leq (h.getD (.var (nn+2))) (.var (nn+1))),(.int .i64,.bin .add .i64 lo' l),(.int .i64,.bin .add .i64 lo' (h.getD (.var (nn+2))))],nz:=[.var (nn+3),.var (nn+4),.var (nn+5)] }
def inPart (nn:Nat) (lo a hi:A):Defs:=[(.int .i64,.bin .sub .i64 hi lo),(.bit,.cmp .leq (.lit 0) a),(.bit,.cmp .lss a (.var nn)),(.int .i64,.bin .add .i64 lo a)]
def bndA (Y:St) (b:Option Operand):Option (Option A) :=
 match b with
 | some o=>match Y.cell o with | some (.int _ a)=>some (some a) | _=>none
 | none=>some none
def LL.kk:LL->KK | .num=>.num | .int k=>.int k | .bit=>.bit
def tupDs (z:A) (j:Nat):List LL->Defs
 | []=>[]
 | l::ls=>(l.kk,.lget z (.lit j))::tupDs z (j+1) ls
def LL.cells (nn:Nat):LL->List C
 | .num=>[C.int .u64 (.limb nn 0),.int .u64 (.limb nn 1),.int .u64 (.limb nn 2),.int .u64 (.limb nn 3),.int .u64 (.limb nn 4),.int .u64 (.limb nn 5)]
 | .int k=>[.int k (.var nn)]
 | .bit=>[.bool (.var nn)]
def tupCs (nn:Nat):List LL->List C
 | []=>[]
 | l::ls=>l.cells nn++tupCs (nn+1) ls
def loadRow (nn:Nat) (d:TypeDesc) (n:Nat) (k:LK) (x i:A):Pl :=
 match k with
 | .num=>if isAggB d&&n==6 then
   .ok {val:=.vl (.agg [C.int .u64 (.limb nn 0),.int .u64 (.limb nn 1),.int .u64 (.limb nn 2),.int .u64 (.limb nn 3),.int .u64 (.limb nn 4),.int .u64 (.limb nn 5)]),defs:=[(.num,.lget x i)] } else .bad 110
 | .int k=>if isAggB d then .bad 111 else .ok {val:=.vl (.one (.int k (.var nn))),defs:=[(.int k,.lget x i)] }
 | .tup l ls=>if isAggB d&&n==l.sz+llSz ls then .ok {val:=.vl (.agg (tupCs (nn+1) (l::ls))),defs:=(.any,.lget x i)::tupDs (.var nn) 0 (l::ls) } else .bad 126
 | .byt=>.bad 132
structure Grow where
 old:Option Nat
 x0:A
 k:LK
 elem:TypeId
 defs:Defs
 a:A
def llFs (f:TypeId->Option (List LL)):List Field->Option (List LL)
 | []=>some []
 | fd::fs=>match f fd.type with
  | none=>none
  | some l=>match llFs f fs with
   | none=>none
   | some r=>some (l++r)
def llN (l:List LL):Nat->List LL
 | 0=>[]
 | n+1=>l++llN l n
def llOf (P:Program):Nat->TypeId->Option (List LL)
 | 0,_=>none
 | d+1,t=>match P.underlying t with
  | some (.int k)=>some [.int k]
  | some .bool=>some [.bit]
  | some (.array n u)=>match P.underlying u,n==6 with
   | some (.int .u64),true=>some [.num]
   | _,_=>match llOf P d u with
    | some l=>if n<=16 then some (llN l n) else none
    | none=>none
  | some (.struct fs)=>llFs (llOf P d) fs.toList
  | _=>none
def elemK (P:Program) (e:TypeId):Option LK :=
 match P.underlying e with
 | some (.int k)=>some (.int k)
 | some (.array 6 u)=>match P.underlying u with
  | some (.int .u64)=>some .num
  | _=>none
 | some (.struct _)=>match llOf P 20 e with
  | some (l::ls)=>some (.tup l ls)
  | _=>none
 | _=>none
def srcK (Y:St) (nn:Nat) (k:LK) (s:Operand):Option (Defs×A) :=
 match Y.v s with
 | some v=>match takeSh Y nn (.lst k) v with
  | some (ds,[y])=>some (ds,y)
  | _=>none
 | none=>none
def catP (P:Program) (Y:St) (nn:Nat) (op:Op):Option Grow :=
 match op with
 | .call c=>match c.callee,c.argTypes.toList,c.args.toList with
  | .builtin .append,[t,t'],[s,x]=>if t==t' then match P.underlying t with
   | some (.slice e)=>match P.info? e,elemK P e with
    | some i,some k=>match i.zero with
     | some z=>if z.cells.size==i.size&&i.size==k.sz&&decide (i.bytes<=16384) then
       match srcK Y nn k x with
       | some (ds,y)=>match Y.cell s with
        | some .nilslice=>some ⟨none,.lit 0,k,e,ds,y⟩
        | some (.sl id')=>match Y.row id' with
         | some r=>if r.own&&r.elem==e&&r.k.eq k then some ⟨some id',r.x,k,e,ds,y⟩ else none
         | none=>none
        | _=>none
       | none=>none
      else none
     | none=>none
    | _,_=>none
   | _=>none
   else none
  | _,_,_=>none
 | _=>none
def catD (nn:Nat) (g:Grow):Defs:=g.defs++[(.int .i64,.llen g.x0),(.bit,.cmp .lss (.var (nn+g.defs.length)) (.lit 2147483648)),(.int .i64,.llen g.a),(.bit,.cmp .lss (.var (nn+(g.defs.length+2))) (.lit 2147483648))]
def catPl (nn nid:Nat) (g:Grow):Plan :=
 {val:=.vl (.one (.sl nid)),defs:=catD nn g,nz:=[.var (nn+(g.defs.length+1)),.var (nn+(g.defs.length+3))],post:=[(.lst g.k,.lcat g.x0 g.a)],eff:=.grow g.old (rowBox {x:=.var (nn+(g.defs.length+4)),x0:=.var (nn+(g.defs.length+4)),k:=g.k,elem:=g.elem,own:=true,full:=false }) }
def emptyP (P:Program) (nid:Nat) (t:TypeId) (len:Nat) (ps:Array (Nat×Operand)):Option Plan :=
 if len==0&&ps.toList.isEmpty then match P.underlying t with
  | some (.slice e)=>match P.info? e,elemK P e with
   | some i,some k=>if i.size==k.sz then
     some {val:=.vl (.one (.sl nid)),eff:=.new (rowBox {x:=.lit 0,x0:=.lit 0,k:=k,elem:=e,own:=true,full:=true }) } else none
   | _,_=>none
  | _=>none
 else none
def rowNil (P:Program) (Y:St) (op:BinOp) (t:TypeId) (nn:Nat) (x y:V):Option Plan :=
 match x,y with
 | .one (.sl id),.one .nilslice=>match Y.row id,P.underlying t with
  | some r,some (.slice _)=>match op with
   | .eql=>some {val:=.vl (.one (.bool (.lit 0))),defs:=[(.int .i64,.llen r.x0),(.bit,.cmp .lss (.lit 0) (.var nn))],nz:=[.var (nn+1)] }
   | .neq=>some {val:=.vl (.one (.bool (.lit 1))),defs:=[(.int .i64,.llen r.x0),(.bit,.cmp .lss (.lit 0) (.var nn))],nz:=[.var (nn+1)] }
   | _=>none
  | _,_=>none
 | _,_=>none
def llCall (T:List K) (op:Op):Bool :=
 match op with
 | .call c=>match c.callee with
  | .value (.func f)=>match findK T f 0 with
   | some q=>q.2.ins.any isLl
   | none=>false
  | _=>false
 | _=>false
def markP (P:Program) (Y:St) (s d:TypeId) (x:Operand):Option Plan :=
 if s==d then match P.underlying s,Y.cell x with
  | some (.slice e),some (.slice id 0 n n')=>match P.underlying e,Y.box id with
   | some (.int .u8),some b=>if b.own&&b.fz==(0,0)&&b.row.isNone&&b.cells.length==n then some {val:=.vl (.one (.slice id 0 n n')),eff:=.wr id .mark } else none
   | _,_=>none
  | _,_=>none
 else none
def plan (P:Program) (T:List K) (Y:St) (nn nid:Nat) (op:Op):Pl :=
  match op with
  | .move x | .assign x=>match Y.val x with | some s=>.ok { val:=s } | none=>.bad 30
  | .pick c a b=>match Y.cell c with
    | some (.bool t)=>match truth Y t with
      | .yes=>match Y.val a with | some s=>.ok { val:=s } | none=>.bad 31
      | .no=>match Y.val b with | some s=>.ok { val:=s } | none=>.bad 31
      | .need n=>.need n
      | .bad=>.bad 31
    | _=>.bad 32
  | .alloc e=>match P.info? e with
    | some i=>match i.zero with
      | some z=>match vOf z with
        | some v=>.ok { val:=.vl (.one (.ptr nid 0)),eff:=.new { cells:=v.cells,elem:=e,own:=true } }
        | none=>.bad 33
      | none=>.bad 34
    | none=>.bad 35
  | .box e x=>match Y.v x with
    | some v=>if v.cells.all C.solid then .ok { val:=.vl (.one (.ptr nid 0)),eff:=.new { cells:=v.cells,elem:=e,own:=true } } else .bad 36
    | none=>.bad 37
  | .load t x=>match Y.cell x with
    | some (.ptr id off)=>match Y.box id,P.underlying t,szOf P t with
      | some b,some d,some n=>if isAggB d then
          if (b.cells.drop off).length<n then .bad 38 else .ok { val:=.vl (.agg ((b.cells.drop off).take n)) }
        else match b.cells[off]? with
          | some c=>okP c
          | none=>.bad 39
      | _,_,_=>.bad 40
    | some (.ptrS id off i n)=>match Y.box id,P.underlying t with
      | some b,some d=>if isAggB d then .bad 40 else match intsOf ((b.cells.drop off).take n) with
        | some r=>if r.2.length==n then .ok { val:=.vl (.one (.int r.1 (.var nn))),defs:=[(.int r.1,selD r.1 i r.2)] } else .bad 39
        | none=>.bad 39
      | _,_=>.bad 40
    | some (.lp id i k)=>match Y.row id,P.underlying t,szOf P t with
      | some r,some d,some n=>if r.k.eq k then loadRow nn d n k r.x i else .bad 112
      | _,_,_=>.bad 113
    | some (.llp a i)=>match P.underlying t with
      | some (.slice _)=>.ok { val:=.vl (.one (.rol (.var nn))),defs:=[(.lst (.int .u8),.lget a i)] }
      | _=>.bad 133
    | _=>.bad 41
  | .store t x y=>match Y.cell x,Y.v y with
    | some (.ptr id off),some v=>match Y.box id,szOf P t with
      | some b,some n =>
        if b.own&&b.fz==(0,0)&&v.cells.length==n&&v.cells.all C.solid&&decide (off+n<=b.cells.length) then .ok { val:=.tup [],eff:=.wr id (.cells off v.cells) } else .bad 42
      | _,_=>.bad 43
    | some (.ptrS id off i n),some (.one (.int k x))=>match Y.box id,szOf P t with
      | some b,some 1=>match intsOf ((b.cells.drop off).take n) with
        | some r=>if b.own&&b.fz==(0,0)&&r.2.length==n&&r.1==k then
            (if n<=16 then .ok { val:=.tup [],defs:=putDs k i x r.2 0,eff:=.wr id (.cells off (putCs k nn n)) }
            else if 1024<n then .bad 42 else .ok { val:=.tup [],defs:=(arrA nn k r.2).1++[(.arr k n,.lput (arrA nn k r.2).2 i x)],eff:=.wr id (.cells off (eltCs k (nn+(arrA nn k r.2).1.length) n 0)) }) else .bad 42
        | none=>.bad 42
      | _,_=>.bad 43
    | some (.lp id i k),some v=>match Y.row id,szOf P t with
      | some r,some s=>if r.own&&r.k.eq k&&s==k.sz&&v.cells.all C.solid then match takeK nn k v.cells with
          | some (ds,y)=>.ok { val:=.tup [],defs:=ds++[(.lst k,.lput r.x i y)],eff:=.wr id (.row (.var (nn+ds.length))) }
          | _=>.bad 117
        else .bad 118
      | _,_=>.bad 119
    | _,_=>.bad 44
  | .nilCheck x=>match Y.cell x with
    | some (.ptr id off)=>okP (.ptr id off)
    | _=>.bad 45
  | .binOp op t x y _=>match Y.v x,Y.v y with
    | some a,some b=>match rowNil P Y op t nn a b with
      | some p=>.ok p
      | none=>planBin P op t a b nn
    | _,_=>.bad 46
  | .unOp op _ x=>match op,Y.cell x with
    | .not,some (.bool a)=>mkP nn .bit (.not a) .bool
    | .neg,some (.int k a)=>mkP nn (.int k) (.bin .sub k (.lit 0) a) (.int k)
    | .xor,some (.int k a)=>mkP nn (.int k) (.bin .xor k (.lit (if lo k=0 then hi k else -1)) a) (.int k)
    | _,_=>.bad 47
  | .convert src dst x=>match markP P Y src dst x with
   | some p=>.ok p
   | none=>match P.underlying src,P.underlying dst,Y.cell x with
    | some _,some (.int k),some (.int k' a)=>if subKind k' k then okP (.int k a) else mkP nn (.int k) (.conv k a) (.int k)
    | some (.slice e),some .string,some c=>match P.underlying e,takeSh Y nn (.lst (.int .u8)) (.one c) with
      | some (.int .u8),some (ds,[y])=>.ok { val:=.vl (.one (.sv y)),defs:=ds }
      | _,_=>.bad 127
    | _,_,_=>.bad 48
  | .fieldAddr s x f=>match P.underlying s,Y.cell x with
    | some (.struct fs),some (.ptr id off)=>match fs[f]? with
      | some fd=>match szOf P fd.type with
        | some (_+1)=>okP (.ptr id (off+fd.offset))
        | _=>.bad 49
      | none=>.bad 50
    | _,_=>.bad 51
  | .indexAddr t x i=>match P.underlying t,Y.cell x,idx Y i with
    | some (.array len e),some (.ptr id off),some n=>match szOf P e with
      | some s=>if n<len then okP (.ptr id (off+n*s)) else .bad 52
      | none=>.bad 53
    | some (.slice e),some (.slice id off len _),some n=>match szOf P e with
      | some s=>if n<len then okP (.ptr id (off+n*s)) else .bad 54
      | none=>.bad 55
    | some (.array len e),some (.ptr id off),none=>match Y.cell i,szOf P e with
      | some (.int _ a),some 1=>.ok { val:=.vl (.one (.ptrS id off a len)),defs:=inRange a len,nz:=[.var nn,.var (nn+1)] }
      | _,_=>.bad 56
    | some (.slice e),some (.slice id off len _),none=>match Y.cell i,szOf P e with
      | some (.int _ a),some 1=>.ok { val:=.vl (.one (.ptrS id off a len)),defs:=inRange a len,nz:=[.var nn,.var (nn+1)] }
      | _,_=>.bad 56
    | some (.slice e),some (.sl id),_=>match Y.row id,Y.cell i,szOf P e with
      | some r,some (.int _ a),some s=>if s==r.k.sz then .ok { val:=.vl (.one (.lp id a r.k)),defs:=inRow nn r.x0 a,nz:=[.var (nn+1),.var (nn+2)] } else .bad 114
      | _,_,_=>.bad 115
    | some (.slice e),some (.slv id lo hi k),_=>match Y.row id,Y.cell i,szOf P e with
      | some _,some (.int _ a),some s=>if s==k.sz&&isZ lo then .ok { val:=.vl (.one (.lp id a k)),defs:=inView a hi,nz:=[.var nn,.var (nn+1)] } else
        if s==k.sz then .ok { val:=.vl (.one (.lp id (.var (nn+3)) k)),defs:=inPart nn lo a hi,nz:=[.var (nn+1),.var (nn+2)] } else .bad 120
      | _,_,_=>.bad 121
    | some (.slice e),some (.ll x),_=>match Y.cell i,szOf P e with
      | some (.int _ a),some 1=>.ok { val:=.vl (.one (.llp x a)),defs:=inRow nn x a,nz:=[.var (nn+1),.var (nn+2)] }
      | _,_=>.bad 134
    | _,_,_=>.bad 56
  | .index t x i=>match P.underlying t,Y.v x,idx Y i with
    | some (.array len e),some (.agg cs),some n=>match P.underlying e,szOf P e with
      | some d,some s=>if n<len then partC d s cs (n*s) else .bad 57
      | _,_=>.bad 58
    | some (.array len e),some (.agg cs),none=>match Y.cell i,P.underlying e,szOf P e,intsOf cs with
      | some (.int _ a),some d,some 1,some r=>if isAggB d || r.2.length != len then .bad 58 else
        .ok { val:=.vl (.one (.int r.1 (.var (nn+2)))),defs:=inRange a len++[(.int r.1,selD r.1 a r.2)],nz:=[.var nn,.var (nn+1)] }
      | _,_,_,_=>.bad 58
    | some .string,some (.one (.str s)),some n=>if hb:n<s.size then okP (.int .u8 (.lit (s[n].toNat:Int))) else .bad 58
    | some .string,some (.one (.str s)),none=>match Y.cell i with
      | some (.int _ a)=>.ok { val:=.vl (.one (.int .u8 (.var (nn+2)))),defs:=inRange a s.size++[(.int .u8,.sel a (bytesA s))],nz:=[.var nn,.var (nn+1)] }
      | _=>.bad 58
    | _,_,_=>.bad 59
  | .field t x f=>match P.underlying t,Y.v x with
    | some (.struct fs),some (.agg cs)=>match fs[f]? with
      | some fd=>match P.underlying fd.type,szOf P fd.type with
        | some d,some s=>partC d s cs fd.offset
        | _,_=>.bad 60
      | none=>.bad 61
    | _,_=>.bad 62
  | .extract x i=>match Y.val x with
    | some (.tup l)=>match l[i]? with
      | some v=>.ok { val:=.vl v }
      | none=>.bad 63
    | _=>.bad 64
  | .makeFunc fn first caps=>match fn with
   | .func f=>if first.size != 0 then .bad 89 else match mapO (capOf Y) caps.toList with
    | some l=>okP (.fn f l)
    | none=>.bad 65
   | _=>.bad 89
  | .build t ps=>match P.info? t,P.underlying t,mapO (partOf Y) ps.toList with
    | some i,some (.struct fs),some l=>match i.zero,fs.toList.mapM (fun f=>(P.info? f.type).map fun i=>(f.offset,i.size)) with
      | some z,some places=>match vOf z with
        | some zv=>match fillC (places[·]?) zv.cells l with
          | some cs=>if l.all (fun p=>p.2.all C.solid) then .ok { val:=.vl (.agg cs) } else .bad 66
          | none=>.bad 67
        | none=>.bad 68
      | _,_=>.bad 69
    | some i,some (.array _ e),some l=>match i.zero,szOf P e with
      | some z,some s=>match vOf z with
        | some zv=>match fillC (fun j=>some (j*s,s)) zv.cells l with
          | some cs=>if l.all (fun p=>p.2.all C.solid) then .ok { val:=.vl (.agg cs) } else .bad 70
          | none=>.bad 71
        | none=>.bad 72
      | _,_=>.bad 73
    | _,_,_=>.bad 74
  | .buildSlice t len ps=>match emptyP P nid t len ps with
   | some p=>.ok p
   | none=>match P.underlying t,mapO (partOf Y) ps.toList with
    | some (.slice e),some l=>match P.info? e with
      | some i=>match i.zero with
        | some z=>match vOf z with
          | some zv=>if zv.cells.length==i.size&&decide (0<i.size)&&decide (len*i.size<=10000) then
              match fillC (fun j=>some (j*i.size,i.size)) ((List.replicate len zv.cells).flatten) l with
              | some cs=>if l.all (fun p=>p.2.all C.solid) then .ok { val:=.vl (.one (.slice nid 0 len len)),eff:=.new { cells:=cs,elem:=e,own:=true } } else .bad 75
              | none=>.bad 76
            else .bad 77
          | none=>.bad 78
        | none=>.bad 79
      | none=>.bad 80
    | _,_=>.bad 81
  | .sliceToArrayPointer t x=>match P.underlying t,Y.cell x with
    | some (.array n _),some (.slice id off len _)=>if n<=len then okP (.ptr id off) else .bad 82
    | _,_=>.bad 83
  | .slice t x lo hi mx=>if mx.isSome then .bad 98 else match P.underlying t,Y.cell x with
    | some (.array n e),some (.ptr id off) =>
      match bndOf Y lo,bndOf Y hi,szOf P e with
      | some l,some h,some s=>let h':=h.getD n;let l':=l.getD 0
        if h'<=n&&l'<=h' then okP (.slice id (if n=l' then off else off+l'*s) (h'-l') (n-l')) else .bad 84
      | _,_,_=>match lo,bndA Y hi,szOf P e with
        | none,some (some y),some _=>.ok { val:=.vl (.one (.slS id off y n)),defs:=inView' y n,nz:=[.var nn,.var (nn+1)] }
        | _,_,_=>.bad 85
    | some (.slice e),some (.slice id off len cap) =>
      match bndOf Y lo,bndOf Y hi,szOf P e with
      | some l,some h,some s=>let h':=h.getD len;let l':=l.getD 0
        if h'<=cap&&l'<=h' then okP (.slice id (if cap=l' then off else off+l'*s) (h'-l') (cap-l')) else .bad 86
      | _,_,_=>.bad 87
    | some (.slice e),some (.sl id)=>match Y.row id,bndA Y lo,bndA Y hi,szOf P e with
      | some r,some l,some h,some s=>if s==r.k.sz then partP nn id r (l.getD (.lit 0)) (h.getD (.var nn)) else .bad 122
      | _,_,_,_=>.bad 123
    | some (.slice e),some (.slv id lo' hi' k)=>match Y.row id,bndA Y lo,bndA Y hi,szOf P e with
      | some r,some l,some h,some s=>if s==r.k.sz&&r.k.eq k&&isZ lo' then partP nn id r (l.getD (.lit 0)) (h.getD hi') else
        if s==r.k.sz&&r.k.eq k then partV nn id r lo' hi' (l.getD (.lit 0)) h else .bad 124
      | _,_,_,_=>.bad 125
    | _,_=>.bad 88
  | .call c=>match mapO Y.v c.args.toList with
    | none=>.bad 90
    | some args=>match c.callee with
      | .builtin .len=>match c.argTypes[0]? with
        | none=>.bad 91
        | some t=>match P.underlying t,args with
          | some (.slice _),[.one (.slice _ _ n _)]=>if n<=9223372036854775807 then okP (.int .i64 (.lit n)) else .bad 91
          | some (.slice _),[.one .nilslice]=>okP (.int .i64 (.lit 0))
          | some (.slice _),[.one (.ll a)]=>.ok { val:=.vl (.one (.int .i64 (.var nn))),defs:=[(.int .i64,.llen a)] }
          | some (.slice _),[.one (.rol a)]=>.ok { val:=.vl (.one (.int .i64 (.var nn))),defs:=[(.int .i64,.llen a)] }
          | some (.slice _),[.one (.sl id)]=>match Y.row id with
            | some r=>.ok { val:=.vl (.one (.int .i64 (.var nn))),defs:=[(.int .i64,.llen r.x0)] }
            | none=>.bad 116
          | some (.slice _),[.one (.slv id lo hi _)]=>match Y.row id with
            | some _=>if isZ lo then okP (.int .i64 hi) else .ok { val:=.vl (.one (.int .i64 (.var nn))),defs:=[(.int .i64,.bin .sub .i64 hi lo)] }
            | none=>.bad 126
          | some (.array n _),[_]=>if n<=9223372036854775807 then okP (.int .i64 (.lit n)) else .bad 91
          | some .string,[.one (.str s)]=>if s.size<=9223372036854775807 then okP (.int .i64 (.lit s.size)) else .bad 91
          | _,_=>.bad 92
      | .builtin .cap=>match c.argTypes[0]? with
        | none=>.bad 91
        | some t=>match P.underlying t,args with
          | some (.slice _),[.one (.sl id)]=>match Y.row id with
            | some r=>if r.full then .ok { val:=.vl (.one (.int .i64 (.var nn))),defs:=[(.int .i64,.llen r.x0)] } else .bad 127
            | none=>.bad 128
          | some (.slice _),[.one (.slv id lo _ _)]=>match Y.row id with
            | some r=>if r.full&&isZ lo then .ok { val:=.vl (.one (.int .i64 (.var nn))),defs:=[(.int .i64,.llen r.x0)] } else .bad 127
            | none=>.bad 128
          | _,_=>.bad 129
      | .builtin .max=>match args with
        | [.one (.int k a),.one (.int k' b)]=>if k==k' then .ok { val:=.vl (.one (.int k (.var (nn+1)))),defs:=[(.bit,.cmp .lss a b),(.int k,.put (.var nn) 1 b a)] } else .bad 130
        | _=>.bad 130
      | .builtin .min=>match args with
        | [.one (.int k a),.one (.int k' b)]=>if k==k' then .ok { val:=.vl (.one (.int k (.var (nn+1)))),defs:=[(.bit,.cmp .lss b a),(.int k,.put (.var nn) 1 b a)] } else .bad 130
        | _=>.bad 130
      | .builtin .append=>match catP P Y nn (.call c) with
        | some g=>.ok (catPl nn nid g)
        | none=>.bad 93
      | .builtin _=>.bad 93
      | .invoke _ _=>.bad 94
      | .value x=>match Y.cell x with
        | some (.fn f caps) =>
          let all:=args++caps.map fun p=>V.one (.ptr p.1 p.2)
          match findC T f all with
          | some (g,X)=>if X.ins.any isLl && !llCall T (.call c) then .bad 135 else match takeIns Y nn X.ins all with
            | none=>.bad 95
            | some d=>match putK X g d.2 (nn+d.1.length) nid with
              | none=>.bad 96
              | some q=>.ok { val:=retS q.2.1,defs:=d.1,post:=q.1,eff:=(match q.2.2 with | some b=>.new b | none=>.none),reqs:=[(g,d.2)] }
          | none=>.call f all
        | _=>.bad 97
  | _=>.bad 99
inductive Tree where
 | ret (as:List A)
 | split (n:Nat) (t f:Tree)
 | lett (n:Nat) (kk:KK) (d:D) (t:Tree)
 | req (g:Nat) (as:List A) (t:Tree)
 | nz (a:A) (t:Tree)
 | loop (inits:List A) (kks:List KK) (n0:Nat) (body:Tree)
 | back (lvl:Nat) (as:List A)
 | bad (why:Nat) (pos:String)
 deriving Inhabited
def upd (e:Nat->Int) (n:Nat) (v:Int):Nat->Int:=fun i=>if i=n then v else e i
def updL (e:Nat->Int) (n:Nat):List Int->Nat->Int
 | []=>e
 | v::vs=>updL (upd e n v) (n+1) vs
structure Gl where
 goal:List Int->Prop
 stk:List (List Int->Prop)
def kkHas:List KK->List Int->Prop
 | [],[]=>True
 | k::ks,v::vs=>k.has v/\kkHas ks vs
 | _,_=>False
def Tree.holds (T:List K):Tree->Gl->(Nat->Int)->Prop
 | .ret as,goal,e=>goal.goal (as.map (·.ev e))
 | .split n t f,goal,e=>(e n≠0->t.holds T goal e)/\(e n=0->f.holds T goal e)
 | .lett n kk d t,goal,e=>∀ v,v=d.ev T e->kk.has v->t.holds T goal (upd e n v)
 | .req g as t,goal,e=>(match T[g]? with | some X=>X.pre (as.map (·.ev e)) | none=>False)/\t.holds T goal e
 | .nz a t,goal,e=>a.ev e≠0/\t.holds T goal e
 | .loop inits kks n0 t,goal,e=>∃ (I:List Int->Prop) (μ:List Int->Nat),I (inits.map (·.ev e)) /\
   ∀ vs,kkHas kks vs->I vs->t.holds T {goal with stk:=goal.stk++[fun us=>I us/\μ us<μ vs] } (updL e n0 vs)
 | .back lvl as,goal,e=>match goal.stk[lvl]? with | some R=>R (as.map (·.ev e)) | none=>False
 | .bad _ _,_,_=>False
def letts (nn:Nat):Defs->Tree->Tree
 | [],t=>t
 | (kk,d)::ds,t=>.lett nn kk d (letts (nn+1) ds t)
def nzs:List A->Tree->Tree
 | [],t=>t
 | a::as,t=>.nz a (nzs as t)
def reqs:List (Nat×List A)->Tree->Tree
 | [],t=>t
 | (g,as)::r,t=>.req g as (reqs r t)
end
noncomputable section
inductive Ex where | normal | exit (id:Nat) | ret
inductive Job where
 | code (c:Code)
 | rounds (c:Code)
 | ops (all:Array Oper) (l:List Oper)
def St.put (Y:St) (dst:Option Nat) (s:SV):St :=
 match dst with
 | some d=>{Y with tmps:=lset Y.tmps d s }
 | none=>Y
theorem St.put_def (Y:St) (dst:Option Nat) (s:SV):Y.put dst s=match dst with
 | some d=>{Y with tmps:=Y.tmps.set d s }
 | none=>Y:=by
 unfold St.put;split <;> simp only [lset_eq]
def St.know (Y:St) (n:Nat) (b:Bool):St:={Y with kn:=(n,b)::Y.kn }
def undefS:SV:=.tup []
inductive Gd where | yes | no | need (n:Nat) | bad
def guardG (all:Array Oper) (Y:St) (o:Oper):Gd :=
 match o.guard with
 | none=>.yes
 | some (j,want)=>match (all[j]?).bind (·.dst) with
  | none=>.no
  | some t=>match lget? Y.tmps t with
   | none=>.no
   | some (.vl (.one (.bool a)))=>match truth Y a with
    | .yes=>if want then .yes else .no
    | .no=>if want then .no else .yes
    | .need n=>.need n
    | .bad=>.bad
   | some (.tup _)=>.no
   | _=>.bad
theorem guardG_def (all:Array Oper) (Y:St) (o:Oper):guardG all Y o =
 match o.guard with
 | none=>.yes
 | some (j,want)=>match (all[j]?).bind (·.dst) with
  | none=>.no
  | some t=>match Y.tmps[t]? with
   | none=>.no
   | some (.vl (.one (.bool a)))=>match truth Y a with
    | .yes=>if want then .yes else .no
    | .no=>if want then .no else .yes
    | .need n=>.need n
    | .bad=>.bad
   | some (.tup _)=>.no
   | _=>.bad:=by
 unfold guardG;simp only [lget?_eq]
def noRow (bs:List (Option Box)) (id:Nat):List (Option Box) :=
 match lget? bs id with
 | some (some b)=>lset bs id (some {b with row:=none })
 | _=>bs
theorem noRow_def (bs:List (Option Box)) (id:Nat):noRow bs id=match bs[id]? with
 | some (some b)=>bs.set id (some {b with row:=none })
 | _=>bs:=by
 unfold noRow;simp only [lget?_eq,lset_eq]
def noRows (bs:List (Option Box)):List Nat->List (Option Box)
 | []=>bs
 | id::r=>noRows (noRow bs id) r
def applyP (Y:St) (p:Plan) (nid:Nat) (dst:Option Nat):St :=
  (match p.eff with
   | .new b=>{ Y with boxes:=lset Y.boxes nid (some b) }
   | .wr id u=>match lget? Y.boxes id with
     | some (some b)=>{ Y with boxes:=lset Y.boxes id (some (b.upd u)) }
     | _=>Y
   | .grow old b=>{ Y with boxes:=lset (noRows Y.boxes old.toList) nid (some b) }
   | _=>Y).put dst p.val
theorem applyP_def (Y:St) (p:Plan) (nid:Nat) (dst:Option Nat):applyP Y p nid dst =
  (match p.eff with
   | .new b=>{ Y with boxes:=Y.boxes.set nid (some b) }
   | .wr id u=>match Y.boxes[id]? with
     | some (some b)=>{ Y with boxes:=Y.boxes.set id (some (b.upd u)) }
     | _=>Y
   | .grow old b=>{ Y with boxes:=(noRows Y.boxes old.toList).set nid (some b) }
   | _=>Y).put dst p.val:=by
  unfold applyP;simp only [lget?_eq,lset_eq]
def mayNew:Op->Bool | .alloc _ | .box .. | .buildSlice .. | .call _ | .makeSlice ..=>true | _=>false
def room (Y:St) (op:Op):St:=if mayNew op then {Y with boxes:=Y.boxes++[none] } else Y
def isNew:Eff->Bool | .new ..=>true | .grow ..=>true | _=>false
def planT (nn:Nat) (p:Plan) (t:Tree):Tree :=
 letts nn p.defs (reqs p.reqs (nzs p.nz (letts (nn+p.defs.length) p.post t)))
def resOne (P:Program) (Y:St):ResultVar->Option V
 | .tmp t=>match Y.get t with | .vl v=>some v | _=>none
 | .cell t ty=>match Y.get t with
  | .vl (.one (.ptr id off))=>match Y.box id,P.underlying ty,szOf P ty with
   | some b,some d,some n=>if isAggB d then
     if (b.cells.drop off).length<n then none else some (.agg ((b.cells.drop off).take n))
    else match b.cells[off]? with
     | some c=>some (.one c)
     | none=>none
   | _,_,_=>none
  | _=>none
def resS (P:Program) (Y:St) (fn:Func):Option (List V):=mapO (resOne P Y) fn.results.toList
def stride:Nat:=48
def lexK (P:Program) (T:List K) (all:Array Oper) (nv0 len0:Nat):Nat->List Oper->Nat->St->(St->Tree)->Tree
 | 0,_,_,_,_=>.bad 204 ""
 | fuel+1,l,i,Y,k=>match l with
  | []=>k Y
  | o::rest=>match guardG all Y o with
   | .bad=>.bad 200 o.pos
   | .need v=>if decide (v<nv0+i*stride)&&(lookB Y.kn v).isNone then .split v (lexK P T all nv0 len0 fuel (o::rest) i (Y.know v true) k) (lexK P T all nv0 len0 fuel (o::rest) i (Y.know v false) k) else .bad 202 o.pos
   | .no=>lexK P T all nv0 len0 fuel rest (i+1) (Y.put o.dst undefS) k
   | .yes=>match plan P T Y (nv0+i*stride) (len0+i) o.op with
    | .ok p=>if p.defs.length+p.post.length<=stride then planT (nv0+i*stride) p (lexK P T all nv0 len0 fuel rest (i+1) (applyP Y p (len0+i) o.dst) k) else .bad 201 o.pos
    | .need v=>if decide (v<nv0+i*stride)&&(lookB Y.kn v).isNone then .split v (lexK P T all nv0 len0 fuel (o::rest) i (Y.know v true) k) (lexK P T all nv0 len0 fuel (o::rest) i (Y.know v false) k) else .bad 202 o.pos
    | .call f _=>.bad (1000+f) o.pos
    | .bad why=>.bad why o.pos
def touch:Op->Nat
 | .load ..=>1
 | .call c=>match c.callee with
  | .builtin .append=>4
  | _=>1
 | .store ..=>3
 | .convert s d _=>if s==d then 3 else 1
 | _=>0
def calm (x y:Oper):Bool:=!((touch x.op==3&&touch y.op != 0) || (touch y.op==3&&touch x.op != 0) || touch x.op==4 || touch y.op==4)
def ordered (x:Nat) (y:Oper):Bool:=y.after.any fun e=>Region.binds .any e&&e.on==x
def calmAll (ops:List Oper):Bool :=
 let l:=ops.zipIdx
 l.all fun p=>l.all fun q=>p.2==q.2 || ordered p.2 q.1 || ordered q.2 p.1 || calm p.1 q.1
def tailOp (o:Oper):Oper:={o with op:=.move (.const (.bool false)) }
def backOnly (ops:Array Oper):Bool:=ops.toList.zipIdx.all fun p=>p.1.after.all fun e=>!Region.binds .any e || decide (e.on<p.2)
def bigOp (T:List K) (o:Oper):Bool :=
 match o.op with
 | .makeSlice _ _ _=>true
 | .call c=>match c.callee with
  | .builtin .append=>true
  | .builtin .copy=>true
  | .value (.func f)=>(findK T f 0).isNone
  | _=>false
 | _=>false
def firstBig (T:List K):List Oper->Nat->Option Nat
 | [],_=>none
 | o::r,i=>if bigOp T o then some i else firstBig T r (i+1)
def tailsL:List Oper->Nat->List Oper
 | [],_=>[]
 | o::r,0=>tailOp o::tailsL r 0
 | o::r,s+1=>o::tailsL r s
def tails (ops:Array Oper) (s:Nat):Array Oper:=(tailsL ops.toList s).toArray
def behindAll (ops:Array Oper) (i:Nat):Bool:=(List.range i).all fun j=>(List.range (i+1)).any fun x=>decide (j<x)&&(ops[x]?).any (ordered j)
def tailOk (ops:Array Oper) (s:Nat):Bool:=(List.range ops.size).all (fun i=>decide (i<s) || (behindAll ops i&&(ops[i]?).all (fun o=>o.guard.isNone)))&&backOnly ops
def walkOp (T:List K) (o:Oper):Bool :=
 match o.op with
 | .call c=>match c.callee with
  | .value (.func f)=>(findK T f 0).isNone
  | _=>false
 | _=>false
def firstWalk (T:List K) (ops:Array Oper):List Oper->Nat->Option Nat
 | [],_=>none
 | o::r,i=>if walkOp T o&&tailOk ops i then some i else firstWalk T ops r (i+1)
def tailOf (T:List K) (ops:Array Oper):Option (List Oper×Array Oper) :=
 match firstBig T ops.toList 0 with
 | some s=>if tailOk ops s then some (ops.toList.drop s,tails ops s) else match firstWalk T ops ops.toList 0 with
  | some s'=>some (ops.toList.drop s',tails ops s')
  | none=>none
 | none=>none
def C.ids:C->List Nat
 | .ptr id _=>[id]
 | .slice id _ _ _=>[id]
 | .ptrS id _ _ _=>[id]
 | .fn _ caps=>caps.map (·.1)
 | .sl id=>[id]
 | .lp id _ _=>[id]
 | .slv id _ _ _=>[id]
 | .slS id _ _ _=>[id]
 | _=>[]
def V.ids (v:V):List Nat:=v.cells.flatMap C.ids
def SV.ids:SV->List Nat
 | .vl v=>v.ids
 | .tup l=>l.flatMap V.ids
def idsOf (Y:St) (z:Operand):List Nat:=match Y.val z with | some s=>s.ids | none=>[]
def sepB (Y:St) (x y:Oper):Bool:=x.op.operands.all fun zx=>(idsOf Y zx).all fun id=>y.op.operands.all fun zy=>!(idsOf Y zy).contains id
def before (ops:List Oper):Nat->Nat->Oper->Bool
 | 0,x,y=>ordered x y
 | n+1,x,y=>ordered x y || y.after.any fun e=>Region.binds .any e&&match ops[e.on]? with | some o=>before ops n x o | none=>false
def pairsOk (T:List K) (Y:St) (ops:List Oper):Bool :=
 let l:=ops.zipIdx
 l.all fun p=>l.all fun q=>p.2==q.2 || ordered p.2 q.1 || ordered q.2 p.1 || calm p.1 q.1 || (sepB Y p.1 q.1 && !(llCall T p.1.op || llCall T q.1.op)) || before ops 7 p.2 q.1 || before ops 7 q.2 p.1
def isTmp (t:Nat):Operand->Bool | .tmp u=>u==t | _=>false
def tidy (ops:List Oper):Bool :=
 let l:=ops.zipIdx
 l.all fun p=>match p.1.dst with | none=>true | some t=>l.all fun q=>!(q.1.op.operands.any (isTmp t)) || ordered p.2 q.1
def allOk (T:List K) (Y:St) (ops:Array Oper):Bool:=calmAll ops.toList || (tidy ops.toList&&pairsOk T Y ops.toList)
def drawOk (ops:Array Oper):Bool:=Region.lexB .any ops
inductive Hp where
 | slot (t:Nat)
 | box (t:Nat)
 | view (t:Nat)
structure LH where
 slot:Nat
 k:LK
 elem:TypeId
 full:Bool:=false
structure Ann where
 pos:String
 hav:List (Hp×List L)
 lsts:List LH:=[]
def Code.firstPos:Code->String
 | .region _ ops _=>match ops[0]? with | some o=>o.pos | none=>""
 | .seq a b=>let s:=Code.firstPos a;if s == "" then Code.firstPos b else s
 | .block _ b=>Code.firstPos b
 | .cond _ a _=>Code.firstPos a
 | .loop a=>Code.firstPos a
 | _=>""
def Code.dsts:Code->List Nat
 | .region _ ops _=>ops.toList.filterMap (·.dst)
 | .seq a b=>Code.dsts a++Code.dsts b
 | .block _ b=>Code.dsts b
 | .cond _ a b=>Code.dsts a++Code.dsts b
 | .loop a=>Code.dsts a
 | _=>[]
def findAnn (LA:List Ann) (s:String):Option Ann :=
 match LA with
 | []=>none
 | a::r=>if a.pos==s then some a else findAnn r s
def getH (Y:St):Hp->Option (List C)
 | .slot t=>match Y.tmps[t]? with | some (.vl v)=>some v.cells | _=>none
 | .box t=>match Y.get t with
  | .vl (.one (.ptr id 0))=>match Y.box id with
   | some b=>if b.own then some b.cells else none
   | none=>none
  | _=>none
 | .view t=>match Y.tmps[t]? with | some (.vl (.one (.slv _ lo _ _)))=>some [.int .i64 lo] | _=>none
def setH (Y:St) (cs:List C):Hp->St
 | .slot t=>match Y.tmps[t]? with
  | some (.vl (.one _))=>{Y with tmps:=Y.tmps.set t (.vl (.one (cs.headD .top))) }
  | some (.vl (.agg _))=>{Y with tmps:=Y.tmps.set t (.vl (.agg cs)) }
  | _=>Y
 | .box t=>match Y.get t with
  | .vl (.one (.ptr id 0))=>match Y.box id with
   | some b=>{Y with boxes:=Y.boxes.set id (some {b with cells:=cs }) }
   | none=>Y
  | _=>Y
 | .view t=>match Y.tmps[t]? with
  | some (.vl (.one (.slv id _ hi k)))=>match cs with
   | [.int .i64 a]=>{Y with tmps:=Y.tmps.set t (.vl (.one (.slv id a hi k))) }
   | _=>Y
  | _=>Y
def takeH (Y:St) (nn:Nat):List (Hp×List L)->Option (Defs×List A)
 | []=>some ([],[])
 | (h,ls)::r=>match getH Y h with
  | none=>none
  | some cs=>match takeLs nn ls cs with
   | none=>none
   | some d=>match takeH Y (nn+d.1.length) r with
    | none=>none
    | some q=>some (d.1++q.1,d.2++q.2)
def inLs (nn:Nat):List L->List C
 | []=>[]
 | .cst c::ls=>c::inLs nn ls
 | .int k::ls=>.int k (.var nn)::inLs (nn+1) ls
 | .bool::ls=>.bool (.var nn)::inLs (nn+1) ls
 | .lst _::ls=>inLs (nn+1) ls
 | .arr k n::ls=>eltCs k nn n 0++inLs (nn+1) ls
 | .num::ls=>[C.int .u64 (.limb nn 0),.int .u64 (.limb nn 1),.int .u64 (.limb nn 2),.int .u64 (.limb nn 3),.int .u64 (.limb nn 4),.int .u64 (.limb nn 5)]++inLs (nn+1) ls
def putH (Y:St) (nn:Nat):List (Hp×List L)->St
 | []=>Y
 | (h,ls)::r=>putH (setH Y (inLs nn ls) h) (nn+lcount ls) r
def kksOf:List L->List KK
 | []=>[]
 | .cst _::ls=>kksOf ls
 | l::ls=>kkOf l::kksOf ls
def hcount:List (Hp×List L)->Nat
 | []=>0
 | (_,ls)::r=>lcount ls+hcount r
def hkks:List (Hp×List L)->List KK
 | []=>[]
 | (_,ls)::r=>kksOf ls++hkks r
def noCst:L->Bool | .cst _=>false | .lst _=>false | _=>true
def topS:SV:=.vl (.one .top)
def isSlot (t:Nat):Hp->Bool | .slot u=>t==u | .view u=>t==u | _=>false
def dropT (Y:St):List Nat->St
 | []=>Y
 | t::r=>dropT {Y with tmps:=Y.tmps.set t topS } r
def aEq:A->A->Bool
 | .lit a,.lit b=>a==b
 | .var a,.var b=>a==b
 | .limb a i,.limb b j=>a==b&&i==j
 | .elt k a i,.elt k' b j=>k==k'&&a==b&&i==j
 | _,_=>false
def cEqb:C->C->Bool
 | .int k a,.int k' b=>k==k'&&aEq a b
 | .bool a,.bool b=>aEq a b
 | .ptr i o,.ptr j q=>i==j&&o==q
 | .nil,.nil=>true
 | .slice i o l c,.slice j q m d=>i==j&&o==q&&l==m&&c==d
 | .nilslice,.nilslice=>true
 | .fn f cs,.fn g ds=>f==g&&cs==ds
 | .nilfn,.nilfn=>true
 | .nilmap,.nilmap=>true
 | .niliface,.niliface=>true
 | .ext n,.ext m=>n==m
 | .ll a,.ll b=>aEq a b
 | .rol a,.rol b=>aEq a b
 | .sl i,.sl j=>i==j
 | .lp i a k,.lp j b k'=>i==j&&aEq a b&&k.eq k'
 | .ptrS i o a n,.ptrS j q b m=>i==j&&o==q&&aEq a b&&n==m
 | .slv i a b k,.slv j c d k'=>i==j&&aEq a c&&aEq b d&&k.eq k'
 | .sv a,.sv b=>aEq a b
 | .slS i o a n,.slS j q b m=>i==j&&o==q&&aEq a b&&n==m
 | _,_=>false
def csEqb:List C->List C->Bool
 | [],[]=>true
 | a::as,b::bs=>cEqb a b&&csEqb as bs
 | _,_=>false
def vEqb:V->V->Bool
 | .one a,.one b=>cEqb a b
 | .agg a,.agg b=>csEqb a b
 | _,_=>false
def vsEqb:List V->List V->Bool
 | [],[]=>true
 | a::as,b::bs=>vEqb a b&&vsEqb as bs
 | _,_=>false
def sEqb:SV->SV->Bool
 | .vl a,.vl b=>vEqb a b
 | .tup a,.tup b=>vsEqb a b
 | _,_=>false
def tmpsLe:List SV->List SV->Bool
 | [],[]=>true
 | a::as,b::bs=>((match a with | .vl (.one .top)=>true | _=>false) || sEqb a b)&&tmpsLe as bs
 | _,_=>false
def rowEqb (a b:Row):Bool:=eqA a.x b.x&&eqA a.x0 b.x0&&a.k.eq b.k&&a.elem==b.elem&&a.own==b.own&&a.full==b.full
def rowLe:Option Row->Option Row->Bool
 | none,none=>true
 | some a,some b=>rowEqb a b
 | _,_=>false
def boxLe:Option Box->Option Box->Bool
 | none,_=>true
 | some a,some b=>a.own==b.own&&a.fz==b.fz&&a.elem==b.elem&&csEqb a.cells b.cells&&rowLe a.row b.row
 | some _,none=>false
def boxesLe:List (Option Box)->List (Option Box)->Bool
 | [],_=>true
 | a::as,b::bs=>boxLe a b&&boxesLe as bs
 | a::as,[]=>(match a with | none=>true | some _=>false)&&boxesLe as []
def backH (σh Y:St) (n0:Nat) (hav:List (Hp×List L)):Option (Defs×List A) :=
 match takeH Y Y.nv hav with
 | none=>none
 | some d =>
  let Y':=putH Y n0 hav
  if tmpsLe σh.tmps Y'.tmps&&boxesLe σh.boxes Y'.boxes&&hav.all (fun p=>match p.1 with | .box t=>sEqb (σh.get t) (Y.get t) | _=>true) then some d else none
def isSlot0 (t:Nat):Hp->Bool | .slot u=>t==u | _=>false
def isI64:List L->Bool | [.int .i64]=>true | _=>false
def havOk (hav:List (Hp×List L)):Bool:=hav.all fun p=>p.2.all noCst&&match p.1 with | .box t=>!hav.any (fun q=>isSlot t q.1) | .view t=>isI64 p.2 && !hav.any (fun q=>isSlot0 t q.1) | _=>true
def growP (P:Program) (Y:St) (nn:Nat) (op:Op):Option Grow :=
 match op with
 | .call c=>match c.callee,c.argTypes.toList,c.args.toList with
  | .builtin .append,[t,t'],[s,x]=>if t==t' then match P.underlying t with
   | some (.slice e)=>match P.info? e,elemK P e with
    | some i,some k=>match i.zero with
     | some z=>if z.cells.size==i.size&&i.size==k.sz&&decide (i.bytes<=16384) then
       match Y.cell x with
       | some (.slice id off 1 _)=>match Y.box id with
        | some b=>if k.sz<=(b.cells.drop off).length then match takeK nn k ((b.cells.drop off).take k.sz) with
         | some (ds,a)=>match Y.cell s with
          | some .nilslice=>some ⟨none,.lit 0,k,e,ds,a⟩
          | some (.sl id')=>match Y.row id' with
           | some r=>if r.own&&r.elem==e&&r.k.eq k then some ⟨some id',r.x,k,e,ds,a⟩ else none
           | none=>none
          | _=>none
         | _=>none
         else none
        | none=>none
       | _=>none
      else none
     | none=>none
    | _,_=>none
   | _=>none
   else none
  | _,_,_=>none
 | _=>none
def growS (Y:St) (nid:Nat) (g:Grow) (dst:Option Nat):St :=
 {Y with
  nv:=Y.nv+(g.defs.length+3)
  boxes:=lset (noRows Y.boxes g.old.toList) nid (some (rowBox {x:=.var (Y.nv+(g.defs.length+2)),x0:=.var (Y.nv+(g.defs.length+2)),k:=g.k,elem:=g.elem,own:=true,full:=false })) }.put dst (.vl (.one (.sl nid)))
structure Made where
 k:LK
 elem:TypeId
 a:A
def zeroK (k:LK) (z:Value):Bool :=
 match k with
 | .tup _ _=>false
 | .byt=>false
 | k=>match vOf z with
  | some v=>match takeLs 0 [k.leaf] v.cells with
   | some ([],[.lit n])=>n==0
   | _=>false
  | none=>false
def makeP (P:Program) (Y:St) (op:Op):Option Made :=
 match op with
 | .makeSlice t l c=>match P.underlying t with
  | some (.slice e)=>match P.info? e,elemK P e with
   | some i,some k=>match i.zero with
    | some z=>if z.cells.size==i.size&&i.size==k.sz&&decide (i.bytes<=16384)&&zeroK k z then
      match Y.cell l,Y.cell c with
      | some (.int _ a),some (.int _ b)=>if eqA a b then some ⟨k,e,a⟩ else none
      | _,_=>none
     else none
    | none=>none
   | _,_=>none
  | _=>none
 | _=>none
def makeS (Y:St) (nid:Nat) (g:Made) (dst:Option Nat):St :=
 {Y with
  nv:=Y.nv+3
  boxes:=lset Y.boxes nid (some (rowBox {x:=.var (Y.nv+2),x0:=.var (Y.nv+2),k:=g.k,elem:=g.elem,own:=true,full:=true })) }.put dst (.vl (.one (.sl nid)))
structure Copy where
 id:Nat
 r:Row
 b:Box
 defs:Defs
 y:A
def copyP (P:Program) (Y:St) (nn:Nat) (op:Op):Option Copy :=
 match op with
 | .call c=>match c.callee,c.argTypes.toList,c.args.toList with
  | .builtin .copy,[t,_],[d,s]=>match P.underlying t,Y.cell d with
   | some (.slice e),some (.sl id)=>match Y.box id,szOf P e with
    | some b,some z=>match b.row with
     | some r=>if r.own&&z==r.k.sz then match srcK Y nn r.k s with
       | some (ds,y)=>some ⟨id,r,b,ds,y⟩
       | none=>none
      else none
     | none=>none
    | _,_=>none
   | _,_=>none
  | _,_,_=>none
 | _=>none
def copyS (Y:St) (g:Copy) (dst:Option Nat):St :=
 {Y with
  nv:=Y.nv+(g.defs.length+3)
  boxes:=lset Y.boxes g.id (some (g.b.upd (.row (.var (Y.nv+(g.defs.length+2)))))) }.put dst (.vl (.one .top))
structure Frz where
 slot:Nat
 id:Nat
 n:Nat
 k:LK
 elem:TypeId
 defs:Defs
 as:List A
def freezeP (P:Program) (Y:St) (nn:Nat) (op:Op):Option Frz :=
 match op with
 | .call c=>match c.callee,c.argTypes.toList,c.args.toList with
  | .builtin .append,t::_,.tmp s::_=>match Y.cell (.tmp s) with
   | some (.slice id 0 n cap)=>match P.underlying t with
    | some (.slice e)=>match elemK P e,Y.box id with
     | some k,some b=>if b.own&&b.fz==(0,0)&&b.row.isNone&&b.elem==e&&n==cap&&decide (0<n)&&decide (n<=1024)&&b.cells.length==n*k.sz then
       match takeNK k nn n b.cells with
       | some (ds,as)=>some ⟨s,id,n,k,e,ds,as⟩
       | none=>none
      else none
     | _,_=>none
    | _=>none
   | _=>none
  | _,_,_=>none
 | _=>none
def dropB (bs:List (Option Box)) (id:Nat):List (Option Box) :=
 match lget? bs id with
 | some (some b)=>lset bs id (some {b with cells:=[],own:=false })
 | _=>bs
def freezeS (Y:St) (g:Frz):St :=
 {Y with
  nv:=Y.nv+(g.defs.length+1)
  boxes:=dropB Y.boxes g.id++[some (rowBox {x:=.var (Y.nv+g.defs.length),x0:=.var (Y.nv+g.defs.length),k:=g.k,elem:=g.elem,own:=true,full:=true })]
  tmps:=lset Y.tmps g.slot (.vl (.one (.sl Y.boxes.length))) }
def takeL (Y:St) (h:LH):Option (A×Option Nat) :=
 match Y.tmps[h.slot]? with
 | some (.vl (.one .nilslice))=>some (.lit 0,none)
 | some (.vl (.one (.sl id)))=>match Y.row id with
  | some r=>if r.own&&r.elem==h.elem&&r.k.eq h.k&&(!h.full || r.full) then some (r.x,some id) else none
  | none=>none
 | _=>none
def unlike:List Nat->Bool
 | []=>true
 | a::r=>!r.contains a&&unlike r
def lIds (q:List (A×Option Nat)):List Nat:=q.filterMap (·.2)
def addL (Y:St) (id nn:Nat):List LH->St
 | []=>Y
 | h::r=>addL {Y with
   boxes:=Y.boxes.set id (some (rowBox {x:=.var nn,x0:=.var nn,k:=h.k,elem:=h.elem,own:=true,full:=h.full }))
   tmps:=Y.tmps.set h.slot (.vl (.one (.sl id))) } (id+1) (nn+1) r
def backL (σh Y:St) (l:List LH):Option (List A) :=
 match mapO (takeL Y) l with
 | none=>none
 | some q=>if unlike (lIds q)&&(lIds q).all (fun id=>(σh.row id).isNone) then some (q.map (·.1)) else none
def viewP (Y:St):List (Hp×List L)->Option (Nat×Nat×Row)
 | []=>none
 | (.view t,_)::r=>match Y.tmps[t]? with
  | some (.vl (.one (.sl id)))=>match Y.row id with
   | some q=>some (t,id,q)
   | none=>viewP Y r
  | _=>viewP Y r
 | _::r=>viewP Y r
def viewS (Y:St) (g:Nat×Nat×Row):St:={Y with nv:=Y.nv+1,tmps:=Y.tmps.set g.1 (.vl (.one (.slv g.2.1 (.lit 0) (.var Y.nv) g.2.2.k))) }
def loopD (Y:St) (c:Code) (ann:Ann) (q:List (A×Option Nat)):St :=
 let σd:=dropT Y (((Code.dsts c).filter fun t=>!ann.hav.any fun p=>isSlot t p.1)++ann.lsts.map (·.slot))
 {σd with boxes:=noRows σd.boxes (lIds q)++List.replicate ann.lsts.length none }
def loopH (Y σd:St) (ann:Ann) (n0:Nat):St:={putH σd n0 ann.hav with nv:=n0+(hcount ann.hav+ann.lsts.length),lvl:=Y.lvl+1 }
def run (P:Program) (T:List K) (LA:List Ann):Nat->Job->St->(Ex->St->Tree)->Tree
  | 0,_,_,_=>.bad 300 ""
  | n+1,job,Y,k=>match job with
    | .code c=>match c with
      | .skip=>k .normal Y
      | .region _ ops draw =>
        if draw then
          match tailOf T ops with
          | some q =>
            if drawOk q.2 then lexK P T q.2 Y.nv Y.boxes.length n q.2.toList 0 { Y with nv:=Y.nv+q.2.size*stride,boxes:=Y.boxes++List.replicate q.2.size none } fun Y'=>if allOk T Y' q.2 then run P T LA n (.ops ops q.1) (dropT Y' (q.1.filterMap (·.dst))) k else .bad 313 ""
            else .bad 301 ""
          | none =>
            if drawOk ops then lexK P T ops Y.nv Y.boxes.length n ops.toList 0 { Y with nv:=Y.nv+ops.size*stride,boxes:=Y.boxes++List.replicate ops.size none } fun Y'=>if allOk T Y' ops then k .normal Y' else .bad 313 ""
            else .bad 301 ""
        else run P T LA n (.ops ops ops.toList) Y k
      | .seq a b=>run P T LA n (.code a) Y fun e Y'=>match e with
        | .normal=>run P T LA n (.code b) Y' k
        | e=>k e Y'
      | .cond c x y=>match Y.cell c with
        | some (.bool a)=>match truth Y a with
          | .yes=>run P T LA n (.code x) Y k
          | .no=>run P T LA n (.code y) Y k
          | .need v=>if v<Y.nv then .split v (run P T LA n (.code x) (Y.know v true) k) (run P T LA n (.code y) (Y.know v false) k) else .bad 308 ""
          | .bad=>.bad 302 ""
        | _=>.bad 302 ""
      | .block id c=>run P T LA n (.code c) Y fun e Y'=>match e with
        | .exit id'=>if id'==id then k .normal Y' else k (.exit id') Y'
        | e=>k e Y'
      | .loop c=>match findAnn LA (Code.firstPos c) with
        | none=>run P T LA n (.rounds c) Y k
        | some ann =>
         match viewP Y ann.hav with
         | some g=>.lett Y.nv (.int .i64) (.llen g.2.2.x0) (run P T LA n (.code (.loop c)) (viewS Y g) k)
         | none =>
         match mapO (takeL Y) ann.lsts with
         | none=>.bad 314 ann.pos
         | some q =>
          let σd:=loopD Y c ann q
          match takeH σd Y.nv ann.hav with
          | none=>.bad 310 ann.pos
          | some d =>
            let n0:=Y.nv+d.1.length
            let σh:=loopH Y σd ann n0
            if havOk ann.hav&&unlike (lIds q) then
              letts Y.nv d.1 (.loop (d.2++q.map (·.1)) (hkks ann.hav++ann.lsts.map fun h=>.lst h.k) n0 (run P T LA n (.code c) (addL σh Y.boxes.length (n0+hcount ann.hav) ann.lsts) fun e Y'=>match e with
                | .normal=>match backL σh Y' ann.lsts with
                  | none=>.bad 315 ann.pos
                  | some as=>match backH σh Y' n0 ann.hav with
                    | some b=>letts Y'.nv b.1 (.back Y.lvl (b.2++as))
                    | none=>.bad 311 ann.pos
                | e=>k e Y'))
            else .bad 312 ann.pos
      | .exit id=>k (.exit id) Y
      | .ret=>k .ret Y
      | .label _=>k .normal Y
      | _=>.bad 303 ""
    | .rounds c=>run P T LA n (.code c) Y fun e Y'=>match e with
        | .normal=>run P T LA n (.rounds c) Y' k
        | e=>k e Y'
    | .ops all l=>match l with
      | []=>k .normal Y
      | o::rest=>match guardG all Y o with
        | .bad=>.bad 304 o.pos
        | .need v=>if v<Y.nv then .split v (run P T LA n job (Y.know v true) k) (run P T LA n job (Y.know v false) k) else .bad 308 ""
        | .no=>run P T LA n (.ops all rest) (Y.put o.dst undefS) k
        | .yes=>match freezeP P Y Y.nv o.op with
         | some g=>letts Y.nv (g.defs++[(.lst g.k,.lapp (.lit 0) g.as)]) (run P T LA n job (freezeS Y g) k)
         | none =>
         match growP P (room Y o.op) Y.nv o.op with
         | some g=>letts Y.nv (g.defs++[(.int .i64,.llen g.x0),(.bit,.cmp .lss (.var (Y.nv+g.defs.length)) (.lit 4294967296))]) (.nz (.var (Y.nv+(g.defs.length+1)))
  (.lett (Y.nv+(g.defs.length+2)) (.lst g.k) (.lapp g.x0 [g.a]) (run P T LA n (.ops all rest) (growS (room Y o.op) Y.boxes.length g o.dst) k)))
         | none =>
         match makeP P (room Y o.op) o.op with
         | some g=>letts Y.nv [(.bit,.cmp .leq (.lit 0) g.a),(.bit,.cmp .lss g.a (.lit 4294967296))] (.nz (.var Y.nv) (.nz (.var (Y.nv+1))
  (.lett (Y.nv+2) (.lst g.k) (.lrep g.a (.lit 0)) (run P T LA n (.ops all rest) (makeS (room Y o.op) Y.boxes.length g o.dst) k))))
         | none =>
         match copyP P (room Y o.op) Y.nv o.op with
         | some g=>letts Y.nv (g.defs++[(.int .i64,.llen g.r.x0),(.bit,.cmp .lss (.lit 0) (.var (Y.nv+g.defs.length)))]) (.nz (.var (Y.nv+(g.defs.length+1)))
  (.lett (Y.nv+(g.defs.length+2)) (.lst g.r.k) (.lcpy g.r.x g.y) (run P T LA n (.ops all rest) (copyS (room Y o.op) g o.dst) k)))
         | none =>
         match plan P T (room Y o.op) Y.nv Y.boxes.length o.op with
          | .ok p=>planT Y.nv p (run P T LA n (.ops all rest) (applyP { room Y o.op with nv:=Y.nv+p.defs.length+p.post.length } p Y.boxes.length o.dst) k)
          | .need v=>if v<Y.nv then .split v (run P T LA n job (Y.know v true) k) (run P T LA n job (Y.know v false) k) else .bad 308 ""
          | .bad why=>.bad why o.pos
          | .call f args=>match P.funcs[f]? with
            | some fn=>match fn.body with
              | some c=>if fn.name == "runtime.NumGoroutine" then .bad 305 o.pos else
                run P T LA n (.code c) { Y with tmps:=args.map SV.vl++List.replicate (fn.ntmps-args.length) undefS } fun e Y'=>match e with
                | .exit _=>.bad 306 o.pos
                | _=>match resS P Y' fn with
                  | some vs=>run P T LA n (.ops all rest) ({ Y' with tmps:=Y.tmps }.put o.dst (retS vs)) k
                  | none=>.bad 307 o.pos
              | none=>.bad (2000+f) o.pos
            | none=>.bad 309 o.pos
end
noncomputable section
def inSh (nn id:Nat):List Sh->List V×List (Option Box)
 | []=>([],[])
 | .one l::ss=>let r:=inSh (nn+lcount [l]) id ss
  (V.one ((inLs nn [l]).headD .top)::r.1,r.2)
 | .agg ls::ss=>let r:=inSh (nn+lcount ls) id ss
  (V.agg (inLs nn ls)::r.1,r.2)
 | .ptr ls::ss=>let r:=inSh (nn+lcount ls) (id+1) ss
  (V.one (.ptr id 0)::r.1,some {cells:=inLs nn ls,elem:=0,own:=false }::r.2)
 | .lst k::ss=>let r:=inSh (nn+1) (id+1) ss
  (V.one (.sl id)::r.1,some (rowBox {x:=.var nn,x0:=.var nn,k:=k,elem:=0,own:=false,full:=false })::r.2)
 | .lent k::ss=>let r:=inSh (nn+2) (id+1) ss
  (V.one (.slv id (.lit 0) (.var (nn+1)) k)::r.1,some (rowBox {x:=.var nn,x0:=.var nn,k:=k,elem:=0,own:=false,full:=true })::r.2)
 | .ll::ss=>let r:=inSh (nn+1) id ss
  (V.one (.ll (.var nn))::r.1,r.2)
def icount:List Sh->Nat
 | []=>0
 | s::ss=>lcount s.leaves+icount ss
def glB (id:Nat):Gls->List (Nat×Nat)
 | []=>[]
 | p::r=>(p.1,id)::glB (id+1) r
def initS (fn:Func) (ins:List Sh) (gls:Gls:=[]):St :=
 let r:=inSh 0 0 ins
 {tmps:=r.1.map SV.vl++List.replicate (fn.ntmps-r.1.length) undefS,boxes:=r.2++gls.map (fun p=>some {cells:=p.2,elem:=0,own:=false }),nv:=icount ins,kn:=[],gl:=glB r.2.length gls,lvl:=0 }
def takeOh (Y:St) (nn:Nat):Oh->V->Option (Defs×List A)
 | .one l,.one c=>takeLs nn [l] [c]
 | .agg ls,.agg cs=>takeLs nn ls cs
 | .box e ls,.one (.ptr id 0)=>match Y.box id with
  | some b=>if b.own&&b.fz==(0,0)&&b.elem==e then takeLs nn ls b.cells else none
  | none=>none
 | .lst _ _,.one .nilslice=>some ([],[.lit 0])
 | .lst e k,.one (.sl id)=>match Y.row id with
  | some r=>if r.own&&r.elem==e&&r.k.eq k then some ([],[r.x]) else none
  | none=>none
 | .lst e k,.one (.slv id lo hi k')=>match Y.row id with
  | some r=>if r.own&&r.elem==e&&r.k.eq k&&k'.eq k&&isZ lo then some ([(.lst k,.lsub r.x lo hi)],[.var nn]) else none
  | none=>none
 | .lent _ _,.one .nilslice=>some ([],[.lit 0,.lit 0])
 | .lent e k,.one (.slv id lo hi k')=>match Y.row id with
  | some r=>if r.own&&r.elem==e&&r.k.eq k&&k'.eq k&&r.full&&isZ lo then some ([],[r.x,hi]) else none
  | none=>none
 | .lent e k,.one (.slS id 0 hi n)=>match Y.box id with
  | some b=>if b.own&&b.fz==(0,0)&&b.elem==e&&decide (0<n)&&decide (n<=1024)&&b.cells.length==n*k.sz then
    match takeNK k nn n b.cells with
    | some (ds,as)=>some (ds++[(.lst k,.lapp (.lit 0) as)],[.var (nn+ds.length),hi])
    | none=>none
   else none
  | none=>none
 | .lst e k,.one (.slice id 0 n n')=>match Y.box id with
  | some b=>if b.own&&b.fz==(0,0)&&b.elem==e&&decide (0<n)&&decide (n<=1024)&&n==n'&&b.cells.length==n*k.sz then
    match takeNK k nn n b.cells with
    | some (ds,as)=>some (ds++[(.lst k,.lapp (.lit 0) as)],[.var (nn+ds.length)])
    | none=>none
   else none
  | none=>none
 | .frz e ls,.one (.slice id 0 n n')=>match Y.box id with
  | some b=>if b.own&&b.fz==(b.cells.length,b.cells.length+1)&&b.elem==e&&n==b.cells.length&&n'==b.cells.length then takeLs nn ls b.cells else none
  | none=>none
 | _,_=>none
def takeOuts (Y:St) (nn:Nat):List Oh->List V->Option (Defs×List A)
 | [],[]=>some ([],[])
 | s::ss,v::vs=>match takeOh Y nn s v with
  | none=>none
  | some d=>match takeOuts Y (nn+d.1.length) ss vs with
   | none=>none
   | some r=>some (d.1++r.1,d.2++r.2)
 | _,_=>none
def fin (P:Program) (fn:Func) (outs:List Oh) (e:Ex) (Y:St):Tree :=
 match e with
 | .exit _=>.bad 400 ""
 | _=>match resS P Y fn with
  | none=>.bad 401 ""
  | some vs=>match takeOuts Y Y.nv outs vs with
   | none=>.bad 402 ""
   | some r=>letts Y.nv r.1 (.ret r.2)
def tree (P:Program) (T:List K) (LA:List Ann) (fuel:Nat) (fn:Func) (ins:List Sh) (outs:List Oh) (gls:Gls:=[]):Tree :=
 match fn.body with
 | some c=>run P T LA fuel (.code c) (initS fn ins gls) (fin P fn outs)
 | none=>.bad 403 ""
end
end Go.Sx
namespace Go.Sx
open Go Go.RowKit
theorem A.ev_congr {a:A} {nv:Nat} {e e':Nat->Int} (h:a.ok nv) (he:∀ i,i<nv->e' i=e i):a.ev e'=a.ev e:=by
 cases a with
 | lit n=>rfl
 | var n=>exact he _ h
 | limb n j=>simp only [A.ev];rw [he _ h]
 | elt k n j=>simp only [A.ev];rw [he _ h]
theorem A.wf_congr {a:A} {nv nv':Nat} {e e':Nat->Int} (h:a.wf nv e) (he:∀ i,i<nv->e' i=e i) (hn:nv<=nv'):a.wf nv' e':=by
 cases a with
 | lit n=>exact ⟨trivial,trivial⟩
 | var n=>exact ⟨Nat.lt_of_lt_of_le h.1 hn,trivial⟩
 | limb n j=>exact ⟨Nat.lt_of_lt_of_le h.1 hn,by have:=h.2;simp only [A.good] at *;rw [he _ h.1];exact this⟩
 | elt k n j=>exact ⟨Nat.lt_of_lt_of_le h.1 hn,by have:=h.2;simp only [A.good] at *;rw [he _ h.1];exact this⟩
theorem A.ok_mono {a:A} {nv nv':Nat} (h:a.ok nv) (hn:nv<=nv'):a.ok nv':=by
 cases a <;> simp only [A.ok] at * <;> omega
structure MExt (m:M) (nv:Nat) (al:Nat->Bool) (m':M) (nv':Nat) (al':Nat->Bool):Prop where
 env:∀ i,i<nv->m'.env i=m.env i
 rho:∀ id,al id=true->m'.rho id=m.rho id
 ext:m'.ext=m.ext
 sv:∀ id,al id=true->m'.sv id=m.sv id
 nv:nv<=nv'
 al:∀ id,al id=true->al' id=true
theorem MExt.refl (m:M) (nv:Nat) (al:Nat->Bool):MExt m nv al m nv al:=⟨fun _ _=>rfl,fun _ _=>rfl,rfl,fun _ _=>rfl,Nat.le_refl _,fun _ h=>h⟩
theorem MExt.trans {m m' m'':M} {nv nv' nv'':Nat} {al al' al'':Nat->Bool} (h:MExt m nv al m' nv' al') (k:MExt m' nv' al' m'' nv'' al''):MExt m nv al m'' nv'' al'' :=
  ⟨fun i hi=>(k.env i (Nat.lt_of_lt_of_le hi h.nv)).trans (h.env i hi),fun id hi=>(k.rho id (h.al id hi)).trans (h.rho id hi),k.ext.trans h.ext,
   fun id hi=>(k.sv id (h.al id hi)).trans (h.sv id hi),Nat.le_trans h.nv k.nv,fun id hi=>k.al id (h.al id hi)⟩
section
variable {m m':M} {nv nv':Nat} {al al':Nat->Bool}
theorem MExt.at_ (h:MExt m nv al m' nv' al') {id:Nat} (hi:al id=true) (off:Nat):m'.at id off=m.at id off:=by
 simp only [M.at,h.rho id hi]
theorem C.rel_mono (h:MExt m nv al m' nv' al') {c:C} {v:Value} (hc:c.rel m nv al v):c.rel m' nv' al' v:=by
 cases c <;> simp only [C.rel] at hc ⊢
 case int k a=>obtain ⟨h1,h2,h3⟩:=hc;rw [A.ev_congr h1.1 h.env];exact ⟨A.wf_congr h1 h.env h.nv,h2,h3⟩
 case bool a=>obtain ⟨h1,h2,h3⟩:=hc;rw [A.ev_congr h1.1 h.env];exact ⟨A.wf_congr h1 h.env h.nv,h2,h3⟩
 case sv a=>obtain ⟨h1,h2,h3⟩:=hc;rw [A.ev_congr h1.1 h.env];exact ⟨A.wf_congr h1 h.env h.nv,h2,h3⟩
 case ptr id off=>exact ⟨h.al _ hc.1,by rw [h.at_ hc.1];exact hc.2⟩
 case slice id off len cap=>exact ⟨h.al _ hc.1,by rw [h.at_ hc.1];exact hc.2⟩
 case fn f caps =>
  refine ⟨fun p hp=>h.al _ (hc.1 p hp),?_⟩
  rw [hc.2]
  congr 2
  exact List.map_congr_left fun p hp=>by rw [h.at_ (hc.1 p hp)]
 case ext n=>rw [h.ext];exact hc
 case ptrS id off i n=>obtain ⟨h1,h2,h3,h4⟩:=hc;rw [A.ev_congr h2.1 h.env];exact ⟨h.al _ h1,A.wf_congr h2 h.env h.nv,h3,by rw [h.at_ h1];exact h4⟩
 case sl id=>exact ⟨h.al _ hc.1,by rw [h.sv _ hc.1];exact hc.2⟩
 case lp id i k=>obtain ⟨h1,h2,h3,h4⟩:=hc;rw [A.ev_congr h2.1 h.env,h.sv _ h1];exact ⟨h.al _ h1,A.wf_congr h2 h.env h.nv,h3,h4⟩
 case slS id off i n=>obtain ⟨h1,h2,h3,h4⟩:=hc;rw [A.ev_congr h2.1 h.env];exact ⟨h.al _ h1,A.wf_congr h2 h.env h.nv,h3,by rw [h.at_ h1];exact h4⟩
 case ll a=>obtain ⟨h1,h2⟩:=hc;rw [A.ev_congr h1.1 h.env,h.ext];exact ⟨A.wf_congr h1 h.env h.nv,h2⟩
 case rol a=>obtain ⟨h1,h2⟩:=hc;rw [A.ev_congr h1.1 h.env,h.ext];exact ⟨A.wf_congr h1 h.env h.nv,h2⟩
 case llp a i=>obtain ⟨h1,h2,h3⟩:=hc;rw [A.ev_congr h1.1 h.env,A.ev_congr h2.1 h.env,h.ext];exact ⟨A.wf_congr h1 h.env h.nv,A.wf_congr h2 h.env h.nv,h3⟩
 case slv id lo hi k=>obtain ⟨h1,h2,h3,h4,h5⟩:=hc;rw [A.ev_congr h2.1 h.env,A.ev_congr h3.1 h.env,h.sv _ h1];exact ⟨h.al _ h1,A.wf_congr h2 h.env h.nv,A.wf_congr h3 h.env h.nv,h4,h5⟩
 all_goals exact hc
theorem Rels.mono (h:MExt m nv al m' nv' al'):∀ {cs:List C} {vs:List Value},Rels m nv al cs vs->Rels m' nv' al' cs vs
 | [],[],_=>trivial
 | _::_,_::_,hc=>⟨C.rel_mono h hc.1,Rels.mono h hc.2⟩
theorem V.rel_mono (h:MExt m nv al m' nv' al') {x:V} {v:Value} (hc:x.rel m nv al v):x.rel m' nv' al' v:=by
 cases x with
 | one c=>exact C.rel_mono h hc
 | agg cs=>obtain ⟨vs,rfl,hr⟩:=hc;exact ⟨vs,rfl,hr.mono h⟩
theorem VRels.mono (h:MExt m nv al m' nv' al'):∀ {cs:List V} {vs:List Value},VRels m nv al cs vs->VRels m' nv' al' cs vs
 | [],[],_=>trivial
 | _::_,_::_,hc=>⟨V.rel_mono h hc.1,VRels.mono h hc.2⟩
theorem SV.rel_mono (h:MExt m nv al m' nv' al') {x:SV} {v:Value} (hc:x.rel m nv al v):x.rel m' nv' al' v:=by
 cases x with
 | vl c=>exact V.rel_mono h hc
 | tup cs=>obtain ⟨vs,rfl,hr⟩:=hc;exact ⟨vs,rfl,hr.mono h⟩
theorem Rels.length:∀ {cs:List C} {vs:List Value},Rels m nv al cs vs->cs.length=vs.length
 | [],[],_=>rfl
 | _::_,_::_,h=>by simp [Rels.length h.2]
theorem Rels.get:∀ {cs:List C} {vs:List Value},Rels m nv al cs vs->∀ (i:Nat) (c:C),cs[i]?=some c->∃ v,vs[i]?=some v/\c.rel m nv al v
 | [],[],_,i,c,hi=>by simp at hi
 | _::_,_::_,h,0,c,hi=>by simp at hi;subst hi;exact ⟨_,rfl,h.1⟩
 | _::_,_::_,h,i+1,c,hi=>by simpa using Rels.get h.2 i c (by simpa using hi)
theorem Rels.take:∀ {cs:List C} {vs:List Value},Rels m nv al cs vs->∀ n,Rels m nv al (cs.take n) (vs.take n)
 | [],[],_,n=>by simp [Rels]
 | _::_,_::_,_,0=>by simp [Rels]
 | _::_,_::_,h,n+1=>⟨h.1,Rels.take h.2 n⟩
theorem Rels.drop:∀ {cs:List C} {vs:List Value},Rels m nv al cs vs->∀ n,Rels m nv al (cs.drop n) (vs.drop n)
 | [],[],_,n=>by simp [Rels]
 | _::_,_::_,h,0=>h
 | _::_,_::_,h,n+1=>Rels.drop h.2 n
theorem Rels.append:∀ {cs ds:List C} {vs us:List Value},Rels m nv al cs vs->Rels m nv al ds us->Rels m nv al (cs++ds) (vs++us)
 | [],_,[],_,_,k=>k
 | _::_,_,_::_,_,h,k=>⟨h.1,Rels.append h.2 k⟩
theorem Rels.of_get:∀ {cs:List C} {vs:List Value},cs.length=vs.length->(∀ (i:Nat) (c:C),cs[i]?=some c->∃ v,vs[i]?=some v/\c.rel m nv al v)->Rels m nv al cs vs
 | [],[],_,_=>trivial
 | c::cs,v::vs,hl,h=>⟨by obtain ⟨u,hu,hr⟩:=h 0 c rfl;simp at hu;subst hu;exact hr,Rels.of_get (by simpa using hl) fun i c hi=>by simpa using h (i+1) c (by simpa using hi)⟩
 | [],_::_,hl,_=>by simp at hl
 | _::_,[],hl,_=>by simp at hl
theorem VRels.length:∀ {cs:List V} {vs:List Value},VRels m nv al cs vs->cs.length=vs.length
 | [],[],_=>rfl
 | _::_,_::_,h=>by simp [VRels.length h.2]
theorem VRels.get:∀ {cs:List V} {vs:List Value},VRels m nv al cs vs->∀ (i:Nat) (c:V),cs[i]?=some c->∃ v,vs[i]?=some v/\c.rel m nv al v
 | [],[],_,i,c,hi=>by simp at hi
 | _::_,_::_,h,0,c,hi=>by simp at hi;subst hi;exact ⟨_,rfl,h.1⟩
 | _::_,_::_,h,i+1,c,hi=>by simpa using VRels.get h.2 i c (by simpa using hi)
theorem VRels.append:∀ {cs ds:List V} {vs us:List Value},VRels m nv al cs vs->VRels m nv al ds us->VRels m nv al (cs++ds) (vs++us)
 | [],_,[],_,_,k=>k
 | _::_,_,_::_,_,h,k=>⟨h.1,VRels.append h.2 k⟩
theorem C.rel_one {c:C} {v:Value} (hc:c.rel m nv al v) (hs:c.solid=true):v.oneCell'=true:=by
 cases c <;> simp only [C.rel] at hc <;> simp only [C.solid] at hs
 case int=>rw [hc.2.2];rfl
 case bool=>rw [hc.2.2];rfl
 case ptr=>rw [hc.2];rfl
 case slice=>rw [hc.2];rfl
 case fn=>rw [hc.2];rfl
 case ext=>exact hc.2
 case top=>cases hs
 case ptrS=>rw [hc.2.2.2];rfl
 case sl=>exact hc.2.2
 case lp=>rw [hc.2.2.2];rfl
 case slv=>exact hc.2.2.2.2.2
 case sv=>rw [hc.2.2];rfl
 case slS=>rw [hc.2.2.2];rfl
 case ll=>exact hc.2.2
 case rol=>exact hc.2.2.2
 case llp=>obtain ⟨_,_,_,s,_,h⟩:=hc;rw [h];rfl
 all_goals (rw [hc];rfl)
theorem Rels.one:∀ {cs:List C} {vs:List Value},Rels m nv al cs vs->cs.all C.solid=true->∀ v∈vs,v.oneCell'=true
 | [],[],_,_,v,hv=>by cases hv
 | c::cs,u::us,h,hs,v,hv=>by
  simp only [List.all_cons,Bool.and_eq_true] at hs
  rcases List.mem_cons.1 hv with rfl | hv
  ·exact C.rel_one h.1 hs.1
  ·exact Rels.one h.2 hs.2 v hv
theorem V.rel_cells {x:V} {v:Value} (hc:x.rel m nv al v) (hs:x.cells.all C.solid=true):∃ vs:List Value,v.cells=vs.toArray/\Rels m nv al x.cells vs/\(∀ u∈vs,u.oneCell'=true):=by
 cases x with
 | one c =>
  have h1:v.oneCell'=true:=C.rel_one hc (by simpa [V.cells] using hs)
  refine ⟨[v],?_,⟨hc,trivial⟩,by simpa using h1⟩
  cases v <;> first | rfl | (simp [Value.oneCell'] at h1)
 | agg cs=>obtain ⟨vs,rfl,hr⟩:=hc;exact ⟨vs,rfl,hr,hr.one hs⟩
end
theorem hasB_has {k:IntKind} {n:Int} (h:hasB k n=true):has k n:=by
 simp only [hasB,Bool.and_eq_true,decide_eq_true_eq] at h;exact h
section
variable {m:M} {nv:Nat} {al:Nat->Bool}
theorem cOf_rel {v:Value} {c:C} (h:cOf v=some c):c.rel m nv al v/\c.solid=true:=by
 unfold cOf at h
 split at h
 ·split at h
  ·cases h;exact ⟨⟨⟨trivial,trivial⟩,hasB_has ‹_›,rfl⟩,rfl⟩
  ·cases h
 ·rename_i b;cases h;refine ⟨⟨⟨trivial,trivial⟩,?_⟩,rfl⟩;cases b <;> simp [A.ev,b2i]
 all_goals (cases h;try exact ⟨rfl,rfl⟩)
theorem mapO_rel {vs:List Value}:∀ {cs:List C},mapO cOf vs=some cs->Rels m nv al cs vs/\cs.all C.solid=true:=by
 induction vs with
 | nil=>intro cs h;simp [mapO] at h;subst h;exact ⟨trivial,rfl⟩
 | cons v vs ih =>
  intro cs h
  unfold mapO at h
  split at h
  ·cases h
  ·rename_i c hc
   split at h
   ·cases h
   ·rename_i ds hd
    cases h
    have:=ih hd
    have hc':=cOf_rel (m:=m) (nv:=nv) (al:=al) hc
    exact ⟨⟨hc'.1,this.1⟩,by simp [hc'.2,this.2]⟩
theorem vOf_rel {v:Value} {x:V} (h:vOf v=some x):x.rel m nv al v/\x.cells.all C.solid=true:=by
 unfold vOf at h
 split at h
 ·rename_i cs
  cases hm:mapO cOf cs.toList with
  | none=>simp [hm] at h
  | some ds=>simp [hm] at h;subst h;have:=mapO_rel (m:=m) (nv:=nv) (al:=al) hm;exact ⟨⟨cs.toList,by simp,this.1⟩,this.2⟩
 ·cases hm:cOf v with
  | none=>simp [hm] at h
  | some c=>simp [hm] at h;subst h;have:=cOf_rel (m:=m) (nv:=nv) (al:=al) hm;exact ⟨this.1,by simp [V.cells,this.2]⟩
end
section
variable {w0:World} {m:M} {Y:St} {a:Act} {w:World}
theorem look_mem {l:List (Nat×Nat)} {n k:Nat} (h:look l n=some k):(n,k)∈l:=by
 induction l with
 | nil=>simp [look] at h
 | cons p r ih =>
  unfold look at h
  split at h
  ·rename_i hp;cases h;simp at hp;subst hp;exact List.mem_cons_self ..
  ·exact List.mem_cons_of_mem _ (ih h)
theorem lookB_mem {l:List (Nat×Bool)} {n:Nat} {k:Bool} (h:lookB l n=some k):(n,k)∈l:=by
 induction l with
 | nil=>simp [lookB] at h
 | cons p r ih =>
  unfold lookB at h
  split at h
  ·rename_i hp;cases h;simp at hp;subst hp;exact List.mem_cons_self ..
  ·exact List.mem_cons_of_mem _ (ih h)
theorem Rep.get (h:Rep w0 m Y a w) (t:Nat):(Y.get t).rel m Y.nv Y.al (a.tmps.getD t undef):=by
 rw [St.get_def]
 cases ht:Y.tmps[t]? with
 | some s =>
  obtain ⟨v,hv,hr⟩:=h.tmp t s ht
  simp only [List.getD_eq_getElem?_getD,ht,Option.getD_some,Array.getD_eq_getD_getElem?,hv]
  exact hr
 | none =>
  have hl:Y.tmps.length<=t:=List.getElem?_eq_none_iff.1 ht
  have:a.tmps[t]?=none:=Array.getElem?_eq_none_iff.2 (by rw [h.size];exact hl)
  simp only [List.getD_eq_getElem?_getD,ht,Option.getD_none,Array.getD_eq_getD_getElem?,this]
  exact ⟨[],rfl,trivial⟩
theorem Rep.val (h:Rep w0 m Y a w) {x:Operand} {s:SV} (hx:Y.val x=some s):s.rel m Y.nv Y.al (a.eval x):=by
 cases x with
 | tmp t=>simp only [St.val,Option.some.injEq] at hx;subst hx;exact h.get t
 | const v =>
  simp only [St.val] at hx
  cases hv:vOf v with
  | none=>simp [hv] at hx
  | some c=>simp [hv] at hx;subst hx;exact (vOf_rel hv).1
 | func f=>simp only [St.val,Option.some.injEq] at hx;subst hx;exact ⟨by simp,by simp [Act.eval]⟩
 | global g =>
  simp only [St.val] at hx
  cases hg:look Y.gl g with
  | none=>simp [hg] at hx
  | some id =>
   simp [hg] at hx;subst hx
   have:=h.gl _ (look_mem hg)
   exact ⟨this.1,by simp [Act.eval,M.at,this.2]⟩
theorem Rep.v_ (h:Rep w0 m Y a w) {x:Operand} {s:V} (hx:Y.v x=some s):s.rel m Y.nv Y.al (a.eval x):=by
 unfold St.v at hx
 split at hx
 ·rename_i c hc;cases hx;exact h.val hc
 ·cases hx
theorem Rep.cell (h:Rep w0 m Y a w) {x:Operand} {s:C} (hx:Y.cell x=some s):s.rel m Y.nv Y.al (a.eval x):=by
 unfold St.cell at hx
 split at hx
 ·rename_i c hc;cases hx;exact h.val hc
 ·cases hx
theorem Rep.put (h:Rep w0 m Y a w) {s:SV} {v:Value} (hs:s.rel m Y.nv Y.al v) (dst:Option Nat):Rep w0 m (Y.put dst s) (a.put dst v) w:=by
 cases dst with
 | none=>exact h
 | some d =>
  refine ⟨h.defers,by simp [Act.put,St.put_def,h.size],?_,h.below,h.own,h.ro,h.inj,h.kn,h.gl,h.rows,h.rbox,h.rsep,h.base⟩
  intro i s' hi
  simp only [St.put_def] at hi
  by_cases hd:d=i
  ·subst hd
   have hl:d<Y.tmps.length:=by
    rcases Nat.lt_or_ge d Y.tmps.length with h1 | h1
    ·exact h1
    ·rw [List.getElem?_eq_none (by simpa using h1)] at hi;cases hi
   simp [hl] at hi
   subst hi
   exact ⟨v,by simp [Act.put,h.size,hl],hs⟩
  ·rw [List.getElem?_set_ne hd] at hi
   obtain ⟨u,hu,hr⟩:=h.tmp i s' hi
   exact ⟨u,by simp [Act.put,Array.getElem?_setIfInBounds_ne hd,hu],hr⟩
theorem Rep.truth (h:Rep w0 m Y a w) {x:A}:(truth Y x=.yes->x.ev m.env≠0)/\(truth Y x=.no->x.ev m.env=0):=by
 unfold Sx.truth
 cases x with
 | lit n=>by_cases h0:n=0 <;> simp [A.ev,h0]
 | var n =>
  simp only [A.ev]
  cases hb:lookB Y.kn n with
  | none=>simp
  | some b =>
   have:=(h.kn _ (lookB_mem hb)).2
   cases b <;> simp at this <;> simp [this]
 | limb n j=>simp
 | elt k n j=>simp
end
section
variable {w0:World} {m:M} {Y:St} {a:Act} {w w':World}
theorem Rep.lt_size (h:Rep w0 m Y a w) {id:Nat} {b:Box} (hb:Y.boxes[id]?=some (some b)) (ho:b.own=true):(m.rho id).1<w.heap.size:=by
 obtain ⟨_,_,vs,hv,_⟩:=h.own id b hb ho
 exact (Array.getElem?_eq_some_iff.1 hv).1
theorem add_block (ad:Addr) (j:Nat):(ad.add j).block=ad.block:=by
 unfold Addr.add;split
 ·rfl
 ·rfl
theorem ownsRow_of {w w':World} {base:Nat} {e:TypeId} {size:Nat} {v:Value} {n:Nat} {xs:List Value} (h:w.ownsRow base e size v n xs) (hb:∀ g,v.ownBlock=some g->w'.heap[g]?=w.heap[g]?):w'.ownsRow base e size v n xs:=by
 refine ⟨h.1,?_⟩
 rcases h.2 with hn | ⟨g,cap,cur,rfl,h2,h3,h4⟩
 ·exact .inl hn
 ·exact .inr ⟨g,cap,cur,rfl,h2,by rw [hb g rfl];exact h3,h4⟩
theorem RowAt.turn {w0 w w':World} {r:Row} {v:Value} {l:List Int} (h:RowAt w0 w r v l) (h1:∀ g,r.own=true->v.ownBlock=some g->w'.heap[g]?=w.heap[g]?) (h2:∀ p:Addr,p.block<w0.heap.size->w'.cell? p=w.cell? p):RowAt w0 w' r v l:=by
 refine ⟨h.1,?_,h.2.2⟩
 have h3:=h.2.1
 cases ho:r.own with
 | true =>
  rw [ho] at h3
  simp only [if_true] at h3 ⊢
  exact ownsRow_of h3 fun g hg=>h1 g ho hg
 | false =>
  rw [ho] at h3
  simp only [Bool.false_eq_true,if_false] at h3 ⊢
  rcases h3 with h3 | ⟨ad,cap,k1,k2,k3,k4⟩
  ·exact .inl h3
  ·refine .inr ⟨ad,cap,k1,k2,k3,fun j u hj=>?_⟩
   rcases k2 with k2 | k2
   ·rw [k2] at hj;simp [flat] at hj
   ·rw [h2 _ (by rw [add_block];exact k2)];exact k4 j u hj
theorem RowAt.lt {w0 w:World} {r:Row} {v:Value} {l:List Int} (h:RowAt w0 w r v l) (ho:r.own=true) {g:Nat} (hg:v.ownBlock=some g):w0.heap.size<=g/\g<w.heap.size:=by
 have h3:=h.2.1
 rw [ho] at h3
 simp only [if_true] at h3
 exact h3.lt g hg
theorem RowAt.below {w0 w w':World} {r:Row} {v:Value} {l:List Int} (h:RowAt w0 w r v l) (hs:w0.heap.size<=w.heap.size) (hb:Below w.heap.size w w'):RowAt w0 w' r v l :=
 h.turn (fun g ho hg=>hb.block _ (h.lt ho hg).2) (fun p hp=>hb.cell (p:=p) (Nat.lt_of_lt_of_le hp hs))
theorem Rep.world (h:Rep w0 m Y a w) (hb:Below w.heap.size w w'):Rep w0 m Y a w':=by
 refine ⟨h.defers,h.size,h.tmp,h.below.trans (hb.mono h.below.size),?_,?_,h.inj,h.kn,h.gl,fun id b r hi hr=>?_,h.rbox,h.rsep,h.base⟩
 ·intro id b hi ho
  obtain ⟨h1,h2,vs,h3,h4⟩:=h.own id b hi ho
  exact ⟨h1,h2,vs,by rw [hb.block _ (h.lt_size hi ho)];exact h3,h4⟩
 ·intro id b hi ho
  rcases h.ro id b hi ho with h0 | ⟨h1,h2⟩
  ·exact .inl h0
  refine .inr ⟨h1,fun j c hj=>?_⟩
  obtain ⟨v,h3,h4⟩:=h2 j c hj
  exact ⟨v,by rw [hb.cell (p:=m.at id j) (Nat.lt_of_lt_of_le h1 h.below.size)];exact h3,h4⟩
 ·obtain ⟨r1,r2,r3,r4⟩:=h.rows id b r hi hr
  exact ⟨r1,r2,r3,r4.below h.below.size hb⟩
def M.bind (m:M) (id b:Nat):M:={m with rho:=fun i=>if i=id then (b,0) else m.rho i }
def St.setBox (Y:St) (id:Nat) (b:Box):St:={Y with boxes:=Y.boxes.set id (some b) }
theorem al_setBox (Y:St) (id:Nat) (b:Box) (i:Nat):(Y.setBox id b).al i=(if i=id/\id<Y.boxes.length then true else Y.al i):=by
 unfold St.al St.setBox
 by_cases hi:id=i
 ·subst hi
  by_cases hl:id<Y.boxes.length
  ·simp [hl]
  ·simp [hl]
 ·simp [List.getElem?_set_ne hi,Ne.symm hi]
theorem al_iff {Y:St} {id:Nat}:Y.al id=true↔∃ b,Y.boxes[id]?=some (some b):=by
 unfold St.al
 constructor
 ·intro h;split at h
  ·exact ⟨_,‹_›⟩
  ·cases h
 ·rintro ⟨b,hb⟩;simp [hb]
theorem Rep.new (h:Rep w0 m Y a w) {nid:Nat} (hn:Y.boxes[nid]?=some none) (hb:Below w.heap.size w w') {b:Nat} (hbn:w.heap.size<=b) {e:TypeId} {cs:List C} {vs:List Value} {z:Nat×Nat}
  (hh:w'.heap[b]?=some (.cells vs.toArray e z)) (hr:Rels m Y.nv Y.al cs vs) :
  Rep w0 (m.bind nid b) (Y.setBox nid {cells:=cs,elem:=e,own:=true,fz:=z }) a w'/\MExt m Y.nv Y.al (m.bind nid b) Y.nv (Y.setBox nid {cells:=cs,elem:=e,own:=true,fz:=z }).al:=by
 have hx:MExt m Y.nv Y.al (m.bind nid b) Y.nv (Y.setBox nid {cells:=cs,elem:=e,own:=true,fz:=z }).al:=by
  refine ⟨fun _ _=>rfl,fun id hid=>?_,rfl,fun _ _=>rfl,Nat.le_refl _,fun id hid=>?_⟩
  ·have:id≠nid:=by rintro rfl;obtain ⟨b,hb⟩:=al_iff.1 hid;rw [hn] at hb;cases hb
   simp [M.bind,this]
  ·rw [al_setBox]
   split
   ·rfl
   ·exact hid
 have hnl:nid<Y.boxes.length:=by
  rcases Nat.lt_or_ge nid Y.boxes.length with h1 | h1
  ·exact h1
  ·rw [List.getElem?_eq_none (by simpa using h1)] at hn;cases hn
 have h':=h.world hb
 have old:∀ {id:Nat} {bx:Box},(Y.setBox nid {cells:=cs,elem:=e,own:=true,fz:=z }).boxes[id]?=some (some bx)->id≠nid->Y.boxes[id]?=some (some bx):=by
  intro id bx hi hne
  simpa [St.setBox,List.getElem?_set_ne (Ne.symm hne)] using hi
 have new:∀ {bx:Box},(Y.setBox nid {cells:=cs,elem:=e,own:=true,fz:=z }).boxes[nid]?=some (some bx)->bx={cells:=cs,elem:=e,own:=true,fz:=z }:=by
  intro bx hi
  simp [St.setBox,hnl] at hi
  exact hi.symm
 have norow:∀ {id:Nat} {bx:Box} {r:Row},(Y.setBox nid {cells:=cs,elem:=e,own:=true,fz:=z }).boxes[id]?=some (some bx)->bx.row=some r->id≠nid:=by
  intro id bx r hi hr hne
  subst hne
  have:=new hi;subst this;cases hr
 have hw0:w0.heap.size<=w.heap.size:=h.below.size
 refine ⟨⟨h.defers,h.size,fun i s hi=>?_,h'.below,?_,?_,?_,h.kn,?_,fun id bx r hi hr=>?_,fun id bx r hi hr ho id' b' hi' hbo=>?_,fun id bx r id' b' r' hi hr hi' hr' ho ho' hd=>?_,h.base⟩,hx⟩
 ·obtain ⟨v,hv,hs⟩:=h.tmp i s hi;exact ⟨v,hv,SV.rel_mono hx hs⟩
 ·intro id bx hi ho
  by_cases hne:id=nid
  ·subst hne
   have:=new hi;subst this
   exact ⟨by simp [M.bind],by simp [M.bind];omega,vs,by simpa [M.bind] using hh,hr.mono hx⟩
  ·have hi':=old hi hne
   obtain ⟨h1,h2,us,h3,h4⟩:=h'.own id bx hi' ho
   have he:(m.bind nid b).rho id=m.rho id:=by simp [M.bind,hne]
   rw [he]
   exact ⟨h1,h2,us,h3,h4.mono hx⟩
 ·intro id bx hi ho
  by_cases hne:id=nid
  ·subst hne
   have:=new hi;subst this;cases ho
  ·have hi':=old hi hne
   have he:(m.bind nid b).rho id=m.rho id:=by simp [M.bind,hne]
   rw [he]
   rcases h'.ro id bx hi' ho with h0 | ⟨h1,h2⟩
   ·exact .inl h0
   refine .inr ⟨h1,fun j c hj=>?_⟩
   obtain ⟨v,h3,h4⟩:=h2 j c hj
   exact ⟨v,by simpa [M.at,he] using h3,C.rel_mono hx h4⟩
 ·intro id id' b1 b2 hi hi' ho ho' hd
  by_cases h1:id=nid
  ·subst h1
   have h2:id'≠id:=Ne.symm hd
   have hlt:=h.lt_size (old hi' h2) ho'
   simp [M.bind,h2];omega
  ·by_cases h2:id'=nid
   ·subst h2
    have hlt:=h.lt_size (old hi h1) ho
    simp [M.bind,h1];omega
   ·simpa [M.bind,h1,h2] using h.inj id id' b1 b2 (old hi h1) (old hi' h2) ho ho' hd
 ·intro p hp
  have h1:=h.gl p hp
  exact ⟨hx.al _ h1.1,by rw [hx.rho _ h1.1];exact h1.2⟩
 ·exact h'.rows id bx r (old hi (norow hi hr)) hr
 ·obtain ⟨r1,r2,r3,r4⟩:=h.rows id bx r (old hi (norow hi hr)) hr
  by_cases he:id'=nid
  ·subst he
   intro hc
   have:=(r4.lt ho hc).2
   simp [M.bind] at this;omega
  ·have he2:(m.bind nid b).rho id'=m.rho id':=by simp [M.bind,he]
   rw [he2]
   exact h.rbox id bx r (old hi (norow hi hr)) hr ho id' b' (old hi' he) hbo
 ·exact h.rsep id bx r id' b' r' (old hi (norow hi hr)) hr (old hi' (norow hi' hr')) hr' ho ho' hd
theorem Rep.room (h:Rep w0 m Y a w) (n:Nat):Rep w0 m {Y with boxes:=Y.boxes++List.replicate n none } a w:=by
 have hal:∀ id,({Y with boxes:=Y.boxes++List.replicate n none }:St).al id=Y.al id:=by
  intro id
  unfold St.al
  by_cases hl:id<Y.boxes.length
  ·simp [List.getElem?_append_left hl]
  ·rw [List.getElem?_append_right (by omega),List.getElem?_eq_none (show Y.boxes.length<=id by omega)]
   by_cases h2:id-Y.boxes.length<n
   ·simp [h2]
   ·rw [List.getElem?_eq_none (by simp;omega)]
 have hfun:({Y with boxes:=Y.boxes++List.replicate n none }:St).al=Y.al:=funext hal
 have old:∀ {id:Nat} {bx:Box},(Y.boxes++List.replicate n none)[id]?=some (some bx)->Y.boxes[id]?=some (some bx):=by
  intro id bx hi
  have h1:({Y with boxes:=Y.boxes++List.replicate n none }:St).al id=true:=al_iff.2 ⟨bx,hi⟩
  rw [hal] at h1
  obtain ⟨b',hb'⟩:=al_iff.1 h1
  have hl:id<Y.boxes.length:=(List.getElem?_eq_some_iff.1 hb').1
  rw [List.getElem?_append_left hl] at hi
  exact hi
 refine ⟨h.defers,h.size,?_,h.below,?_,?_,?_,h.kn,?_,fun id b r hi=>h.rows id b r (old hi),fun id b r hi hr ho id' b' hi'=>h.rbox id b r (old hi) hr ho id' b' (old hi'),fun id b r id' b' r' hi hr hi'=>h.rsep id b r id' b' r' (old hi) hr (old hi'),h.base⟩
 ·rw [hfun];exact h.tmp
 ·rw [hfun];exact fun id b hi=>h.own id b (old hi)
 ·rw [hfun];exact fun id b hi=>h.ro id b (old hi)
 ·exact fun id id' b b' hi hi'=>h.inj id id' b b' (old hi) (old hi')
 ·rw [hfun];exact h.gl
theorem Rep.names (h:Rep w0 m Y a w) (e':Nat->Int) (he:∀ i,i<Y.nv->e' i=m.env i) (nv':Nat) (hnv:Y.nv<=nv'):Rep w0 {m with env:=e' } {Y with nv:=nv' } a w:=by
 have hx:MExt m Y.nv Y.al {m with env:=e' } nv' Y.al:=⟨he,fun _ _=>rfl,rfl,fun _ _=>rfl,hnv,fun _ h=>h⟩
 have hal:({Y with nv:=nv' }:St).al=Y.al:=rfl
 refine ⟨h.defers,h.size,fun i s hi=>?_,h.below,fun id b hi ho=>?_,fun id b hi ho=>?_,h.inj,fun p hp=>?_,h.gl,fun id b r hi hr=>?_,h.rbox,h.rsep,h.base⟩
 ·obtain ⟨v,hv,hs⟩:=h.tmp i s hi;exact ⟨v,hv,SV.rel_mono hx hs⟩
 ·obtain ⟨h1,h2,vs,h3,h4⟩:=h.own id b hi ho;exact ⟨h1,h2,vs,h3,h4.mono hx⟩
 ·rcases h.ro id b hi ho with h0 | ⟨h1,h2⟩
  ·exact .inl h0
  refine .inr ⟨h1,fun j c hj=>?_⟩
  obtain ⟨v,h3,h4⟩:=h2 j c hj
  exact ⟨v,h3,C.rel_mono hx h4⟩
 ·have h1:=h.kn p hp
  exact ⟨Nat.lt_of_lt_of_le h1.1 hnv,by rw [<- h1.2];exact congrArg (fun x:Int=>decide (x≠0)) (he _ h1.1)⟩
 ·obtain ⟨r1,r2,r3,r4⟩:=h.rows id b r hi hr
  exact ⟨A.wf_congr r1 he hnv,A.wf_congr r2 he hnv,by rw [A.ev_congr r1.1 he,A.ev_congr r2.1 he];exact r3,by rw [A.ev_congr r1.1 he];exact r4⟩
theorem Rep.wr (h:Rep w0 m Y a w) {id off:Nat} {b:Box} (hb:Y.boxes[id]?=some (some b)) (ho:b.own=true) {cs:List C} {vs us:List Value}
  (hc:w.heap[(m.rho id).1]?=some (.cells us.toArray b.elem (0,0))) (hr:Rels m Y.nv Y.al cs vs) :
  Rep w0 m (Y.setBox id (b.upd (.cells off cs))) a (w.setRow (m.rho id).1 (us.take off++vs++us.drop (off+vs.length)).toArray):=by
 have hlt:id<Y.boxes.length:=(List.getElem?_eq_some_iff.1 hb).1
 obtain ⟨hz,hge,us',hus,hrels⟩:=h.own id b hb ho
 have hue:us'=us/\b.fz=(0,0):=by rw [hc] at hus;simp at hus;exact ⟨hus.1.symm,hus.2.symm⟩
 obtain ⟨hue,hfz⟩:=hue
 subst hue
 have hal:(Y.setBox id (b.upd (.cells off cs))).al=Y.al:=by
  funext i
  rw [al_setBox]
  split
  ·rename_i hi;rw [hi.1];exact (al_iff.2 ⟨b,hb⟩).symm
  ·rfl
 have old:∀ {i:Nat} {bx:Box},(Y.setBox id (b.upd (.cells off cs))).boxes[i]?=some (some bx)->i≠id->Y.boxes[i]?=some (some bx):=by
  intro i bx hi hne
  simpa [St.setBox,List.getElem?_set_ne (Ne.symm hne)] using hi
 have new:∀ {bx:Box},(Y.setBox id (b.upd (.cells off cs))).boxes[id]?=some (some bx)->bx=(b.upd (.cells off cs)):=by
  intro bx hi
  simp [St.setBox,hlt] at hi
  simp [<- hi]
 have hlen:=Rels.length hr
 have own':∀ {i:Nat} {bx:Box},(Y.setBox id (b.upd (.cells off cs))).boxes[i]?=some (some bx)->bx.own=true->∃ bx',Y.boxes[i]?=some (some bx')/\bx'.own=true:=by
  intro i bx hi ho'
  by_cases hne:i=id
  ·subst hne;exact ⟨b,hb,ho⟩
  ·exact ⟨bx,old hi hne,ho'⟩
 have row':∀ {i:Nat} {bx:Box},(Y.setBox id (b.upd (.cells off cs))).boxes[i]?=some (some bx)->∃ bx',Y.boxes[i]?=some (some bx')/\bx'.row=bx.row:=by
  intro i bx hi
  by_cases hne:i=id
  ·subst hne
   have:=new hi;subst this;exact ⟨b,hb,rfl⟩
  ·exact ⟨bx,old hi hne,rfl⟩
 refine ⟨h.defers,h.size,?_,?_,?_,?_,?_,h.kn,?_,?_,?_,?_,h.base⟩
 ·rw [hal];exact h.tmp
 ·refine h.below.trans ⟨rfl,rfl,rfl,by simp,fun k hk=>setRow_other _ _ _ _ (by omega)⟩
 ·rw [hal]
  intro i bx hi ho'
  by_cases hne:i=id
  ·subst hne
   have:=new hi;subst this
   refine ⟨hz,hge,_,(by
    show _=some (Obj.cells _ b.elem b.fz)
    rw [hfz];exact setRow_heap w _ _ _ _ _ hc),?_⟩
   have h1:=(Rels.append (Rels.append (Rels.take hrels off) hr) (Rels.drop hrels (off+cs.length)))
   rw [<- hlen]
   exact h1
  ·have hi':=old hi hne
   obtain ⟨h1,h2,xs,h3,h4⟩:=h.own i bx hi' ho'
   refine ⟨h1,h2,xs,?_,h4⟩
   rw [setRow_other _ _ _ _ (h.inj i id bx b hi' hb ho' ho hne)]
   exact h3
 ·rw [hal]
  intro i bx hi ho'
  by_cases hne:i=id
  ·subst hne
   have:=new hi;subst this
   have ho':b.own=false:=ho'
   rw [ho] at ho';cases ho'
  ·have hi':=old hi hne
   rcases h.ro i bx hi' ho' with h0 | ⟨h1,h2⟩
   ·exact .inl h0
   refine .inr ⟨h1,fun j c hj=>?_⟩
   obtain ⟨v,h3,h4⟩:=h2 j c hj
   refine ⟨v,?_,h4⟩
   rw [cell_setRow_other _ _ _ _ (by simp only [M.at];omega)]
   exact h3
 ·intro i i' b1 b2 hi hi' ho1 ho2 hd
  obtain ⟨c1,hc1,hd1⟩:=own' hi ho1
  obtain ⟨c2,hc2,hd2⟩:=own' hi' ho2
  exact h.inj i i' c1 c2 hc1 hc2 hd1 hd2 hd
 ·rw [hal];exact h.gl
 ·intro i bx r hi hr
  obtain ⟨bx',g1,g2⟩:=row' hi
  obtain ⟨r1,r2,r3,r4⟩:=h.rows i bx' r g1 (g2.trans hr)
  exact ⟨r1,r2,r3,r4.turn (fun g ho' hg=>setRow_other _ _ _ _ fun e=>h.rbox i bx' r g1 (g2.trans hr) ho' id b hb ho (by rw [hg,e])) fun q hq=>cell_setRow_other _ _ _ _ (by omega)⟩
 ·intro i bx r hi hr ho' i' b' hi' hbo
  obtain ⟨bx',g1,g2⟩:=row' hi
  obtain ⟨c',k1,k2⟩:=own' hi' hbo
  exact h.rbox i bx' r g1 (g2.trans hr) ho' i' c' k1 k2
 ·intro i bx r i' bx' r' hi hr hi' hr' ho1 ho2 hd
  obtain ⟨c,g1,g2⟩:=row' hi
  obtain ⟨c',k1,k2⟩:=row' hi'
  exact h.rsep i c r i' c' r' g1 (g2.trans hr) k1 (k2.trans hr') ho1 ho2 hd
theorem modify_get {α:Type} (l:Array α) (g i:Nat) (f:α->α):(l.modify g f)[i]?=if g=i then l[i]?.map f else l[i]?:=by
 rw [Array.getElem?_modify]
theorem Rep.mark (h:Rep w0 m Y a w) {id:Nat} {b:Box} (hb:Y.boxes[id]?=some (some b)) (ho:b.own=true) {us:List Value} {f:Obj->Obj}
  (hc:w.heap[(m.rho id).1]?=some (.cells us.toArray b.elem (0,0))) (hl:us.length=b.cells.length) (hf:f (.cells us.toArray b.elem (0,0))=.cells us.toArray b.elem (us.length,us.length+1)) :
  Rep w0 m (Y.setBox id (b.upd .mark)) a {w with heap:=w.heap.modify (m.rho id).1 f }:=by
 have hlt:id<Y.boxes.length:=(List.getElem?_eq_some_iff.1 hb).1
 obtain ⟨hz,hge,us',hus,hrels⟩:=h.own id b hb ho
 have hue:us'=us/\b.fz=(0,0):=by rw [hc] at hus;simp at hus;exact ⟨hus.1.symm,hus.2.symm⟩
 obtain ⟨hue,hfz⟩:=hue
 subst hue
 have hself:({w with heap:=w.heap.modify (m.rho id).1 f }:World).heap[(m.rho id).1]?=some (.cells us'.toArray b.elem (us'.length,us'.length+1)):=by
  show (w.heap.modify (m.rho id).1 f)[(m.rho id).1]?=_
  rw [modify_get,if_pos rfl,hc,Option.map_some,hf]
 have hother:∀ i,i≠(m.rho id).1->({w with heap:=w.heap.modify (m.rho id).1 f }:World).heap[i]?=w.heap[i]?:=fun i hi=>by
  show (w.heap.modify (m.rho id).1 f)[i]?=_
  rw [modify_get,if_neg (Ne.symm hi)]
 have hcell:∀ p:Addr,({w with heap:=w.heap.modify (m.rho id).1 f }:World).cell? p=w.cell? p:=fun p=>by
  by_cases hp:p.block=(m.rho id).1
  ·unfold World.cell?
   rw [hp,hself,hc]
  ·unfold World.cell?
   rw [hother _ hp]
 have hal:(Y.setBox id (b.upd .mark)).al=Y.al:=by
  funext i
  rw [al_setBox]
  split
  ·rename_i hi;rw [hi.1];exact (al_iff.2 ⟨b,hb⟩).symm
  ·rfl
 have old:∀ {i:Nat} {bx:Box},(Y.setBox id (b.upd .mark)).boxes[i]?=some (some bx)->i≠id->Y.boxes[i]?=some (some bx):=by
  intro i bx hi hne
  simpa [St.setBox,List.getElem?_set_ne (Ne.symm hne)] using hi
 have new:∀ {bx:Box},(Y.setBox id (b.upd .mark)).boxes[id]?=some (some bx)->bx=b.upd .mark:=by
  intro bx hi
  simp [St.setBox,hlt] at hi
  simp [<- hi]
 have own':∀ {i:Nat} {bx:Box},(Y.setBox id (b.upd .mark)).boxes[i]?=some (some bx)->bx.own=true->∃ bx',Y.boxes[i]?=some (some bx')/\bx'.own=true:=by
  intro i bx hi ho'
  by_cases hne:i=id
  ·subst hne;exact ⟨b,hb,ho⟩
  ·exact ⟨bx,old hi hne,ho'⟩
 have row':∀ {i:Nat} {bx:Box},(Y.setBox id (b.upd .mark)).boxes[i]?=some (some bx)->∃ bx',Y.boxes[i]?=some (some bx')/\bx'.row=bx.row:=by
  intro i bx hi
  by_cases hne:i=id
  ·subst hne
   have:=new hi;subst this;exact ⟨b,hb,rfl⟩
  ·exact ⟨bx,old hi hne,rfl⟩
 refine ⟨h.defers,h.size,?_,?_,?_,?_,?_,h.kn,?_,?_,?_,?_,h.base⟩
 ·rw [hal];exact h.tmp
 ·exact h.below.trans ⟨rfl,rfl,rfl,by simp,fun k hk=>hother k (by omega)⟩
 ·rw [hal]
  intro i bx hi ho'
  by_cases hne:i=id
  ·subst hne
   have:=new hi;subst this
   refine ⟨hz,hge,us',?_,hrels⟩
   rw [hself,hl];rfl
  ·have hi':=old hi hne
   obtain ⟨h1,h2,xs,h3,h4⟩:=h.own i bx hi' ho'
   exact ⟨h1,h2,xs,by rw [hother _ (h.inj i id bx b hi' hb ho' ho hne)];exact h3,h4⟩
 ·rw [hal]
  intro i bx hi ho'
  by_cases hne:i=id
  ·subst hne
   have:=new hi;subst this
   have ho':b.own=false:=ho'
   rw [ho] at ho';cases ho'
  ·have hi':=old hi hne
   rcases h.ro i bx hi' ho' with h0 | ⟨h1,h2⟩
   ·exact .inl h0
   refine .inr ⟨h1,fun j c hj=>?_⟩
   obtain ⟨v,h3,h4⟩:=h2 j c hj
   exact ⟨v,by rw [hcell];exact h3,h4⟩
 ·intro i i' b1 b2 hi hi' ho1 ho2 hd
  obtain ⟨c1,hc1,hd1⟩:=own' hi ho1
  obtain ⟨c2,hc2,hd2⟩:=own' hi' ho2
  exact h.inj i i' c1 c2 hc1 hc2 hd1 hd2 hd
 ·rw [hal];exact h.gl
 ·intro i bx r hi hr
  obtain ⟨bx',g1,g2⟩:=row' hi
  obtain ⟨r1,r2,r3,r4⟩:=h.rows i bx' r g1 (g2.trans hr)
  exact ⟨r1,r2,r3,r4.turn (fun g ho' hg=>hother _ fun e=>h.rbox i bx' r g1 (g2.trans hr) ho' id b hb ho (by rw [hg,e])) fun q _=>hcell q⟩
 ·intro i bx r hi hr ho' i' b' hi' hbo
  obtain ⟨bx',g1,g2⟩:=row' hi
  obtain ⟨c',k1,k2⟩:=own' hi' hbo
  exact h.rbox i bx' r g1 (g2.trans hr) ho' i' c' k1 k2
 ·intro i bx r i' bx' r' hi hr hi' hr' ho1 ho2 hd
  obtain ⟨c,g1,g2⟩:=row' hi
  obtain ⟨c',k1,k2⟩:=row' hi'
  exact h.rsep i c r i' c' r' g1 (g2.trans hr) k1 (k2.trans hr') ho1 ho2 hd
theorem Rep.wrRow (h:Rep w0 m Y a w) {id:Nat} {b:Box} {r:Row} {x:A} (hb:Y.boxes[id]?=some (some b)) (hr:b.row=some r) (ho:r.own=true) {g:Nat} (hg:(m.sv id).ownBlock=some g) {us:Array Value}
  (hx:x.wf Y.nv m.env) (hl:(dec (x.ev m.env)).length=(dec (r.x.ev m.env)).length) (hat:RowAt w0 (w.setRow g us) {r with x:=x } (m.sv id) (dec (x.ev m.env))) :
  Rep w0 m (Y.setBox id (b.upd (.row x))) a (w.setRow g us):=by
 have hlt:id<Y.boxes.length:=(List.getElem?_eq_some_iff.1 hb).1
 have hbu:b.upd (.row x)={b with row:=some {r with x:=x } }:=by simp only [Box.upd,hr]
 rw [hbu]
 obtain ⟨r1,r2,r3,r4⟩:=h.rows id b r hb hr
 have hge:=(r4.lt ho hg).1
 have hal:(Y.setBox id {b with row:=some {r with x:=x } }).al=Y.al:=by
  funext i
  rw [al_setBox]
  split
  ·rename_i hi;rw [hi.1];exact (al_iff.2 ⟨b,hb⟩).symm
  ·rfl
 have old:∀ {i:Nat} {bx:Box},(Y.setBox id {b with row:=some {r with x:=x } }).boxes[i]?=some (some bx)->i≠id->Y.boxes[i]?=some (some bx):=by
  intro i bx hi hne
  simpa [St.setBox,List.getElem?_set_ne (Ne.symm hne)] using hi
 have new:∀ {bx:Box},(Y.setBox id {b with row:=some {r with x:=x } }).boxes[id]?=some (some bx)->bx={b with row:=some {r with x:=x } }:=by
  intro bx hi
  simp [St.setBox,hlt] at hi
  simp [<- hi]
 have same:∀ {i:Nat} {bx:Box},(Y.setBox id {b with row:=some {r with x:=x } }).boxes[i]?=some (some bx)->∃ bx',Y.boxes[i]?=some (some bx')/\bx'.own=bx.own/\bx'.cells=bx.cells/\bx'.elem=bx.elem/\bx'.fz=bx.fz:=by
  intro i bx hi
  by_cases hne:i=id
  ·subst hne
   have:=new hi;subst this;exact ⟨b,hb,rfl,rfl,rfl,rfl⟩
  ·exact ⟨bx,old hi hne,rfl,rfl,rfl,rfl⟩
 have row':∀ {i:Nat} {bx:Box} {q:Row},(Y.setBox id {b with row:=some {r with x:=x } }).boxes[i]?=some (some bx)->bx.row=some q->∃ bx' q',Y.boxes[i]?=some (some bx')/\bx'.row=some q'/\q'.own=q.own:=by
  intro i bx q hi hq
  by_cases hne:i=id
  ·subst hne
   have:=new hi;subst this
   simp at hq;subst hq
   exact ⟨b,r,hb,hr,rfl⟩
  ·exact ⟨bx,q,old hi hne,hq,rfl⟩
 refine ⟨h.defers,h.size,?_,?_,?_,?_,?_,h.kn,?_,?_,?_,?_,h.base⟩
 ·rw [hal];exact h.tmp
 ·exact h.below.trans ⟨rfl,rfl,rfl,by simp,fun k hk=>setRow_other _ _ _ _ (by omega)⟩
 ·rw [hal]
  intro i bx hi ho'
  obtain ⟨bx',k1,k2,k3,k4,k5⟩:=same hi
  obtain ⟨h1,h2,xs,h3,h4⟩:=h.own i bx' k1 (k2.trans ho')
  refine ⟨h1,h2,xs,?_,by rw [<- k3];exact h4⟩
  rw [setRow_other _ _ _ _ (fun e=>h.rbox id b r hb hr ho i bx' k1 (k2.trans ho') (by rw [hg,e])),<- k4,<- k5]
  exact h3
 ·rw [hal]
  intro i bx hi ho'
  obtain ⟨bx',k1,k2,k3,k4⟩:=same hi
  rcases h.ro i bx' k1 (k2.trans ho') with h0 | ⟨h1,h2⟩
  ·exact .inl (k3▸h0)
  refine .inr ⟨h1,fun j c hj=>?_⟩
  obtain ⟨v,h3,h4⟩:=h2 j c (by rw [k3];exact hj)
  refine ⟨v,?_,h4⟩
  rw [cell_setRow_other _ _ _ _ (by simp only [M.at];omega)]
  exact h3
 ·intro i i' b1 b2 hi hi' ho1 ho2 hd
  obtain ⟨c1,k1,k2,_⟩:=same hi
  obtain ⟨c2,j1,j2,_⟩:=same hi'
  exact h.inj i i' c1 c2 k1 j1 (k2.trans ho1) (j2.trans ho2) hd
 ·rw [hal];exact h.gl
 ·intro i bx q hi hq
  by_cases hne:i=id
  ·subst hne
   have:=new hi;subst this
   simp at hq;subst hq
   exact ⟨hx,r2,r3.trans hl.symm,hat⟩
  ·have hi':=old hi hne
   obtain ⟨q1,q2,q3,q4⟩:=h.rows i bx q hi' hq
   refine ⟨q1,q2,q3,q4.turn (fun g' ho' hg'=>setRow_other _ _ _ _ fun e=>?_) fun p hp=>cell_setRow_other _ _ _ _ (by omega)⟩
   rcases h.rsep id b r i bx q hb hr hi' hq ho ho' (Ne.symm hne) with k | k
   ·rw [hg] at k;cases k
   ·rw [hg,hg',e] at k;exact k rfl
 ·intro i bx q hi hq ho' i' b' hi' hbo
  obtain ⟨c,q',k1,k2,k3⟩:=row' hi hq
  obtain ⟨c',j1,j2,_⟩:=same hi'
  exact h.rbox i c q' k1 k2 (k3.trans ho') i' c' j1 (j2.trans hbo)
 ·intro i bx q i' bx' q' hi hq hi' hq' ho1 ho2 hd
  obtain ⟨c,p,k1,k2,k3⟩:=row' hi hq
  obtain ⟨c',p',j1,j2,j3⟩:=row' hi' hq'
  exact h.rsep i c p i' c' p' k1 k2 j1 j2 (k3.trans ho1) (j3.trans ho2) hd
end
end Go.Sx
