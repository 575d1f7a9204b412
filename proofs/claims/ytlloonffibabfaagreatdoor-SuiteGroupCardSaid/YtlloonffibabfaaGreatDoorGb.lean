/- Part Gb of the proof. -/
import Derived.Test.YtlloonffibabfaaGreatDoorGa
import Derived.ProofKit
import Derived.OpenShut
import Derived.WideKeyArr2
import Derived.Carry
set_option linter.unusedVariables false
set_option linter.unusedSimpArgs false
namespace Go.Sx
open Go Go.ChangeShapes Go.WideShapes Go.RowKit
variable {H:Type}{enc:TypeId×Value->H}{P:Program}{w:World}{base:Nat}{spare:Nat->Bool}{held:Bool}
theorem mapM_each{α β:Type}{f:α->Option β}:∀(L:List α) (ys:List β),L.mapM f=some ys->∀i∈L,∃y,f i=some y
 |[],_,_,i,hi=>by cases hi
 |a::L,ys,h,i,hi=>by
  rw[List.mapM_cons]at h;simp only[bind,Option.bind_eq_some_iff,pure,Option.some.injEq]at h;obtain⟨y,hy,zs,hz,rfl⟩:=h;rcases O6.1 hi with rfl|hi
  ·exact⟨y,hy⟩
  ·exact mapM_each L zs hz i hi
theorem Bb{n:Int}(h:(Lit.int .u64 n).wf=true):0<=n/\n<18446744073709551616:=by
 simp[Lit.wf]at h;have a:IntKind.u64.min=0:=by decide +kernel
 have b:IntKind.u64.max=18446744073709551615:=by decide +kernel
 omega
theorem Zpc{t e:TypeId}{n:Nat}{k:IntKind}(ht:P.underlying t=some (.array n e))(he:P.underlying e=some (.int k))(hce:P.cellsOf e=1)(hct:P.cellsOf t=n)
  {r:Reach} {b0:Nat} {v:Value} {d:DataW H} {p:List MemPlace} (hval:Value.okWide P w r b0 t v) (hd:DataW.Trod enc P w base spare held t v d p) :
  ∃zs:List Int,zs.length=n/\v=.agg (zs.map fun z=>.int k z).toArray/\∀z∈zs,(Lit.int k z).wf=true:=by
 simp only[Value.okWide,ht]at hval;obtain⟨cs,rfl,h2,_⟩:=hval;obtain⟨fuel,hf⟩:=hd;cases fuel with
 |zero=>simp[DataW.trod]at hf
 |succ m =>
  rw[DataW.trod_step]at hf;unfold DataW.trodStep at hf;simp only[ht,Value.cells]at hf;rw[if_pos (by rw[hct];simpa[hct]using h2)]at hf;simp only[Option.map_eq_some_iff]at hf;obtain⟨ys,hy,_⟩:=hf;have hall:=mapM_each _ _ hy;have hz:∀i,i<n->∃z,cs.toList[i]?=some (.int k z)/\(Lit.int k z).wf=true:=by
   intro i hi;obtain⟨y,hy⟩:=hall i (H2.2 hi);obtain⟨z,e1,_,wz⟩:=DataW.trod_int he hy;rw[hce,Nat.mul_one]at e1;refine⟨z,?_,wz⟩;have:((cs.toList.drop i).take 1)[0]?=some (.int k z):=by rw[e1];rfl
   simpa using this
  have hl:cs.toList.length=n:=by simpa[hct]using h2
  generalize hL:cs.toList=L at hz hl;have hcs:cs=L.toArray:=by rw[<- hL]
  subst hcs;clear hL h2 hy hall;have key:∀(L:List Value),(∀i,i<L.length->∃z,L[i]?=some (.int k z)/\(Lit.int k z).wf=true)->∃zs:List Int,zs.length=L.length/\L=zs.map (fun z=>.int k z)/\∀z∈zs,(Lit.int k z).wf=true:=by
   intro L
   induction L with
   |nil=>exact fun _=>⟨[],rfl,rfl,fun _ h=>by cases h⟩
   |cons a L ih =>
    intro h;obtain⟨z,e0,wz⟩:=h 0 (by simp);simp at e0;subst e0;obtain⟨zs,h1,h2,h3⟩:=ih fun i hi=>by have:=h (i+1) (by simpa using hi);simpa using this
    exact⟨z::zs,by simp[h1],by rw[h2];rfl,fun y hy=>by rcases O6.1 hy with rfl|hy;exact wz;exact h3 _ hy⟩
  obtain⟨zs,h1,h2,h3⟩:=key L (by rw[hl];exact hz);exact⟨zs,by rw[h1,hl],by rw[h2],h3⟩
theorem Zg5(z0 z1 z2 z3 z4 z5:Int)(h0:0<=z0/\z0<18446744073709551616)(h1:0<=z1/\z1<18446744073709551616)(h2:0<=z2/\z2<18446744073709551616)(h3:0<=z3/\z3<18446744073709551616)(h4:0<=z4/\z4<18446744073709551616)(h5:0<=z5/\z5<18446744073709551616) :
  ∃x:Int,0<=x/\x<Qv/\Yi x=[.int .u64 z0,.int .u64 z1,.int .u64 z2,.int .u64 z3,.int .u64 z4,.int .u64 z5]:=by
 refine⟨z0+18446744073709551616*z1+340282366920938463463374607431768211456*z2+6277101735386680763835789423207666416102355444464034512896*z3+115792089237316195423570985008687907853269984665640564039457584007913129639936*z4+2135987035920910082395021706169552114602704522356652769947041607822219725780640550022962086936576*z5,by omega,by simp only[Qv];omega,?_⟩;have q0:p64 0=1:=by decide +kernel
 have q1:p64 1=18446744073709551616:=by decide +kernel
 have q2:p64 2=340282366920938463463374607431768211456:=by decide +kernel
 have q3:p64 3=6277101735386680763835789423207666416102355444464034512896:=by decide +kernel
 have q4:p64 4=115792089237316195423570985008687907853269984665640564039457584007913129639936:=by decide +kernel
 have q5:p64 5=2135987035920910082395021706169552114602704522356652769947041607822219725780640550022962086936576:=by decide +kernel
 simp only[Yi,List.range,List.range.loop,List.map,q0,q1,q2,q3,q4,q5];simp only[List.cons.injEq,Value.int.injEq,true_and,and_true];omega
theorem Qf7{t e:TypeId}(ht:P.underlying t=some (.array 6 e))(he:P.underlying e=some (.int .u64))(hce:P.cellsOf e=1)(hct:P.cellsOf t=6)
  {r:Reach} {b0:Nat} {v:Value} {d:DataW H} {p:List MemPlace} (hval:Value.okWide P w r b0 t v) (hd:DataW.Trod enc P w base spare held t v d p) :
  ∃x:Int,0<=x/\x<Qv/\v=.agg (Yi x).toArray:=by
 obtain⟨zs,hl,rfl,hw⟩:=Zpc ht he hce hct hval hd
 match zs,hl,hw with
 |[z0,z1,z2,z3,z4,z5],_,hw =>
  obtain⟨x,h1,h2,h3⟩:=Zg5 z0 z1 z2 z3 z4 z5 (Bb (hw _ (by simp))) (Bb (hw _ (by simp))) (Bb (hw _ (by simp))) (Bb (hw _ (by simp))) (Bb (hw _ (by simp))) (Bb (hw _ (by simp)));exact⟨x,h1,h2,by rw[h3];rfl⟩
end Go.Sx
namespace Go.Sx
open Go
noncomputable section
def cOf:Value->Option C
 |.int k n=>if hasB k n then some (.int k (.lit n))else none
 |.bool b=>some (.bool (.lit (X6 b)))
 |.string s=>some (.str s)
 |.pointer none=>some .nil
 |.slice none 0 0=>some .nilslice
 |.nilFunc=>some .nilfn
 |.nilIface=>some .niliface
 |.map none=>some .nilmap
 |_=>none
def Ze{α β:Type}(f:α->Option β):List α->Option (List β)
 |[]=>some []
 |x::xs=>match f x with
  |none=>none
  |some y=>match Ze f xs with
   |none=>none
   |some ys=>some (y::ys)
def vOf:Value->Option V
 |.agg cs=>(Ze cOf cs.toList).map .agg
 |v=>(cOf v).map .one
def look(l:List (Nat×Nat))(n:Nat):Option Nat :=
 match l with
 |[]=>none
 |p::r=>if p.1==n then some p.2 else look r n
def Qa4(l:List (Nat×Bool))(n:Nat):Option Bool :=
 match l with
 |[]=>none
 |p::r=>if p.1==n then some p.2 else Qa4 r n
def St.get(Z:St)(t:Nat):SV:=(lget? Z.tmps t).getD (.tup [])
theorem St.Xje(Z:St)(t:Nat):Z.get t=Z.tmps.getD t (.tup []):=by rw[St.get,lget?_eq,Ov]
def St.val(Z:St):Operand->Option SV
 |.tmp t=>some (Z.get t)
 |.const v=>(vOf v).map .vl
 |.func f=>some (.vl (.one (.fn f [])))
 |.global g=>(look Z.gl g).map fun id=>.vl (.one (.ptr id 0))
def St.box(Z:St)(id:Nat):Option Box:=match lget? Z.boxes id with|some (some b)=>some b|_=>none
theorem St.Xit(Z:St)(id:Nat):Z.box id=match Z.boxes[id]? with|some (some b)=>some b|_=>none:=by rw[St.box,lget?_eq]
def St.cell(Z:St)(x:Operand):Option C:=match Z.val x with|some (.vl (.one c))=>some c|_=>none
def St.v(Z:St)(x:Operand):Option V:=match Z.val x with|some (.vl c)=>some c|_=>none
def C.Xi3:C->Bool|.top=>false|_=>true
def V.cells:V->List C|.one c=>[c]|.agg cs=>cs
def A.lit?:A->Option Int|.lit n=>some n|_=>none
def szOf(P:Program)(t:TypeId):Option Nat:=(P.info? t).map (·.size)
def Xl(d:TypeDesc):Bool:=match d with|.struct _|.array _ _=>true|_=>false
structure Val where
 kk:KK
 d:D
def Zm6(d:D):Option Int :=
 match d with
 |.bin op k (.lit a) (.lit b)=>some (Qw op k a b)
 |.cmp op (.lit a) (.lit b)=>some (X6 (Ur op a b))
 |.conv k (.lit a)=>some (wr k a)
 |.not (.lit a)=>some (if a=0 then 1 else 0)
 |.eqs l=>match Ze (fun p:A×A=>match p with|(.lit a,.lit b)=>some (a==b)|_=>none) l with
  |some bs=>some (X6 (bs.all id))
  |none=>none
 |_=>none
abbrev Defs:=List (KK×D)
def mk(nn:Nat)(kk:KK)(d:D):Defs×A :=
 match Zm6 d with
 |some n=>([],.lit n)
 |none=>([(kk,d)],.v nn)
inductive Upd where
 |cells (off:Nat) (cs:List C)
 |row (x:A)
 |mark
def Box.upd(b:Box):Upd->Box
 |.cells off cs=>{b with cells:=b.cells.take off++cs++b.cells.drop (off+cs.length) }
 |.row x=>match b.row with
  |some r=>{b with row:=some {r with x:=x } }
  |none=>b
 |.mark=>{b with fz:=(b.cells.length,b.cells.length+1) }
def Zf(r:Row):Box:={cells:=[],elem:=r.elem,own:=false,row:=some r }
inductive Eff where
 |none
 |new (b:Box)
 |wr (id:Nat) (u:Upd)
 |extv
 |grow (old:Option Nat) (b:Box)
structure Plan where
 val:SV
 defs:Defs:=[]
 eff:Eff:=.none
 reqs:List (Nat×List A):=[]
 post:Defs:=[]
 nz:List A:=[]
inductive Pl where
 |ok (p:Plan)
 |call (f:FuncId) (args:List V)
 |need (n:Nat)
 |bad (why:Nat)
def Xd6(cs:List C):Option (List A) :=
 match cs with
 |[.int .u64 a,.int .u64 b,.int .u64 c,.int .u64 d,.int .u64 e,.int .u64 f]=>some [a,b,c,d,e,f]
 |_=>none
def uni(as:List A):Option Nat :=
 match as with
 |[.m n 0,.m n1 1,.m n2 2,.m n3 3,.m n4 4,.m n5 5] =>
  if n==n1&&n==n2&&n==n3&&n==n4&&n==n5 then some n else none
 |_=>none
def Zb3(as:List A):Option Int:=(Ze A.lit? as).map Y2
def Qln(nn:Nat)(as:List A):Defs×A :=
 match uni as with
 |some n=>([],.v n)
 |none=>match Zb3 as with
  |some n=>([],.lit n)
  |none=>([(.num,.join as)],.v nn)
def cEq:C->C->Bool
 |.int k (.lit a),.int k' (.lit b)=>k==k'&&a==b
 |.bool (.lit a),.bool (.lit b)=>a==b
 |.fn f [],.fn g []=>f==g
 |.str a,.str b=>decide (a=b)
 |.nil,.nil=>true
 |.nilslice,.nilslice=>true
 |.nilfn,.nilfn=>true
 |.nilmap,.nilmap=>true
 |.niliface,.niliface=>true
 |_,_=>false
def Qxm(k:IntKind):C->Option A|.int k' a=>if k==k' then some a else none|_=>none
def Qf6(k:IntKind)(n j:Nat):List A->Bool
 |[]=>true
 |.elt k' m i::r=>k'==k&&m==n&&i==j&&Qf6 k n (j+1) r
 |_=>false
def Qvm(k:IntKind)(as:List A):Option Nat :=
 match as with
 |.elt _ n _::_=>if Qf6 k n 0 as then some n else none
 |_=>none
def Qht(nn:Nat)(k:IntKind)(as:List A):Defs×A :=
 match Qvm k as with
 |some n=>([(.arr k as.length,.lsub (.v n) (.lit 0) (.lit as.length))],.v nn)
 |none=>([(.arr k as.length,.lapp (.lit 0) as)],.v nn)
def Qom(k:IntKind)(nn:Nat):Nat->Nat->List C
 |0,_=>[]
 |n+1,j=>.int k (.elt k nn j)::Qom k nn n (j+1)
def X3(nn:Nat):List L->List C->Option (Defs×List A)
 |[],[]=>some ([],[])
 |.cst c::ls,c'::cs=>if cEq c c' then X3 nn ls cs else none
 |.int k::ls,.int k' a::cs=>if k==k' then(X3 nn ls cs).map fun r=>(r.1,a::r.2)else none
 |.bool::ls,.bool a::cs=>match a with
  |.lit n=>if n==0 || n==1 then(X3 nn ls cs).map fun r=>(r.1,a::r.2)else none
  |_=>(X3 nn ls cs).map fun r=>(r.1,a::r.2)
 |.num::ls,a::b::c::d::e::f::cs=>match Xd6 [a,b,c,d,e,f]with
  |none=>none
  |some as=>match X3 (nn+(Qln nn as).1.length) ls cs with
   |none=>none
   |some r=>some ((Qln nn as).1++r.1,(Qln nn as).2::r.2)
 |.arr k n::ls,cs=>match Ze (Qxm k) (cs.take n)with
  |none=>none
  | some as=>if as.length==n&&decide (n<=1024) then match X3 (nn+(Qht nn k as).1.length) ls (cs.drop n) with
    |none=>none
    |some r=>some ((Qht nn k as).1++r.1,(Qht nn k as).2::r.2)
   else none
 |_,_=>none
def St.row(Z:St)(id:Nat):Option Row:=match Z.box id with|some b=>b.row|none=>none
def isZ:A->Bool|.lit n=>n==0|_=>false
theorem Qfi{a:A}(h:isZ a=true):a=.lit 0:=by
 cases a <;> simp[isZ]at h <;> simp[h]
def LK.leaf:LK->L|.num=>.num|.int k=>.int k|.tup _ _=>.bool|.byt=>.bool
def LL.leaf:LL->L|.num=>.num|.int k=>.int k|.bit=>.bool
def Zvm(r:Option (Defs×List A)):Option (Defs×A):=match r with|some (ds,[y])=>some (ds,y)|_=>none
def takeK(nn:Nat)(k:LK)(cs:List C):Option (Defs×A) :=
 match k with
 |.num=>Zvm (X3 nn [.num] cs)
 |.int k=>Zvm (X3 nn [.int k] cs)
 |.tup l ls=>match X3 nn ((l::ls).map LL.leaf) cs with
  |some (ds,as)=>some (ds++[(.any,.lapp (.lit 0) as)],.v (nn+ds.length))
  |none=>none
 |.byt=>none
def takeNK(k:LK):Nat->Nat->List C->Option (Defs×List A)
 |_,0,cs=>match cs with|[]=>some ([],[])|_=>none
 |nn,n+1,cs=>match takeK nn k (cs.take k.sz)with
  |none=>none
  |some d=>match takeNK k (nn+d.1.length) n (cs.drop k.sz)with
   |none=>none
   |some r=>some (d.1++r.1,d.2::r.2)
def takeSh(Z:St)(nn:Nat):Sh->V->Option (Defs×List A)
 |.one l,.one c=>X3 nn [l] [c]
 |.agg ls,.agg cs=>X3 nn ls cs
 |.ptr ls,.one (.ptr id off)=>match Z.box id with
  |none=>none
  |some b=>X3 nn ls ((b.cells.drop off).take (ls.foldl (fun n l=>n+(match l with|.num=>6|.lst _=>0|.arr _ n=>n|_=>1)) 0))
 |.lst k,.one (.sl id)=>match Z.row id with
  |some r=>if r.k.eq k then some ([],[r.x])else none
  |none=>none
 |.lst _,.one .nilslice=>some ([],[.lit 0])
 |.lst k,.one (.rol a)=>if k.eq (.int .u8)then some ([],[a])else none
 |.lst k,.one (.slv id lo hi k')=>match Z.row id with
  |some r=>if r.k.eq k&&k'.eq k then some ([(.lst k,.lsub r.x lo hi)],[.v nn])else none
  |none=>none
 |.lent k,.one (.sl id)=>match Z.row id with
  |some r=>if r.k.eq k&&r.full then some ([(.int .i64,.llen r.x0)],[r.x,.v nn])else none
  |none=>none
 |.lent k,.one (.slv id lo hi k')=>match Z.row id with
  |some r=>if r.k.eq k&&k'.eq k&&r.full&&isZ lo then some ([],[r.x,hi])else none
  |none=>none
 |.lent _,.one .nilslice=>some ([],[.lit 0,.lit 0])
 |.lst k,.one (.slice id off n c)=>match Z.box id with
  |none=>none
  | some b=>if decide (0<n)&&decide (n<=c)&&decide (n<=1024)&&decide (n*k.sz<=(b.cells.drop off).length) then
    match takeNK k nn n ((b.cells.drop off).take (n*k.sz))with
    |some (ds,as)=>some (ds++[(.lst k,.lapp (.lit 0) as)],[.v (nn+ds.length)])
    |none=>none
   else none
 |.lst k,.one (.slS id off hi n)=>match Z.box id with
  |none=>none
  | some b=>if decide (0<n)&&decide (n<=1024)&&decide (n*k.sz<=(b.cells.drop off).length) then
    match takeNK k nn n ((b.cells.drop off).take (n*k.sz))with
    |some (ds,as)=>some (ds++[(.lst k,.lapp (.lit 0) as),(.lst k,.lsub (.v (nn+ds.length)) (.lit 0) hi)],[.v (nn+(ds.length+1))])
    |none=>none
   else none
 |_,_=>none
def Jj(Z:St):Nat->List C->Option (Defs×List A)
 |_,[]=>some ([],[])
 |nn,c::cs=>match takeSh Z nn (.lst (.int .u8)) (.one c)with
  |some (ds,[y])=>match Jj Z (nn+ds.length) cs with
   |some r=>some (ds++r.1,y::r.2)
   |none=>none
  |_=>none
def Qhv(Z:St)(nn:Nat):V->Option (Defs×List A)
 |.one (.ll a)=>some ([],[a])
 |.one .nilslice=>some ([],[.lit 0])
 |.one (.slice id off n c)=>match Z.box id with
  |none=>none
  | some b=>if decide (0<n)&&decide (n<=c)&&decide (n<=1024)&&decide (n<=(b.cells.drop off).length) then
    match Jj Z nn ((b.cells.drop off).take n)with
    |some r=>some (r.1++[(.lst .byt,.lapp (.lit 0) r.2)],[.v (nn+r.1.length)])
    |none=>none
   else none
 |_=>none
def Zfk:Sh->Bool|.ll=>true|_=>false
def Wy(Z:St)(nn:Nat)(s:Sh)(v:V):Option (Defs×List A):=if Zfk s then Qhv Z nn v else takeSh Z nn s v
def Wb(Z:St)(nn:Nat):List Sh->List V->Option (Defs×List A)
 |[],[]=>some ([],[])
 |s::ss,v::vs=>match Wy Z nn s v with
  |none=>none
  |some d=>match Wb Z (nn+d.1.length) ss vs with
   |none=>none
   |some r=>some (d.1++r.1,d.2++r.2)
 |_,_=>none
def Xhf:L->KK|.int k=>.int k|.num=>.num|.lst k=>.lst k|.arr k n=>.arr k n|_=>.bit
def Yb(g:Nat)(args:List A)(nn j:Nat):List L->Defs×List C
 |[]=>([],[])
 |.cst c::ls=>let r:=Yb g args nn j ls;(r.1,(if Qy6 c then c else .top)::r.2)
 |.int k::ls=>let r:=Yb g args (nn+1) (j+1) ls;((.int k,.app g j args)::r.1,.int k (.v nn)::r.2)
 |.bool::ls=>let r:=Yb g args (nn+1) (j+1) ls;((.bit,.app g j args)::r.1,.bool (.v nn)::r.2)
 |.lst k::ls=>let r:=Yb g args (nn+1) (j+1) ls;((.lst k,.app g j args)::r.1,r.2)
 |.arr k n::ls=>let r:=Yb g args (nn+1) (j+1) ls;((.arr k n,.app g j args)::r.1,Qom k nn n 0++r.2)
 |.num::ls=>let r:=Yb g args (nn+1) (j+1) ls
  ((.num,.app g j args)::r.1,[C.int .u64 (.m nn 0),.int .u64 (.m nn 1),.int .u64 (.m nn 2),.int .u64 (.m nn 3),.int .u64 (.m nn 4),.int .u64 (.m nn 5)]++r.2)
def Z4(g:Nat)(args:List A)(nn j nid:Nat):List Oh->Option (Defs×List V×Option Box)
 |[]=>some ([],[],none)
 |.one l::os =>
  let r:=Yb g args nn j [l]
  match Z4 g args (nn+Qt [l]) (j+Qt [l]) nid os with
  |none=>none
  |some q=>match r.2 with
   |[c]=>some (r.1++q.1,.one c::q.2.1,q.2.2)
   |_=>none
 |.agg ls::os =>
  let r:=Yb g args nn j ls
  match Z4 g args (nn+Qt ls) (j+Qt ls) nid os with
  |none=>none
  |some q=>some (r.1++q.1,.agg r.2::q.2.1,q.2.2)
 |.box e ls::os =>
  let r:=Yb g args nn j ls
  match Z4 g args (nn+Qt ls) (j+Qt ls) nid os with
  |none=>none
  |some q=>match q.2.2 with
   |none=>some (r.1++q.1,.one (.ptr nid 0)::q.2.1,some {cells:=r.2,elem:=e,own:=true })
   |some _=>none
 |.lst e k::os =>
  let r:=Yb g args nn j [.lst k]
  match Z4 g args (nn+1) (j+1) nid os with
  |none=>none
  |some q=>match q.2.2 with
   |none=>some (r.1++q.1,.one (.sl nid)::q.2.1,some (Zf {x:=.v nn,x0:=.v nn,k:=k,elem:=e,own:=true,full:=false }))
   |some _=>none
 |.lent e k::os =>
  let r:=Yb g args nn j [.lst k,.int .i64]
  match Z4 g args (nn+2) (j+2) nid os with
  |none=>none
  |some q=>match q.2.2 with
   |none=>some (r.1++q.1,.one (.slv nid (.lit 0) (.v (nn+1)) k)::q.2.1,some (Zf {x:=.v nn,x0:=.v nn,k:=k,elem:=e,own:=true,full:=true }))
   |some _=>none
def Zot(Y:K)(g:Nat)(args:List A)(nn nid:Nat):Option (Defs×List V×Option Box) :=
 match Y.fold,Y.outs,Ze A.lit? args with
 |true,[.one (.int k)],some xs=>if hasB k ((Y.sem xs).getD 0 0)then some ([],[V.one (.int k (.lit ((Y.sem xs).getD 0 0)))],none)else Z4 g args nn 0 nid Y.outs
 |_,_,_=>Z4 g args nn 0 nid Y.outs
def Qfh:List V->SV
 |[v]=>.vl v
 |vs=>.tup vs
def Qjy(T:List K)(f:FuncId):Nat->Option (Nat×K)
 |g=>match T with
  |[]=>none
  |Y::r=>if Y.fn==f then some (g,Y)else Qjy r f (g+1)
def Qxl:List Sh->List V->Bool
 |.one (.cst c)::ss,.one c'::vs=>cEq c c'&&Qxl ss vs
 |_::ss,_::vs=>Qxl ss vs
 |_,_=>true
def Qty(T:List K)(f:FuncId)(vs:List V):Nat->Option (Nat×K)
 |g=>match T with
  |[]=>none
  |Y::r=>if Y.fn==f&&Qxl Y.ins vs then some (g,Y)else Qty r f vs (g+1)
def Zdr(T:List K)(f:FuncId)(vs:List V):Option (Nat×K) :=
 match Qty T f vs 0 with
 |some r=>some r
 |none=>Qjy T f 0
inductive Tr where|yes|no|need (n:Nat)|bad
def Vp(v:C):Pl:=.ok {val:=.vl (.one v) }
def mkP(nn:Nat)(kk:KK)(d:D)(c:A->C):Pl:=let r:=mk nn kk d;.ok {val:=.vl (.one (c r.2)),defs:=r.1 }
def Xis(Z:St):A->Tr
 |.lit n=>if n=0 then .no else .yes
 |.v n=>match Qa4 Z.kn n with|some true=>.yes|some false=>.no|none=>.need n
 |_=>.bad
def idx(Z:St)(x:Operand):Option Nat :=
 match Z.cell x with
 |some (.int _ (.lit n))=>if 0<=n then some n.toNat else none
 |_=>none
def Qn4(place:Nat->Option (Nat×Nat))(cells:List C):List (Nat×List C)->Option (List C)
 |[]=>some cells
 |(i,v)::rest=>match place i with
  |none=>none
  |some (off,size)=>if v.length≠size || cells.length<off+v.length then none
   else Qn4 place (cells.take off++v++cells.drop (off+v.length)) rest
def Qtm:IntKind->IntKind->Bool
 |.u8,.i64|.u8,.u64|.u8,.u32|.u8,.u16|.u8,.i32|.u8,.i16|.u16,.u32|.u16,.i32|.u16,.i64|.u16,.u64|.u32,.i64|.u32,.u64|.i32,.i64|.i8,.i64=>true
 |a,b=>a==b
end
noncomputable section
def eqN(f:List C->List C->Option (List (A×A)×List C×List C)):Nat->List C->List C->Option (List (A×A)×List C×List C)
 |0,xs,ys=>some ([],xs,ys)
 |n+1,xs,ys=>match f xs ys with
  |none=>none
  |some r=>match eqN f n r.2.1 r.2.2 with
   |none=>none
   |some q=>some (r.1++q.1,q.2)
def Qt2(f:TypeId->List C->List C->Option (List (A×A)×List C×List C))(sz:TypeId->Option Nat):List Field->Nat->List C->List C->Option (List (A×A)×Nat×List C×List C)
 |[],n,xs,ys=>some ([],n,xs,ys)
 |fd::fs,n,xs,ys=>if fd.name == "_" || fd.offset != n then none else match f fd.type xs ys,sz fd.type with
  |some r,some s=>match Qt2 f sz fs (n+s) r.2.1 r.2.2 with
   |none=>none
   |some q=>some (r.1++q.1,q.2)
  |_,_=>none
def eqW(P:Program):Nat->TypeId->List C->List C->Option (List (A×A)×List C×List C)
 |0,_,_,_=>none
 |d+1,t,xs,ys=>match P.underlying t with
  |some (.int _)=>match xs,ys with
   |.int k a::xs',.int k' b::ys'=>if k==k'&&szOf P t==some 1 then some ([(a,b)],xs',ys')else none
   |_,_=>none
  |some .bool=>match xs,ys with
   |.bool a::xs',.bool b::ys'=>if szOf P t==some 1 then some ([(a,b)],xs',ys')else none
   |_,_=>none
  |some (.array n e)=>if szOf P t==(szOf P e).map (n * ·)then eqN (eqW P d e) n xs ys else none
  |some (.struct fs)=>if P.stoodInHeld t then none else match Qt2 (eqW P d) (szOf P) fs.toList 0 xs ys with
   |some r=>if szOf P t==some r.2.1 then some (r.1,r.2.2)else none
   |none=>none
  |_=>none
def By(op:BinOp)(k:IntKind)(k':IntKind)(a b:A)(nn:Nat):Pl :=
 match op with
 |.shl|.shr=>match b with
  |.lit n=>if 0<=n then mkP nn (.int k) (.bin op k a b) (.int k)else .bad 1
  |_=>if lo k'==0 then mkP nn (.int k) (.bin op k a b) (.int k)else
   .ok {val:=.vl (.one (.int k (.v (nn+1)))),defs:=[(.bit,.cmp .leq (.lit 0) b),(.int k,.bin op k a b)],nz:=[.v nn] }
 |.add|.sub|.mul|.and|.or|.xor|.andNot=>if k==k' then mkP nn (.int k) (.bin op k a b) (.int k)else .bad 3
 | .quo | .rem=>if k==k' then
   match b with
   |.lit n=>if n != 0 then mkP nn (.int k) (.bin op k a b) (.int k)else .bad 4
   |_=>let r:=mk nn (.int k) (.bin op k a b);.ok {val:=.vl (.one (.int k r.2)),defs:=r.1,nz:=[b] }
  else .bad 5
 |.eql|.neq|.lss|.leq|.gtr|.geq=>if k==k' then mkP nn .bit (.cmp op a b) .bool else .bad 6
def Znc(d:TypeDesc)(x y:C):Option Bool :=
 match d,x,y with
 |.pointer _,.nil,.nil=>some true
 |.pointer _,.nil,.ptr ..=>some false
 |.pointer _,.ptr ..,.nil=>some false
 |.slice _,.nilslice,.nilslice=>some true
 |.slice _,.nilslice,.slice ..=>some false
 |.slice _,.slice ..,.nilslice=>some false
 |.func ..,.nilfn,.nilfn=>some true
 |.func ..,.nilfn,.fn ..=>some false
 |.func ..,.fn ..,.nilfn=>some false
 |.map ..,.nilmap,.nilmap=>some true
 |_,_,_=>none
def Qk2(cs:List C):Option (IntKind×List A) :=
 match cs with
 |.int k _::_=>(Ze (Qxm k) cs).map fun as=>(k,as)
 |_=>none
def Qio(s:ByteArray):List A:=s.data.toList.map fun b=>.lit b.toNat
def Uf(a:A)(len:Nat):Defs:=[(.bit,.cmp .leq (.lit 0) a),(.bit,.cmp .lss a (.lit len))]
def Qeo(k:IntKind)(i x:A):List A->Nat->Defs
 |[],_=>[]
 |a::as,j=>(.int k,.put i j x a)::Qeo k i x as (j+1)
def Qsu(k:IntKind)(i:A)(as:List A):D:=match Qvm k as with|some n=>.lget (.v n) i|none=>.sel i as
def Qjg(k:IntKind)(nn:Nat):Nat->List C
 |0=>[]
 |n+1=>.int k (.v nn)::Qjg k (nn+1) n
def Ue(P:Program)(op:BinOp)(t:TypeId)(x y:V)(nn:Nat):Pl :=
 match x,y with
 |.one (.int k a),.one (.int k' b)=>By op k k' a b nn
 |.one (.bool a),.one (.bool b)=>match op,P.underlying t with
  |.eql,some .bool=>mkP nn .bit (.cmp .eql a b) .bool
  |.neq,some .bool=>mkP nn .bit (.cmp .neq a b) .bool
  |_,_=>.bad 13
 |.one (.sv a),.one (.sv b)=>match op with
  |.eql=>mkP nn .bit (.lsame a b) .bool
  |.neq=>.ok {val:=.vl (.one (.bool (.v (nn+1)))),defs:=[(.bit,.lsame a b),(.bit,.not (.v nn))] }
  |_=>.bad 128
 |.one (.str a),.one (.str b)=>match op with
  |.eql=>Vp (.bool (.lit (X6 (a.data.toList==b.data.toList))))
  |.neq=>Vp (.bool (.lit (X6 (!(a.data.toList==b.data.toList)))))
  |_=>.bad 131
 |.agg xs,.agg ys=>if P.eqGuardType P.depth t || !((P.underlying t).any Xl)then .bad 15 else match eqW P 20 t xs ys with
  | some (l,[],[])=>match op with
    |.eql=>mkP nn .bit (.eqs l) .bool
    |.neq=>match Zm6 (.eqs l)with
     |some n=>.ok {val:=.vl (.one (.bool (.lit (if n=0 then 1 else 0)))) }
     |none=>.ok {val:=.vl (.one (.bool (.v (nn+1)))),defs:=[(.bit,.eqs l),(.bit,.not (.v nn))] }
    |_=>.bad 14
  |_=>.bad 16
 |.one x,.one y=>match P.underlying t with
  |some d=>match Znc d x y with
   |some b=>match op with
    |.eql=>Vp (.bool (.lit (X6 b)))
    |.neq=>Vp (.bool (.lit (X6 (!b))))
    |_=>.bad 17
   |none=>.bad 18
  |none=>.bad 19
 |_,_=>.bad 18
def Bv(d:TypeDesc)(size:Nat)(cs:List C)(off:Nat):Pl :=
 if Xl d then .ok {val:=.vl (.agg ((cs.drop off).take size)) }
 else match cs[off]? with
  |some c=>Vp c
  |none=>.bad 20
def Qce(Z:St)(b:Option Operand):Option (Option Nat):=match b with|some o=>(idx Z o).map some|none=>some none
def capOf(Z:St)(x:Operand):Option (Nat×Nat):=match Z.cell x with|some (.ptr id off)=>some (id,off)|_=>none
def partOf(Z:St)(p:Nat×Operand):Option (Nat×List C):=match Z.v p.2 with|some v=>some (p.1,v.cells)|none=>none
def eqA:A->A->Bool
 |.lit a,.lit b=>a==b
 |.v a,.v b=>a==b
 |.m a i,.m b j=>a==b&&i==j
 |.elt k a i,.elt k' b j=>k==k'&&a==b&&i==j
 |_,_=>false
def Zqh(nn:Nat)(x a:A):Defs:=[(.int .i64,.llen x),(.bit,.cmp .leq (.lit 0) a),(.bit,.cmp .lss a (.v nn))]
def Zpb(a hi:A):Defs:=[(.bit,.cmp .leq (.lit 0) a),(.bit,.cmp .lss a hi)]
def Zc4(y:A)(n:Nat):Defs:=[(.bit,.cmp .leq (.lit 0) y),(.bit,.cmp .leq y (.lit n))]
def B1(nn id:Nat)(r:Row)(lo hi:A):Pl :=
 .ok {val:=.vl (.one (.slv id lo hi r.k)),defs:=[(.int .i64,.llen r.x0),(.bit,.cmp .leq (.lit 0) lo),(.bit,.cmp .leq lo hi),(.bit,.cmp .leq hi (.v nn))],nz:=[.v (nn+1),.v (nn+2),.v (nn+3)] }
def Qcc(nn id:Nat)(r:Row)(lo' hi' l:A)(h:Option A):Pl :=
 .ok {val:=.vl (.one (.slv id (.v (nn+6)) ((h.map fun _=>A.v (nn+7)).getD hi') r.k)),defs:=[(.int .i64,.llen r.x0),(.int .i64,.bin .sub .i64 (.v nn) lo'),(.int .i64,.bin .sub .i64 hi' lo'),(.bit,.cmp .leq (.lit 0) l),(.bit,.cmp .leq l (h.getD (.v (nn+2)))),(.bit,.cmp .leq (h.getD (.v (nn+2))) (.v (nn+1))),(.int .i64,.bin .add .i64 lo' l),(.int .i64,.bin .add .i64 lo' (h.getD (.v (nn+2))))],nz:=[.v (nn+3),.v (nn+4),.v (nn+5)] }
def Qye(nn:Nat)(lo a hi:A):Defs:=[(.int .i64,.bin .sub .i64 hi lo),(.bit,.cmp .leq (.lit 0) a),(.bit,.cmp .lss a (.v nn)),(.int .i64,.bin .add .i64 lo a)]
def Ju(Z:St)(b:Option Operand):Option (Option A) :=
 match b with
 |some o=>match Z.cell o with|some (.int _ a)=>some (some a)|_=>none
 |none=>some none
def LL.kk:LL->KK|.num=>.num|.int k=>.int k|.bit=>.bit
def Qgd(z:A)(j:Nat):List LL->Defs
 |[]=>[]
 |l::ls=>(l.kk,.lget z (.lit j))::Qgd z (j+1) ls
def LL.cells(nn:Nat):LL->List C
 |.num=>[C.int .u64 (.m nn 0),.int .u64 (.m nn 1),.int .u64 (.m nn 2),.int .u64 (.m nn 3),.int .u64 (.m nn 4),.int .u64 (.m nn 5)]
 |.int k=>[.int k (.v nn)]
 |.bit=>[.bool (.v nn)]
def Zd3(nn:Nat):List LL->List C
 |[]=>[]
 |l::ls=>l.cells nn++Zd3 (nn+1) ls
def J8(nn:Nat)(d:TypeDesc)(n:Nat)(k:LK)(x i:A):Pl :=
 match k with
 | .num=>if Xl d&&n==6 then
   .ok {val:=.vl (.agg [C.int .u64 (.m nn 0),.int .u64 (.m nn 1),.int .u64 (.m nn 2),.int .u64 (.m nn 3),.int .u64 (.m nn 4),.int .u64 (.m nn 5)]),defs:=[(.num,.lget x i)] } else .bad 110
 |.int k=>if Xl d then .bad 111 else .ok {val:=.vl (.one (.int k (.v nn))),defs:=[(.int k,.lget x i)] }
 |.tup l ls=>if Xl d&&n==l.sz+Zjn ls then .ok {val:=.vl (.agg (Zd3 (nn+1) (l::ls))),defs:=(.any,.lget x i)::Qgd (.v nn) 0 (l::ls) } else .bad 126
 |.byt=>.bad 132
structure Grow where
 old:Option Nat
 x0:A
 k:LK
 elem:TypeId
 defs:Defs
 a:A
def Xdz(f:TypeId->Option (List LL)):List Field->Option (List LL)
 |[]=>some []
 |fd::fs=>match f fd.type with
  |none=>none
  |some l=>match Xdz f fs with
   |none=>none
   |some r=>some (l++r)
def llN(l:List LL):Nat->List LL
 |0=>[]
 |n+1=>l++llN l n
def Zz7(P:Program):Nat->TypeId->Option (List LL)
 |0,_=>none
 |d+1,t=>match P.underlying t with
  |some (.int k)=>some [.int k]
  |some .bool=>some [.bit]
  |some (.array n u)=>match P.underlying u,n==6 with
   |some (.int .u64),true=>some [.num]
   |_,_=>match Zz7 P d u with
    |some l=>if n<=16 then some (llN l n)else none
    |none=>none
  |some (.struct fs)=>Xdz (Zz7 P d) fs.toList
  |_=>none
def Quu(P:Program)(e:TypeId):Option LK :=
 match P.underlying e with
 |some (.int k)=>some (.int k)
 |some (.array 6 u)=>match P.underlying u with
  |some (.int .u64)=>some .num
  |_=>none
 |some (.struct _)=>match Zz7 P 20 e with
  |some (l::ls)=>some (.tup l ls)
  |_=>none
 |_=>none
def Qjz(Z:St)(nn:Nat)(k:LK)(s:Operand):Option (Defs×A) :=
 match Z.v s with
 |some v=>match takeSh Z nn (.lst k) v with
  |some (ds,[y])=>some (ds,y)
  |_=>none
 |none=>none
def Qcn(P:Program)(Z:St)(nn:Nat)(op:Op):Option Grow :=
 match op with
 |.call c=>match c.callee,c.argTypes.toList,c.args.toList with
  |.builtin .append,[t,t'],[s,x]=>if t==t' then match P.underlying t with
   |some (.slice e)=>match P.info? e,Quu P e with
    |some i,some k=>match i.zero with
     | some z=>if z.cells.size==i.size&&i.size==k.sz&&decide (i.bytes<=16384) then
       match Qjz Z nn k x with
       |some (ds,y)=>match Z.cell s with
        |some .nilslice=>some ⟨none,.lit 0,k,e,ds,y⟩
        |some (.sl id')=>match Z.row id' with
         |some r=>if r.own&&r.elem==e&&r.k.eq k then some ⟨some id',r.x,k,e,ds,y⟩else none
         |none=>none
        |_=>none
       |none=>none
      else none
     |none=>none
    |_,_=>none
   |_=>none
   else none
  |_,_,_=>none
 |_=>none
def Qj9(nn:Nat)(g:Grow):Defs:=g.defs++[(.int .i64,.llen g.x0),(.bit,.cmp .lss (.v (nn+g.defs.length)) (.lit 2147483648)),(.int .i64,.llen g.a),(.bit,.cmp .lss (.v (nn+(g.defs.length+2))) (.lit 2147483648))]
def Qf3(nn nid:Nat)(g:Grow):Plan :=
 {val:=.vl (.one (.sl nid)),defs:=Qj9 nn g,nz:=[.v (nn+(g.defs.length+1)),.v (nn+(g.defs.length+3))],post:=[(.lst g.k,.lcat g.x0 g.a)],eff:=.grow g.old (Zf {x:=.v (nn+(g.defs.length+4)),x0:=.v (nn+(g.defs.length+4)),k:=g.k,elem:=g.elem,own:=true,full:=false }) }
def Qip(P:Program)(nid:Nat)(t:TypeId)(len:Nat)(ps:Array (Nat×Operand)):Option Plan :=
 if len==0&&ps.toList.isEmpty then match P.underlying t with
  |some (.slice e)=>match P.info? e,Quu P e with
   | some i,some k=>if i.size==k.sz then
     some {val:=.vl (.one (.sl nid)),eff:=.new (Zf {x:=.lit 0,x0:=.lit 0,k:=k,elem:=e,own:=true,full:=true }) } else none
   |_,_=>none
  |_=>none
 else none
def Qh4(P:Program)(Z:St)(op:BinOp)(t:TypeId)(nn:Nat)(x y:V):Option Plan :=
 match x,y with
 |.one (.sl id),.one .nilslice=>match Z.row id,P.underlying t with
  |some r,some (.slice _)=>match op with
   |.eql=>some {val:=.vl (.one (.bool (.lit 0))),defs:=[(.int .i64,.llen r.x0),(.bit,.cmp .lss (.lit 0) (.v nn))],nz:=[.v (nn+1)] }
   |.neq=>some {val:=.vl (.one (.bool (.lit 1))),defs:=[(.int .i64,.llen r.x0),(.bit,.cmp .lss (.lit 0) (.v nn))],nz:=[.v (nn+1)] }
   |_=>none
  |_,_=>none
 |_,_=>none
def Ji(T:List K)(op:Op):Bool :=
 match op with
 |.call c=>match c.callee with
  |.value (.func f)=>match Qjy T f 0 with
   |some q=>q.2.ins.any Zfk
   |none=>false
  |_=>false
 |_=>false
def Qde(P:Program)(Z:St)(s d:TypeId)(x:Operand):Option Plan :=
 if s==d then match P.underlying s,Z.cell x with
  |some (.slice e),some (.slice id 0 n n')=>match P.underlying e,Z.box id with
   |some (.int .u8),some b=>if b.own&&b.fz==(0,0)&&b.row.isNone&&b.cells.length==n then some {val:=.vl (.one (.slice id 0 n n')),eff:=.wr id .mark } else none
   |_,_=>none
  |_,_=>none
 else none
def Qz(P:Program)(T:List K)(Z:St)(nn nid:Nat)(op:Op):Pl :=
  match op with
  |.move x|.assign x=>match Z.val x with|some s=>.ok { val:=s }|none=>.bad 30
  | .pick c a b=>match Z.cell c with
    | some (.bool t)=>match Xis Z t with
      |.yes=>match Z.val a with|some s=>.ok { val:=s }|none=>.bad 31
      |.no=>match Z.val b with|some s=>.ok { val:=s }|none=>.bad 31
      |.need n=>.need n
      |.bad=>.bad 31
    |_=>.bad 32
  | .alloc e=>match P.info? e with
    | some i=>match i.zero with
      | some z=>match vOf z with
        |some v=>.ok { val:=.vl (.one (.ptr nid 0)),eff:=.new { cells:=v.cells,elem:=e,own:=true } }
        |none=>.bad 33
      |none=>.bad 34
    |none=>.bad 35
  | .box e x=>match Z.v x with
    |some v=>if v.cells.all C.Xi3 then .ok { val:=.vl (.one (.ptr nid 0)),eff:=.new { cells:=v.cells,elem:=e,own:=true } } else .bad 36
    |none=>.bad 37
  | .load t x=>match Z.cell x with
    | some (.ptr id off)=>match Z.box id,P.underlying t,szOf P t with
      |some b,some d,some n=>if Xl d then
          if(b.cells.drop off).length<n then .bad 38 else .ok { val:=.vl (.agg ((b.cells.drop off).take n)) }
        else match b.cells[off]? with
          |some c=>Vp c
          |none=>.bad 39
      |_,_,_=>.bad 40
    | some (.ptrS id off i n)=>match Z.box id,P.underlying t with
      | some b,some d=>if Xl d then .bad 40 else match Qk2 ((b.cells.drop off).take n) with
        |some r=>if r.2.length==n then .ok { val:=.vl (.one (.int r.1 (.v nn))),defs:=[(.int r.1,Qsu r.1 i r.2)] } else .bad 39
        |none=>.bad 39
      |_,_=>.bad 40
    | some (.lp id i k)=>match Z.row id,P.underlying t,szOf P t with
      |some r,some d,some n=>if r.k.eq k then J8 nn d n k r.x i else .bad 112
      |_,_,_=>.bad 113
    | some (.llp a i)=>match P.underlying t with
      |some (.slice _)=>.ok { val:=.vl (.one (.rol (.v nn))),defs:=[(.lst (.int .u8),.lget a i)] }
      |_=>.bad 133
    |_=>.bad 41
  | .store t x y=>match Z.cell x,Z.v y with
    | some (.ptr id off),some v=>match Z.box id,szOf P t with
      | some b,some n =>
        if b.own&&b.fz==(0,0)&&v.cells.length==n&&v.cells.all C.Xi3&&decide (off+n<=b.cells.length)then .ok { val:=.tup [],eff:=.wr id (.cells off v.cells) } else .bad 42
      |_,_=>.bad 43
    | some (.ptrS id off i n),some (.one (.int k x))=>match Z.box id,szOf P t with
      | some b,some 1=>match Qk2 ((b.cells.drop off).take n) with
        |some r=>if b.own&&b.fz==(0,0)&&r.2.length==n&&r.1==k then
            (if n<=16 then .ok { val:=.tup [],defs:=Qeo k i x r.2 0,eff:=.wr id (.cells off (Qjg k nn n)) }
            else if 1024<n then .bad 42 else .ok { val:=.tup [],defs:=(Qht nn k r.2).1++[(.arr k n,.lput (Qht nn k r.2).2 i x)],eff:=.wr id (.cells off (Qom k (nn+(Qht nn k r.2).1.length) n 0)) })else .bad 42
        |none=>.bad 42
      |_,_=>.bad 43
    | some (.lp id i k),some v=>match Z.row id,szOf P t with
      |some r,some s=>if r.own&&r.k.eq k&&s==k.sz&&v.cells.all C.Xi3 then match takeK nn k v.cells with
          |some (ds,y)=>.ok { val:=.tup [],defs:=ds++[(.lst k,.lput r.x i y)],eff:=.wr id (.row (.v (nn+ds.length))) }
          |_=>.bad 117
        else .bad 118
      |_,_=>.bad 119
    |_,_=>.bad 44
  | .nilCheck x=>match Z.cell x with
    |some (.ptr id off)=>Vp (.ptr id off)
    |_=>.bad 45
  | .binOp op t x y _=>match Z.v x,Z.v y with
    | some a,some b=>match Qh4 P Z op t nn a b with
      |some p=>.ok p
      |none=>Ue P op t a b nn
    |_,_=>.bad 46
  | .unOp op _ x=>match op,Z.cell x with
    |.not,some (.bool a)=>mkP nn .bit (.not a) .bool
    |.neg,some (.int k a)=>mkP nn (.int k) (.bin .sub k (.lit 0) a) (.int k)
    |.xor,some (.int k a)=>mkP nn (.int k) (.bin .xor k (.lit (if lo k=0 then hi k else -1)) a) (.int k)
    |_,_=>.bad 47
  |.convert src dst x=>match Qde P Z src dst x with
   |some p=>.ok p
   |none=>match P.underlying src,P.underlying dst,Z.cell x with
    |some _,some (.int k),some (.int k' a)=>if Qtm k' k then Vp (.int k a)else mkP nn (.int k) (.conv k a) (.int k)
    | some (.slice e),some .string,some c=>match P.underlying e,takeSh Z nn (.lst (.int .u8)) (.one c) with
      |some (.int .u8),some (ds,[y])=>.ok { val:=.vl (.one (.sv y)),defs:=ds }
      |_,_=>.bad 127
    |_,_,_=>.bad 48
  | .fieldAddr s x f=>match P.underlying s,Z.cell x with
    | some (.struct fs),some (.ptr id off)=>match fs[f]? with
      | some fd=>match szOf P fd.type with
        |some (_+1)=>Vp (.ptr id (off+fd.offset))
        |_=>.bad 49
      |none=>.bad 50
    |_,_=>.bad 51
  | .indexAddr t x i=>match P.underlying t,Z.cell x,idx Z i with
    | some (.array len e),some (.ptr id off),some n=>match szOf P e with
      |some s=>if n<len then Vp (.ptr id (off+n*s))else .bad 52
      |none=>.bad 53
    | some (.slice e),some (.slice id off len _),some n=>match szOf P e with
      |some s=>if n<len then Vp (.ptr id (off+n*s))else .bad 54
      |none=>.bad 55
    | some (.array len e),some (.ptr id off),none=>match Z.cell i,szOf P e with
      |some (.int _ a),some 1=>.ok { val:=.vl (.one (.ptrS id off a len)),defs:=Uf a len,nz:=[.v nn,.v (nn+1)] }
      |_,_=>.bad 56
    | some (.slice e),some (.slice id off len _),none=>match Z.cell i,szOf P e with
      |some (.int _ a),some 1=>.ok { val:=.vl (.one (.ptrS id off a len)),defs:=Uf a len,nz:=[.v nn,.v (nn+1)] }
      |_,_=>.bad 56
    | some (.slice e),some (.sl id),_=>match Z.row id,Z.cell i,szOf P e with
      |some r,some (.int _ a),some s=>if s==r.k.sz then .ok { val:=.vl (.one (.lp id a r.k)),defs:=Zqh nn r.x0 a,nz:=[.v (nn+1),.v (nn+2)] } else .bad 114
      |_,_,_=>.bad 115
    | some (.slice e),some (.slv id lo hi k),_=>match Z.row id,Z.cell i,szOf P e with
      | some _,some (.int _ a),some s=>if s==k.sz&&isZ lo then .ok { val:=.vl (.one (.lp id a k)),defs:=Zpb a hi,nz:=[.v nn,.v (nn+1)] } else
        if s==k.sz then .ok { val:=.vl (.one (.lp id (.v (nn+3)) k)),defs:=Qye nn lo a hi,nz:=[.v (nn+1),.v (nn+2)] } else .bad 120
      |_,_,_=>.bad 121
    | some (.slice e),some (.ll x),_=>match Z.cell i,szOf P e with
      |some (.int _ a),some 1=>.ok { val:=.vl (.one (.llp x a)),defs:=Zqh nn x a,nz:=[.v (nn+1),.v (nn+2)] }
      |_,_=>.bad 134
    |_,_,_=>.bad 56
  | .index t x i=>match P.underlying t,Z.v x,idx Z i with
    | some (.array len e),some (.agg cs),some n=>match P.underlying e,szOf P e with
      |some d,some s=>if n<len then Bv d s cs (n*s)else .bad 57
      |_,_=>.bad 58
    | some (.array len e),some (.agg cs),none=>match Z.cell i,P.underlying e,szOf P e,Qk2 cs with
      | some (.int _ a),some d,some 1,some r=>if Xl d || r.2.length != len then .bad 58 else
        .ok { val:=.vl (.one (.int r.1 (.v (nn+2)))),defs:=Uf a len++[(.int r.1,Qsu r.1 a r.2)],nz:=[.v nn,.v (nn+1)] }
      |_,_,_,_=>.bad 58
    |some .string,some (.one (.str s)),some n=>if hb:n<s.size then Vp (.int .u8 (.lit (s[n].toNat:Int)))else .bad 58
    | some .string,some (.one (.str s)),none=>match Z.cell i with
      |some (.int _ a)=>.ok { val:=.vl (.one (.int .u8 (.v (nn+2)))),defs:=Uf a s.size++[(.int .u8,.sel a (Qio s))],nz:=[.v nn,.v (nn+1)] }
      |_=>.bad 58
    |_,_,_=>.bad 59
  | .field t x f=>match P.underlying t,Z.v x with
    | some (.struct fs),some (.agg cs)=>match fs[f]? with
      | some fd=>match P.underlying fd.type,szOf P fd.type with
        |some d,some s=>Bv d s cs fd.offset
        |_,_=>.bad 60
      |none=>.bad 61
    |_,_=>.bad 62
  | .extract x i=>match Z.val x with
    | some (.tup l)=>match l[i]? with
      |some v=>.ok { val:=.vl v }
      |none=>.bad 63
    |_=>.bad 64
  |.makeFunc fn first caps=>match fn with
   |.func f=>if first.size != 0 then .bad 89 else match Ze (capOf Z) caps.toList with
    |some l=>Vp (.fn f l)
    |none=>.bad 65
   |_=>.bad 89
  | .build t ps=>match P.info? t,P.underlying t,Ze (partOf Z) ps.toList with
    | some i,some (.struct fs),some l=>match i.zero,fs.toList.mapM (fun f=>(P.info? f.type).map fun i=>(f.offset,i.size)) with
      | some z,some places=>match vOf z with
        | some zv=>match Qn4 (places[·]?) zv.cells l with
          |some cs=>if l.all (fun p=>p.2.all C.Xi3)then .ok { val:=.vl (.agg cs) } else .bad 66
          |none=>.bad 67
        |none=>.bad 68
      |_,_=>.bad 69
    | some i,some (.array _ e),some l=>match i.zero,szOf P e with
      | some z,some s=>match vOf z with
        | some zv=>match Qn4 (fun j=>some (j*s,s)) zv.cells l with
          |some cs=>if l.all (fun p=>p.2.all C.Xi3)then .ok { val:=.vl (.agg cs) } else .bad 70
          |none=>.bad 71
        |none=>.bad 72
      |_,_=>.bad 73
    |_,_,_=>.bad 74
  |.buildSlice t len ps=>match Qip P nid t len ps with
   |some p=>.ok p
   |none=>match P.underlying t,Ze (partOf Z) ps.toList with
    | some (.slice e),some l=>match P.info? e with
      | some i=>match i.zero with
        | some z=>match vOf z with
          |some zv=>if zv.cells.length==i.size&&decide (0<i.size)&&decide (len*i.size<=10000)then
              match Qn4 (fun j=>some (j*i.size,i.size)) ((List.replicate len zv.cells).flatten) l with
              |some cs=>if l.all (fun p=>p.2.all C.Xi3)then .ok { val:=.vl (.one (.slice nid 0 len len)),eff:=.new { cells:=cs,elem:=e,own:=true } } else .bad 75
              |none=>.bad 76
            else .bad 77
          |none=>.bad 78
        |none=>.bad 79
      |none=>.bad 80
    |_,_=>.bad 81
  | .sliceToArrayPointer t x=>match P.underlying t,Z.cell x with
    |some (.array n _),some (.slice id off len _)=>if n<=len then Vp (.ptr id off)else .bad 82
    |_,_=>.bad 83
  | .slice t x lo hi mx=>if mx.isSome then .bad 98 else match P.underlying t,Z.cell x with
    | some (.array n e),some (.ptr id off) =>
      match Qce Z lo,Qce Z hi,szOf P e with
      | some l,some h,some s=>let h':=h.getD n;let l':=l.getD 0
        if h'<=n&&l'<=h' then Vp (.slice id (if n=l' then off else off+l'*s) (h'-l') (n-l'))else .bad 84
      | _,_,_=>match lo,Ju Z hi,szOf P e with
        |none,some (some y),some _=>.ok { val:=.vl (.one (.slS id off y n)),defs:=Zc4 y n,nz:=[.v nn,.v (nn+1)] }
        |_,_,_=>.bad 85
    | some (.slice e),some (.slice id off len cap) =>
      match Qce Z lo,Qce Z hi,szOf P e with
      | some l,some h,some s=>let h':=h.getD len;let l':=l.getD 0
        if h'<=cap&&l'<=h' then Vp (.slice id (if cap=l' then off else off+l'*s) (h'-l') (cap-l'))else .bad 86
      |_,_,_=>.bad 87
    | some (.slice e),some (.sl id)=>match Z.row id,Ju Z lo,Ju Z hi,szOf P e with
      |some r,some l,some h,some s=>if s==r.k.sz then B1 nn id r (l.getD (.lit 0)) (h.getD (.v nn))else .bad 122
      |_,_,_,_=>.bad 123
    | some (.slice e),some (.slv id lo' hi' k)=>match Z.row id,Ju Z lo,Ju Z hi,szOf P e with
      | some r,some l,some h,some s=>if s==r.k.sz&&r.k.eq k&&isZ lo' then B1 nn id r (l.getD (.lit 0)) (h.getD hi') else
        if s==r.k.sz&&r.k.eq k then Qcc nn id r lo' hi' (l.getD (.lit 0)) h else .bad 124
      |_,_,_,_=>.bad 125
    |_,_=>.bad 88
  | .call c=>match Ze Z.v c.args.toList with
    |none=>.bad 90
    | some args=>match c.callee with
      | .builtin .len=>match c.argTypes[0]? with
        |none=>.bad 91
        | some t=>match P.underlying t,args with
          |some (.slice _),[.one (.slice _ _ n _)]=>if n<=9223372036854775807 then Vp (.int .i64 (.lit n))else .bad 91
          |some (.slice _),[.one .nilslice]=>Vp (.int .i64 (.lit 0))
          |some (.slice _),[.one (.ll a)]=>.ok { val:=.vl (.one (.int .i64 (.v nn))),defs:=[(.int .i64,.llen a)] }
          |some (.slice _),[.one (.rol a)]=>.ok { val:=.vl (.one (.int .i64 (.v nn))),defs:=[(.int .i64,.llen a)] }
          | some (.slice _),[.one (.sl id)]=>match Z.row id with
            |some r=>.ok { val:=.vl (.one (.int .i64 (.v nn))),defs:=[(.int .i64,.llen r.x0)] }
            |none=>.bad 116
          | some (.slice _),[.one (.slv id lo hi _)]=>match Z.row id with
            |some _=>if isZ lo then Vp (.int .i64 hi)else .ok { val:=.vl (.one (.int .i64 (.v nn))),defs:=[(.int .i64,.bin .sub .i64 hi lo)] }
            |none=>.bad 126
          |some (.array n _),[_]=>if n<=9223372036854775807 then Vp (.int .i64 (.lit n))else .bad 91
          |some .string,[.one (.str s)]=>if s.size<=9223372036854775807 then Vp (.int .i64 (.lit s.size))else .bad 91
          |_,_=>.bad 92
      | .builtin .cap=>match c.argTypes[0]? with
        |none=>.bad 91
        | some t=>match P.underlying t,args with
          | some (.slice _),[.one (.sl id)]=>match Z.row id with
            |some r=>if r.full then .ok { val:=.vl (.one (.int .i64 (.v nn))),defs:=[(.int .i64,.llen r.x0)] } else .bad 127
            |none=>.bad 128
          | some (.slice _),[.one (.slv id lo _ _)]=>match Z.row id with
            |some r=>if r.full&&isZ lo then .ok { val:=.vl (.one (.int .i64 (.v nn))),defs:=[(.int .i64,.llen r.x0)] } else .bad 127
            |none=>.bad 128
          |_,_=>.bad 129
      | .builtin .max=>match args with
        |[.one (.int k a),.one (.int k' b)]=>if k==k' then .ok { val:=.vl (.one (.int k (.v (nn+1)))),defs:=[(.bit,.cmp .lss a b),(.int k,.put (.v nn) 1 b a)] } else .bad 130
        |_=>.bad 130
      | .builtin .min=>match args with
        |[.one (.int k a),.one (.int k' b)]=>if k==k' then .ok { val:=.vl (.one (.int k (.v (nn+1)))),defs:=[(.bit,.cmp .lss b a),(.int k,.put (.v nn) 1 b a)] } else .bad 130
        |_=>.bad 130
      | .builtin .append=>match Qcn P Z nn (.call c) with
        |some g=>.ok (Qf3 nn nid g)
        |none=>.bad 93
      |.builtin _=>.bad 93
      |.invoke _ _=>.bad 94
      | .value x=>match Z.cell x with
        | some (.fn f caps) =>
          let all:=args++caps.map fun p=>V.one (.ptr p.1 p.2)
          match Zdr T f all with
          | some (g,Y)=>if Y.ins.any Zfk && !Ji T (.call c) then .bad 135 else match Wb Z nn Y.ins all with
            |none=>.bad 95
            | some d=>match Zot Y g d.2 (nn+d.1.length) nid with
              |none=>.bad 96
              |some q=>.ok { val:=Qfh q.2.1,defs:=d.1,post:=q.1,eff:=(match q.2.2 with|some b=>.new b|none=>.none),reqs:=[(g,d.2)] }
          |none=>.call f all
        |_=>.bad 97
  |_=>.bad 99
inductive Qn where
 |ret (as:List A)
 |split (n:Nat) (t f:Qn)
 |l (n:Nat) (kk:KK) (d:D) (t:Qn)
 |req (g:Nat) (as:List A) (t:Qn)
 |nz (a:A) (t:Qn)
 |loop (inits:List A) (kks:List KK) (n0:Nat) (body:Qn)
 |back (lvl:Nat) (as:List A)
 |bad (why:Nat) (pos:String)
 deriving Inhabited
def upd(e:Nat->Int)(n:Nat)(v:Int):Nat->Int:=fun i=>if i=n then v else e i
def Qbj(e:Nat->Int)(n:Nat):List Int->Nat->Int
 |[]=>e
 |v::vs=>Qbj (upd e n v) (n+1) vs
structure Gl where
 goal:List Int->Prop
 stk:List (List Int->Prop)
def Qy:List KK->List Int->Prop
 |[],[]=>True
 |k::ks,v::vs=>k.has v/\Qy ks vs
 |_,_=>False
def Qn.holds(T:List K):Qn->Gl->(Nat->Int)->Prop
 |.ret as,goal,e=>goal.goal (as.map (·.ev e))
 |.split n t f,goal,e=>(e n≠0->t.holds T goal e)/\(e n=0->f.holds T goal e)
 |.l n kk d t,goal,e=>∀v,v=d.ev T e->kk.has v->t.holds T goal (upd e n v)
 |.req g as t,goal,e=>(match T[g]? with|some Y=>Y.pre (as.map (·.ev e))|none=>False)/\t.holds T goal e
 |.nz a t,goal,e=>a.ev e≠0/\t.holds T goal e
 | .loop inits kks n0 t,goal,e=>∃ (I:List Int->Prop) (μ:List Int->Nat),I (inits.map (·.ev e)) /\
   ∀vs,Qy kks vs->I vs->t.holds T {goal with stk:=goal.stk++[fun us=>I us/\μ us<μ vs] } (Qbj e n0 vs)
 |.back lvl as,goal,e=>match goal.stk[lvl]? with|some R=>R (as.map (·.ev e))|none=>False
 |.bad _ _,_,_=>False
def Jc(nn:Nat):Defs->Qn->Qn
 |[],t=>t
 |(kk,d)::ds,t=>.l nn kk d (Jc (nn+1) ds t)
def nzs:List A->Qn->Qn
 |[],t=>t
 |a::as,t=>.nz a (nzs as t)
def reqs:List (Nat×List A)->Qn->Qn
 |[],t=>t
 |(g,as)::r,t=>.req g as (reqs r t)
end
abbrev kI:KK:=.int .i64
abbrev kU:KK:=.int .u64
abbrev kW:KK:=.int .u32
abbrev kB:KK:=.int .u8
abbrev Q7:List KK:=[.num]
abbrev Yr:List KK:=[.num,.num]
abbrev qca:List KK:=[kI,.num,.num,.bit,kU,kU,.bit,kI]
abbrev qda:List KK:=[.num,.num,.num,.num,.bit,kI]
abbrev U3:List KK:=[.bit]
abbrev qfa:List KK:=[kU,kU]
abbrev qga:List KK:=[.num,.num,.num,.num,.num,.num]
abbrev qha:List KK:=[kI,.num,.num,.num,.num,.bit,kU,kU,.bit,kI]
abbrev qia:List KK:=[kU,kU,kU,kU,kU,.bit,.bit]
abbrev qja:List KK:=[.num,.bit]
abbrev qka:List KK:=[.num,.num,.bit]
abbrev qla:List KK:=[.num,.num,.bit,kI]
abbrev qma:List KK:=[.num,.num,.num,.num,.bit]
abbrev qna:List KK:=[kU]
abbrev qoa:List KK:=[kI]
abbrev qpa:List KK:=[.num,.num,.num]
abbrev qqa:List KK:=[kU,kU,.bit,kI]
abbrev qra:List KK:=[kU,kU,.bit]
abbrev qsa:List KK:=[.num,kI]
abbrev qta:List KK:=[(.lst (.int .u8))]
def xws(g:Nat)(a:List A)(t:Qn):List KK->Nat->Nat->Qn
 |[],_,_=>t
 |k::r,n,i=>.l n k (.app g i a) (xws g a t r (n+1) (i+1))
def xw(g:Nat)(a:List A)(n:Nat)(r:List KK)(t:Qn):Qn:=.req g a (xws g a t r n 0)
theorem dQ{x:Int}{l:List Int}(h:x=enc l):dec x=l:=(congrArg dec h).trans (Qr _)
abbrev A.n:=A.lit
abbrev D.b:=D.bin
abbrev D.c:=D.cmp
abbrev D.p:=D.app
noncomputable section
inductive Ex where|normal|exit (id:Nat)|ret
inductive Job where
 |code (c:Code)
 |rounds (c:Code)
 |ops (all:Array Oper) (l:List Oper)
def St.put(Z:St)(dst:Option Nat)(s:SV):St :=
 match dst with
 |some d=>{Z with tmps:=Qj4 Z.tmps d s }
 |none=>Z
theorem St.Xi5(Z:St)(dst:Option Nat)(s:SV):Z.put dst s=match dst with
 |some d=>{Z with tmps:=Z.tmps.set d s }
 |none=>Z:=by
 unfold St.put;split <;> simp only[W1]
def St.Xi6(Z:St)(n:Nat)(b:Bool):St:={Z with kn:=(n,b)::Z.kn }
def Wj:SV:=.tup []
inductive Gd where|yes|no|need (n:Nat)|bad
def Z0(all:Array Oper)(Z:St)(o:Oper):Gd :=
 match o.guard with
 |none=>.yes
 |some (j,want)=>match (all[j]?).bind (·.dst)with
  |none=>.no
  |some t=>match lget? Z.tmps t with
   |none=>.no
   |some (.vl (.one (.bool a)))=>match Xis Z a with
    |.yes=>if want then .yes else .no
    |.no=>if want then .no else .yes
    |.need n=>.need n
    |.bad=>.bad
   |some (.tup _)=>.no
   |_=>.bad
theorem Wg(all:Array Oper)(Z:St)(o:Oper):Z0 all Z o =
 match o.guard with
 |none=>.yes
 |some (j,want)=>match (all[j]?).bind (·.dst)with
  |none=>.no
  |some t=>match Z.tmps[t]? with
   |none=>.no
   |some (.vl (.one (.bool a)))=>match Xis Z a with
    |.yes=>if want then .yes else .no
    |.no=>if want then .no else .yes
    |.need n=>.need n
    |.bad=>.bad
   |some (.tup _)=>.no
   |_=>.bad:=by
 unfold Z0;simp only[lget?_eq]
def Qa0(bs:List (Option Box))(id:Nat):List (Option Box) :=
 match lget? bs id with
 |some (some b)=>Qj4 bs id (some {b with row:=none })
 |_=>bs
theorem Jo(bs:List (Option Box))(id:Nat):Qa0 bs id=match bs[id]? with
 |some (some b)=>bs.set id (some {b with row:=none })
 |_=>bs:=by
 unfold Qa0;simp only[lget?_eq,W1]
def Xio(bs:List (Option Box)):List Nat->List (Option Box)
 |[]=>bs
 |id::r=>Xio (Qa0 bs id) r
def Zj(Z:St)(p:Plan)(nid:Nat)(dst:Option Nat):St :=
  (match p.eff with
   |.new b=>{ Z with boxes:=Qj4 Z.boxes nid (some b) }
   | .wr id u=>match lget? Z.boxes id with
     |some (some b)=>{ Z with boxes:=Qj4 Z.boxes id (some (b.upd u)) }
     |_=>Z
   |.grow old b=>{ Z with boxes:=Qj4 (Xio Z.boxes old.toList) nid (some b) }
   |_=>Z).put dst p.val
theorem Xh(Z:St)(p:Plan)(nid:Nat)(dst:Option Nat):Zj Z p nid dst =
  (match p.eff with
   |.new b=>{ Z with boxes:=Z.boxes.set nid (some b) }
   | .wr id u=>match Z.boxes[id]? with
     |some (some b)=>{ Z with boxes:=Z.boxes.set id (some (b.upd u)) }
     |_=>Z
   |.grow old b=>{ Z with boxes:=(Xio Z.boxes old.toList).set nid (some b) }
   |_=>Z).put dst p.val:=by
  unfold Zj;simp only[lget?_eq,W1]
def Qlc:Op->Bool|.alloc _|.box ..|.buildSlice ..|.call _|.makeSlice ..=>true|_=>false
def room(Z:St)(op:Op):St:=if Qlc op then {Z with boxes:=Z.boxes++[none] } else Z
def Vn:Eff->Bool|.new ..=>true|.grow ..=>true|_=>false
def Qn3(nn:Nat)(p:Plan)(t:Qn):Qn :=
 Jc nn p.defs (reqs p.reqs (nzs p.nz (Jc (nn+p.defs.length) p.post t)))
def Qld(P:Program)(Z:St):ResultVar->Option V
 |.tmp t=>match Z.get t with|.vl v=>some v|_=>none
 |.cell t ty=>match Z.get t with
  |.vl (.one (.ptr id off))=>match Z.box id,P.underlying ty,szOf P ty with
   | some b,some d,some n=>if Xl d then
     if(b.cells.drop off).length<n then none else some (.agg ((b.cells.drop off).take n))
    else match b.cells[off]? with
     |some c=>some (.one c)
     |none=>none
   |_,_,_=>none
  |_=>none
def Qxg(P:Program)(Z:St)(fn:Func):Option (List V):=Ze (Qld P Z) fn.results.toList
def Q1:Nat:=48
def Qed(P:Program)(T:List K)(all:Array Oper)(nv0 len0:Nat):Nat->List Oper->Nat->St->(St->Qn)->Qn
 |0,_,_,_,_=>.bad 204 ""
 |fuel+1,l,i,Z,k=>match l with
  |[]=>k Z
  |o::rest=>match Z0 all Z o with
   |.bad=>.bad 200 o.pos
   |.need v=>if decide (v<nv0+i*Q1)&&(Qa4 Z.kn v).isNone then .split v (Qed P T all nv0 len0 fuel (o::rest) i (Z.Xi6 v true) k) (Qed P T all nv0 len0 fuel (o::rest) i (Z.Xi6 v false) k)else .bad 202 o.pos
   |.no=>Qed P T all nv0 len0 fuel rest (i+1) (Z.put o.dst Wj) k
   |.yes=>match Qz P T Z (nv0+i*Q1) (len0+i) o.op with
    |.ok p=>if p.defs.length+p.post.length<=Q1 then Qn3 (nv0+i*Q1) p (Qed P T all nv0 len0 fuel rest (i+1) (Zj Z p (len0+i) o.dst) k)else .bad 201 o.pos
    |.need v=>if decide (v<nv0+i*Q1)&&(Qa4 Z.kn v).isNone then .split v (Qed P T all nv0 len0 fuel (o::rest) i (Z.Xi6 v true) k) (Qed P T all nv0 len0 fuel (o::rest) i (Z.Xi6 v false) k)else .bad 202 o.pos
    |.call f _=>.bad (1000+f) o.pos
    |.bad why=>.bad why o.pos
def touch:Op->Nat
 |.load ..=>1
 |.call c=>match c.callee with
  |.builtin .append=>4
  |_=>1
 |.store ..=>3
 |.convert s d _=>if s==d then 3 else 1
 |_=>0
def Qo5(x y:Oper):Bool:=!((touch x.op==3&&touch y.op != 0) || (touch y.op==3&&touch x.op != 0) || touch x.op==4 || touch y.op==4)
def ordered(x:Nat)(y:Oper):Bool:=y.after.any fun e=>Region.binds .any e&&e.on==x
def Qrl(ops:List Oper):Bool :=
 let l:=ops.zipIdx
 l.all fun p=>l.all fun q=>p.2==q.2 || ordered p.2 q.1 || ordered q.2 p.1 || Qo5 p.1 q.1
def Qfn(o:Oper):Oper:={o with op:=.move (.const (.bool false)) }
def backOnly(ops:Array Oper):Bool:=ops.toList.zipIdx.all fun p=>p.1.after.all fun e=>!Region.binds .any e || decide (e.on<p.2)
def Xew(T:List K)(o:Oper):Bool :=
 match o.op with
 |.makeSlice _ _ _=>true
 |.call c=>match c.callee with
  |.builtin .append=>true
  |.builtin .copy=>true
  |.value (.func f)=>(Qjy T f 0).isNone
  |_=>false
 |_=>false
def Qf4(T:List K):List Oper->Nat->Option Nat
 |[],_=>none
 |o::r,i=>if Xew T o then some i else Qf4 T r (i+1)
def J2:List Oper->Nat->List Oper
 |[],_=>[]
 |o::r,0=>Qfn o::J2 r 0
 |o::r,s+1=>o::J2 r s
def Ww(ops:Array Oper)(s:Nat):Array Oper:=(J2 ops.toList s).toArray
def Qpc(ops:Array Oper)(i:Nat):Bool:=(List.range i).all fun j=>(List.range (i+1)).any fun x=>decide (j<x)&&(ops[x]?).any (ordered j)
def Ql2(ops:Array Oper)(s:Nat):Bool:=(List.range ops.size).all (fun i=>decide (i<s) || (Qpc ops i&&(ops[i]?).all (fun o=>o.guard.isNone)))&&backOnly ops
def Xcn(T:List K)(o:Oper):Bool :=
 match o.op with
 |.call c=>match c.callee with
  |.value (.func f)=>(Qjy T f 0).isNone
  |_=>false
 |_=>false
def Qd3(T:List K)(ops:Array Oper):List Oper->Nat->Option Nat
 |[],_=>none
 |o::r,i=>if Xcn T o&&Ql2 ops i then some i else Qd3 T ops r (i+1)
def Qtf(T:List K)(ops:Array Oper):Option (List Oper×Array Oper) :=
 match Qf4 T ops.toList 0 with
 |some s=>if Ql2 ops s then some (ops.toList.drop s,Ww ops s)else match Qd3 T ops ops.toList 0 with
  |some s'=>some (ops.toList.drop s',Ww ops s')
  |none=>none
 |none=>none
def C.ids:C->List Nat
 |.ptr id _=>[id]
 |.slice id _ _ _=>[id]
 |.ptrS id _ _ _=>[id]
 |.fn _ caps=>caps.map (·.1)
 |.sl id=>[id]
 |.lp id _ _=>[id]
 |.slv id _ _ _=>[id]
 |.slS id _ _ _=>[id]
 |_=>[]
def V.ids(v:V):List Nat:=v.cells.flatMap C.ids
def SV.ids:SV->List Nat
 |.vl v=>v.ids
 |.tup l=>l.flatMap V.ids
def Zkk(Z:St)(z:Operand):List Nat:=match Z.val z with|some s=>s.ids|none=>[]
def Ztd(Z:St)(x y:Oper):Bool:=x.op.operands.all fun zx=>(Zkk Z zx).all fun id=>y.op.operands.all fun zy=>!(Zkk Z zy).contains id
def before(ops:List Oper):Nat->Nat->Oper->Bool
 |0,x,y=>ordered x y
 |n+1,x,y=>ordered x y || y.after.any fun e=>Region.binds .any e&&match ops[e.on]? with|some o=>before ops n x o|none=>false
def Qsf(T:List K)(Z:St)(ops:List Oper):Bool :=
 let l:=ops.zipIdx
 l.all fun p=>l.all fun q=>p.2==q.2 || ordered p.2 q.1 || ordered q.2 p.1 || Qo5 p.1 q.1 || (Ztd Z p.1 q.1 && !(Ji T p.1.op || Ji T q.1.op)) || before ops 7 p.2 q.1 || before ops 7 q.2 p.1
def Zoz(t:Nat):Operand->Bool|.tmp u=>u==t|_=>false
def tidy(ops:List Oper):Bool :=
 let l:=ops.zipIdx
 l.all fun p=>match p.1.dst with|none=>true|some t=>l.all fun q=>!(q.1.op.operands.any (Zoz t)) || ordered p.2 q.1
def Qjq(T:List K)(Z:St)(ops:Array Oper):Bool:=Qrl ops.toList || (tidy ops.toList&&Qsf T Z ops.toList)
def Qiq(ops:Array Oper):Bool:=Region.lexB .any ops
inductive Hp where
 |slot (t:Nat)
 |box (t:Nat)
 |view (t:Nat)
structure LH where
 slot:Nat
 k:LK
 elem:TypeId
 full:Bool:=false
structure Ann where
 pos:String
 hav:List (Hp×List L)
 lsts:List LH:=[]
def Code.Xix:Code->String
 |.region _ ops _=>match ops[0]? with|some o=>o.pos|none=>""
 |.seq a b=>let s:=Code.Xix a;if s == "" then Code.Xix b else s
 |.block _ b=>Code.Xix b
 |.cond _ a _=>Code.Xix a
 |.loop a=>Code.Xix a
 |_=>""
def Code.Xjp:Code->List Nat
 |.region _ ops _=>ops.toList.filterMap (·.dst)
 |.seq a b=>Code.Xjp a++Code.Xjp b
 |.block _ b=>Code.Xjp b
 |.cond _ a b=>Code.Xjp a++Code.Xjp b
 |.loop a=>Code.Xjp a
 |_=>[]
def Qri(LA:List Ann)(s:String):Option Ann :=
 match LA with
 |[]=>none
 |a::r=>if a.pos==s then some a else Qri r s
def Qfs(Z:St):Hp->Option (List C)
 |.slot t=>match Z.tmps[t]? with|some (.vl v)=>some v.cells|_=>none
 |.box t=>match Z.get t with
  |.vl (.one (.ptr id 0))=>match Z.box id with
   |some b=>if b.own then some b.cells else none
   |none=>none
  |_=>none
 |.view t=>match Z.tmps[t]? with|some (.vl (.one (.slv _ lo _ _)))=>some [.int .i64 lo]|_=>none
def setH(Z:St)(cs:List C):Hp->St
 |.slot t=>match Z.tmps[t]? with
  |some (.vl (.one _))=>{Z with tmps:=Z.tmps.set t (.vl (.one (cs.headD .top))) }
  |some (.vl (.agg _))=>{Z with tmps:=Z.tmps.set t (.vl (.agg cs)) }
  |_=>Z
 |.box t=>match Z.get t with
  |.vl (.one (.ptr id 0))=>match Z.box id with
   |some b=>{Z with boxes:=Z.boxes.set id (some {b with cells:=cs }) }
   |none=>Z
  |_=>Z
 |.view t=>match Z.tmps[t]? with
  |some (.vl (.one (.slv id _ hi k)))=>match cs with
   |[.int .i64 a]=>{Z with tmps:=Z.tmps.set t (.vl (.one (.slv id a hi k))) }
   |_=>Z
  |_=>Z
def Qdh(Z:St)(nn:Nat):List (Hp×List L)->Option (Defs×List A)
 |[]=>some ([],[])
 |(h,ls)::r=>match Qfs Z h with
  |none=>none
  |some cs=>match X3 nn ls cs with
   |none=>none
   |some d=>match Qdh Z (nn+d.1.length) r with
    |none=>none
    |some q=>some (d.1++q.1,d.2++q.2)
def B3(nn:Nat):List L->List C
 |[]=>[]
 |.cst c::ls=>c::B3 nn ls
 |.int k::ls=>.int k (.v nn)::B3 (nn+1) ls
 |.bool::ls=>.bool (.v nn)::B3 (nn+1) ls
 |.lst _::ls=>B3 (nn+1) ls
 |.arr k n::ls=>Qom k nn n 0++B3 (nn+1) ls
 |.num::ls=>[C.int .u64 (.m nn 0),.int .u64 (.m nn 1),.int .u64 (.m nn 2),.int .u64 (.m nn 3),.int .u64 (.m nn 4),.int .u64 (.m nn 5)]++B3 (nn+1) ls
def Uz(Z:St)(nn:Nat):List (Hp×List L)->St
 |[]=>Z
 |(h,ls)::r=>Uz (setH Z (B3 nn ls) h) (nn+Qt ls) r
def Ql0:List L->List KK
 |[]=>[]
 |.cst _::ls=>Ql0 ls
 |l::ls=>Xhf l::Ql0 ls
def Zg:List (Hp×List L)->Nat
 |[]=>0
 |(_,ls)::r=>Qt ls+Zg r
def Zah:List (Hp×List L)->List KK
 |[]=>[]
 |(_,ls)::r=>Ql0 ls++Zah r
def Qk1:L->Bool|.cst _=>false|.lst _=>false|_=>true
def topS:SV:=.vl (.one .top)
def Qlz(t:Nat):Hp->Bool|.slot u=>t==u|.view u=>t==u|_=>false
def Yn(Z:St):List Nat->St
 |[]=>Z
 |t::r=>Yn {Z with tmps:=Z.tmps.set t topS } r
def aEq:A->A->Bool
 |.lit a,.lit b=>a==b
 |.v a,.v b=>a==b
 |.m a i,.m b j=>a==b&&i==j
 |.elt k a i,.elt k' b j=>k==k'&&a==b&&i==j
 |_,_=>false
def Ztf:C->C->Bool
 |.int k a,.int k' b=>k==k'&&aEq a b
 |.bool a,.bool b=>aEq a b
 |.ptr i o,.ptr j q=>i==j&&o==q
 |.nil,.nil=>true
 |.slice i o l c,.slice j q m d=>i==j&&o==q&&l==m&&c==d
 |.nilslice,.nilslice=>true
 |.fn f cs,.fn g ds=>f==g&&cs==ds
 |.nilfn,.nilfn=>true
 |.nilmap,.nilmap=>true
 |.niliface,.niliface=>true
 |.ext n,.ext m=>n==m
 |.ll a,.ll b=>aEq a b
 |.rol a,.rol b=>aEq a b
 |.sl i,.sl j=>i==j
 |.lp i a k,.lp j b k'=>i==j&&aEq a b&&k.eq k'
 |.ptrS i o a n,.ptrS j q b m=>i==j&&o==q&&aEq a b&&n==m
 |.slv i a b k,.slv j c d k'=>i==j&&aEq a c&&aEq b d&&k.eq k'
 |.sv a,.sv b=>aEq a b
 |.slS i o a n,.slS j q b m=>i==j&&o==q&&aEq a b&&n==m
 |_,_=>false
def Quv:List C->List C->Bool
 |[],[]=>true
 |a::as,b::bs=>Ztf a b&&Quv as bs
 |_,_=>false
def Zro:V->V->Bool
 |.one a,.one b=>Ztf a b
 |.agg a,.agg b=>Quv a b
 |_,_=>false
def Zcx:List V->List V->Bool
 |[],[]=>true
 |a::as,b::bs=>Zro a b&&Zcx as bs
 |_,_=>false
def Zu9:SV->SV->Bool
 |.vl a,.vl b=>Zro a b
 |.tup a,.tup b=>Zcx a b
 |_,_=>false
def Qsx:List SV->List SV->Bool
 |[],[]=>true
 |a::as,b::bs=>((match a with|.vl (.one .top)=>true|_=>false) || Zu9 a b)&&Qsx as bs
 |_,_=>false
def Zn5(a b:Row):Bool:=eqA a.x b.x&&eqA a.x0 b.x0&&a.k.eq b.k&&a.elem==b.elem&&a.own==b.own&&a.full==b.full
def Zl7:Option Row->Option Row->Bool
 |none,none=>true
 |some a,some b=>Zn5 a b
 |_,_=>false
def Zmb:Option Box->Option Box->Bool
 |none,_=>true
 |some a,some b=>a.own==b.own&&a.fz==b.fz&&a.elem==b.elem&&Quv a.cells b.cells&&Zl7 a.row b.row
 |some _,none=>false
def Qdy:List (Option Box)->List (Option Box)->Bool
 |[],_=>true
 |a::as,b::bs=>Zmb a b&&Qdy as bs
 |a::as,[]=>(match a with|none=>true|some _=>false)&&Qdy as []
def Zbf(σh Z:St)(n0:Nat)(hav:List (Hp×List L)):Option (Defs×List A) :=
 match Qdh Z Z.nv hav with
 |none=>none
 |some d =>
  let Z':=Uz Z n0 hav
  if Qsx σh.tmps Z'.tmps&&Qdy σh.boxes Z'.boxes&&hav.all (fun p=>match p.1 with|.box t=>Zu9 (σh.get t) (Z.get t)|_=>true)then some d else none
def Zeq(t:Nat):Hp->Bool|.slot u=>t==u|_=>false
def Zoe:List L->Bool|[.int .i64]=>true|_=>false
def Qhb(hav:List (Hp×List L)):Bool:=hav.all fun p=>p.2.all Qk1&&match p.1 with|.box t=>!hav.any (fun q=>Qlz t q.1)|.view t=>Zoe p.2 && !hav.any (fun q=>Zeq t q.1)|_=>true
def Qpl(P:Program)(Z:St)(nn:Nat)(op:Op):Option Grow :=
 match op with
 |.call c=>match c.callee,c.argTypes.toList,c.args.toList with
  |.builtin .append,[t,t'],[s,x]=>if t==t' then match P.underlying t with
   |some (.slice e)=>match P.info? e,Quu P e with
    |some i,some k=>match i.zero with
     | some z=>if z.cells.size==i.size&&i.size==k.sz&&decide (i.bytes<=16384) then
       match Z.cell x with
       |some (.slice id off 1 _)=>match Z.box id with
        |some b=>if k.sz<=(b.cells.drop off).length then match takeK nn k ((b.cells.drop off).take k.sz)with
         |some (ds,a)=>match Z.cell s with
          |some .nilslice=>some ⟨none,.lit 0,k,e,ds,a⟩
          |some (.sl id')=>match Z.row id' with
           |some r=>if r.own&&r.elem==e&&r.k.eq k then some ⟨some id',r.x,k,e,ds,a⟩else none
           |none=>none
          |_=>none
         |_=>none
         else none
        |none=>none
       |_=>none
      else none
     |none=>none
    |_,_=>none
   |_=>none
   else none
  |_,_,_=>none
 |_=>none
def Qjn(Z:St)(nid:Nat)(g:Grow)(dst:Option Nat):St :=
 {Z with
  nv:=Z.nv+(g.defs.length+3)
  boxes:=Qj4 (Xio Z.boxes g.old.toList) nid (some (Zf {x:=.v (Z.nv+(g.defs.length+2)),x0:=.v (Z.nv+(g.defs.length+2)),k:=g.k,elem:=g.elem,own:=true,full:=false })) }.put dst (.vl (.one (.sl nid)))
structure Made where
 k:LK
 elem:TypeId
 a:A
def zeroK(k:LK)(z:Value):Bool :=
 match k with
 |.tup _ _=>false
 |.byt=>false
 |k=>match vOf z with
  |some v=>match X3 0 [k.leaf] v.cells with
   |some ([],[.lit n])=>n==0
   |_=>false
  |none=>false
def Qqp(P:Program)(Z:St)(op:Op):Option Made :=
 match op with
 |.makeSlice t l c=>match P.underlying t with
  |some (.slice e)=>match P.info? e,Quu P e with
   |some i,some k=>match i.zero with
    | some z=>if z.cells.size==i.size&&i.size==k.sz&&decide (i.bytes<=16384)&&zeroK k z then
      match Z.cell l,Z.cell c with
      |some (.int _ a),some (.int _ b)=>if eqA a b then some ⟨k,e,a⟩else none
      |_,_=>none
     else none
    |none=>none
   |_,_=>none
  |_=>none
 |_=>none
def Qjf(Z:St)(nid:Nat)(g:Made)(dst:Option Nat):St :=
 {Z with
  nv:=Z.nv+3
  boxes:=Qj4 Z.boxes nid (some (Zf {x:=.v (Z.nv+2),x0:=.v (Z.nv+2),k:=g.k,elem:=g.elem,own:=true,full:=true })) }.put dst (.vl (.one (.sl nid)))
structure Copy where
 id:Nat
 r:Row
 b:Box
 defs:Defs
 y:A
def Qw3(P:Program)(Z:St)(nn:Nat)(op:Op):Option Copy :=
 match op with
 |.call c=>match c.callee,c.argTypes.toList,c.args.toList with
  |.builtin .copy,[t,_],[d,s]=>match P.underlying t,Z.cell d with
   |some (.slice e),some (.sl id)=>match Z.box id,szOf P e with
    |some b,some z=>match b.row with
     | some r=>if r.own&&z==r.k.sz then match Qjz Z nn r.k s with
       |some (ds,y)=>some ⟨id,r,b,ds,y⟩
       |none=>none
      else none
     |none=>none
    |_,_=>none
   |_,_=>none
  |_,_,_=>none
 |_=>none
def Qjr(Z:St)(g:Copy)(dst:Option Nat):St :=
 {Z with
  nv:=Z.nv+(g.defs.length+3)
  boxes:=Qj4 Z.boxes g.id (some (g.b.upd (.row (.v (Z.nv+(g.defs.length+2)))))) }.put dst (.vl (.one .top))
structure Frz where
 slot:Nat
 id:Nat
 n:Nat
 k:LK
 elem:TypeId
 defs:Defs
 as:List A
def Qg3(P:Program)(Z:St)(nn:Nat)(op:Op):Option Frz :=
 match op with
 |.call c=>match c.callee,c.argTypes.toList,c.args.toList with
  |.builtin .append,t::_,.tmp s::_=>match Z.cell (.tmp s)with
   |some (.slice id 0 n cap)=>match P.underlying t with
    |some (.slice e)=>match Quu P e,Z.box id with
     | some k,some b=>if b.own&&b.fz==(0,0)&&b.row.isNone&&b.elem==e&&n==cap&&decide (0<n)&&decide (n<=1024)&&b.cells.length==n*k.sz then
       match takeNK k nn n b.cells with
       |some (ds,as)=>some ⟨s,id,n,k,e,ds,as⟩
       |none=>none
      else none
     |_,_=>none
    |_=>none
   |_=>none
  |_,_,_=>none
 |_=>none
def Xiu(bs:List (Option Box))(id:Nat):List (Option Box) :=
 match lget? bs id with
 |some (some b)=>Qj4 bs id (some {b with cells:=[],own:=false })
 |_=>bs
def Qdq(Z:St)(g:Frz):St :=
 {Z with
  nv:=Z.nv+(g.defs.length+1)
  boxes:=Xiu Z.boxes g.id++[some (Zf {x:=.v (Z.nv+g.defs.length),x0:=.v (Z.nv+g.defs.length),k:=g.k,elem:=g.elem,own:=true,full:=true })]
  tmps:=Qj4 Z.tmps g.slot (.vl (.one (.sl Z.boxes.length))) }
def Qly(Z:St)(h:LH):Option (A×Option Nat) :=
 match Z.tmps[h.slot]? with
 |some (.vl (.one .nilslice))=>some (.lit 0,none)
 |some (.vl (.one (.sl id)))=>match Z.row id with
  |some r=>if r.own&&r.elem==h.elem&&r.k.eq h.k&&(!h.full || r.full)then some (r.x,some id)else none
  |none=>none
 |_=>none
def Qaf:List Nat->Bool
 |[]=>true
 |a::r=>!r.contains a&&Qaf r
def Be(q:List (A×Option Nat)):List Nat:=q.filterMap (·.2)
def Qo3(Z:St)(id nn:Nat):List LH->St
 |[]=>Z
 | h::r=>Qo3 {Z with
   boxes:=Z.boxes.set id (some (Zf {x:=.v nn,x0:=.v nn,k:=h.k,elem:=h.elem,own:=true,full:=h.full }))
   tmps:=Z.tmps.set h.slot (.vl (.one (.sl id))) } (id+1) (nn+1) r
def Zcu(σh Z:St)(l:List LH):Option (List A) :=
 match Ze (Qly Z) l with
 |none=>none
 |some q=>if Qaf (Be q)&&(Be q).all (fun id=>(σh.row id).isNone)then some (q.map (·.1))else none
def Qjw(Z:St):List (Hp×List L)->Option (Nat×Nat×Row)
 |[]=>none
 |(.view t,_)::r=>match Z.tmps[t]? with
  |some (.vl (.one (.sl id)))=>match Z.row id with
   |some q=>some (t,id,q)
   |none=>Qjw Z r
  |_=>Qjw Z r
 |_::r=>Qjw Z r
def Zem(Z:St)(g:Nat×Nat×Row):St:={Z with nv:=Z.nv+1,tmps:=Z.tmps.set g.1 (.vl (.one (.slv g.2.1 (.lit 0) (.v Z.nv) g.2.2.k))) }
def Qvc(Z:St)(c:Code)(ann:Ann)(q:List (A×Option Nat)):St :=
 let σd:=Yn Z (((Code.Xjp c).filter fun t=>!ann.hav.any fun p=>Qlz t p.1)++ann.lsts.map (·.slot))
 {σd with boxes:=Xio σd.boxes (Be q)++List.replicate ann.lsts.length none }
def Zxf(Z σd:St)(ann:Ann)(n0:Nat):St:={Uz σd n0 ann.hav with nv:=n0+(Zg ann.hav+ann.lsts.length),lvl:=Z.lvl+1 }
def run(P:Program)(T:List K)(LA:List Ann):Nat->Job->St->(Ex->St->Qn)->Qn
  |0,_,_,_=>.bad 300 ""
  | n+1,job,Z,k=>match job with
    | .code c=>match c with
      |.skip=>k .normal Z
      | .region _ ops draw =>
        if draw then
          match Qtf T ops with
          | some q =>
            if Qiq q.2 then Qed P T q.2 Z.nv Z.boxes.length n q.2.toList 0 { Z with nv:=Z.nv+q.2.size*Q1,boxes:=Z.boxes++List.replicate q.2.size none } fun Z'=>if Qjq T Z' q.2 then run P T LA n (.ops ops q.1) (Yn Z' (q.1.filterMap (·.dst))) k else .bad 313 ""
            else .bad 301 ""
          | none =>
            if Qiq ops then Qed P T ops Z.nv Z.boxes.length n ops.toList 0 { Z with nv:=Z.nv+ops.size*Q1,boxes:=Z.boxes++List.replicate ops.size none } fun Z'=>if Qjq T Z' ops then k .normal Z' else .bad 313 ""
            else .bad 301 ""
        else run P T LA n (.ops ops ops.toList) Z k
      | .seq a b=>run P T LA n (.code a) Z fun e Z'=>match e with
        |.normal=>run P T LA n (.code b) Z' k
        |e=>k e Z'
      | .cond c x y=>match Z.cell c with
        | some (.bool a)=>match Xis Z a with
          |.yes=>run P T LA n (.code x) Z k
          |.no=>run P T LA n (.code y) Z k
          |.need v=>if v<Z.nv then .split v (run P T LA n (.code x) (Z.Xi6 v true) k) (run P T LA n (.code y) (Z.Xi6 v false) k)else .bad 308 ""
          |.bad=>.bad 302 ""
        |_=>.bad 302 ""
      | .block id c=>run P T LA n (.code c) Z fun e Z'=>match e with
        |.exit id'=>if id'==id then k .normal Z' else k (.exit id') Z'
        |e=>k e Z'
      | .loop c=>match Qri LA (Code.Xix c) with
        |none=>run P T LA n (.rounds c) Z k
        |some ann =>
         match Qjw Z ann.hav with
         |some g=>.l Z.nv (.int .i64) (.llen g.2.2.x0) (run P T LA n (.code (.loop c)) (Zem Z g) k)
         |none =>
         match Ze (Qly Z) ann.lsts with
         |none=>.bad 314 ann.pos
         |some q =>
          let σd:=Qvc Z c ann q
          match Qdh σd Z.nv ann.hav with
          |none=>.bad 310 ann.pos
          | some d =>
            let n0:=Z.nv+d.1.length
            let σh:=Zxf Z σd ann n0
            if Qhb ann.hav&&Qaf (Be q)then
              Jc Z.nv d.1 (.loop (d.2++q.map (·.1)) (Zah ann.hav++ann.lsts.map fun h=>.lst h.k) n0 (run P T LA n (.code c) (Qo3 σh Z.boxes.length (n0+Zg ann.hav) ann.lsts) fun e Z'=>match e with
                | .normal=>match Zcu σh Z' ann.lsts with
                  |none=>.bad 315 ann.pos
                  | some as=>match Zbf σh Z' n0 ann.hav with
                    |some b=>Jc Z'.nv b.1 (.back Z.lvl (b.2++as))
                    |none=>.bad 311 ann.pos
                |e=>k e Z'))
            else .bad 312 ann.pos
      |.exit id=>k (.exit id) Z
      |.ret=>k .ret Z
      |.label _=>k .normal Z
      |_=>.bad 303 ""
    |.rounds c=>run P T LA n (.code c) Z fun e Z'=>match e with
        |.normal=>run P T LA n (.rounds c) Z' k
        |e=>k e Z'
    | .ops all l=>match l with
      |[]=>k .normal Z
      | o::rest=>match Z0 all Z o with
        |.bad=>.bad 304 o.pos
        |.need v=>if v<Z.nv then .split v (run P T LA n job (Z.Xi6 v true) k) (run P T LA n job (Z.Xi6 v false) k)else .bad 308 ""
        |.no=>run P T LA n (.ops all rest) (Z.put o.dst Wj) k
        |.yes=>match Qg3 P Z Z.nv o.op with
         |some g=>Jc Z.nv (g.defs++[(.lst g.k,.lapp (.lit 0) g.as)]) (run P T LA n job (Qdq Z g) k)
         |none =>
         match Qpl P (room Z o.op) Z.nv o.op with
         |some g=>Jc Z.nv (g.defs++[(.int .i64,.llen g.x0),(.bit,.cmp .lss (.v (Z.nv+g.defs.length)) (.lit 4294967296))]) (.nz (.v (Z.nv+(g.defs.length+1)))
  (.l (Z.nv+(g.defs.length+2)) (.lst g.k) (.lapp g.x0 [g.a]) (run P T LA n (.ops all rest) (Qjn (room Z o.op) Z.boxes.length g o.dst) k)))
         |none =>
         match Qqp P (room Z o.op) o.op with
         |some g=>Jc Z.nv [(.bit,.cmp .leq (.lit 0) g.a),(.bit,.cmp .lss g.a (.lit 4294967296))] (.nz (.v Z.nv) (.nz (.v (Z.nv+1))
  (.l (Z.nv+2) (.lst g.k) (.lrep g.a (.lit 0)) (run P T LA n (.ops all rest) (Qjf (room Z o.op) Z.boxes.length g o.dst) k))))
         |none =>
         match Qw3 P (room Z o.op) Z.nv o.op with
         |some g=>Jc Z.nv (g.defs++[(.int .i64,.llen g.r.x0),(.bit,.cmp .lss (.lit 0) (.v (Z.nv+g.defs.length)))]) (.nz (.v (Z.nv+(g.defs.length+1)))
  (.l (Z.nv+(g.defs.length+2)) (.lst g.r.k) (.lcpy g.r.x g.y) (run P T LA n (.ops all rest) (Qjr (room Z o.op) g o.dst) k)))
         |none =>
         match Qz P T (room Z o.op) Z.nv Z.boxes.length o.op with
          |.ok p=>Qn3 Z.nv p (run P T LA n (.ops all rest) (Zj { room Z o.op with nv:=Z.nv+p.defs.length+p.post.length } p Z.boxes.length o.dst) k)
          |.need v=>if v<Z.nv then .split v (run P T LA n job (Z.Xi6 v true) k) (run P T LA n job (Z.Xi6 v false) k)else .bad 308 ""
          |.bad why=>.bad why o.pos
          | .call f args=>match P.funcs[f]? with
            | some fn=>match fn.body with
              | some c=>if fn.name == "runtime.NumGoroutine" then .bad 305 o.pos else
                run P T LA n (.code c) { Z with tmps:=args.map SV.vl++List.replicate (fn.ntmps-args.length) Wj } fun e Z'=>match e with
                |.exit _=>.bad 306 o.pos
                | _=>match Qxg P Z' fn with
                  |some vs=>run P T LA n (.ops all rest) ({ Z' with tmps:=Z.tmps }.put o.dst (Qfh vs)) k
                  |none=>.bad 307 o.pos
              |none=>.bad (2000+f) o.pos
            |none=>.bad 309 o.pos
end
noncomputable section
def Yp(nn id:Nat):List Sh->List V×List (Option Box)
 |[]=>([],[])
 |.one l::ss=>let r:=Yp (nn+Qt [l]) id ss
  (V.one ((B3 nn [l]).headD .top)::r.1,r.2)
 |.agg ls::ss=>let r:=Yp (nn+Qt ls) id ss
  (V.agg (B3 nn ls)::r.1,r.2)
 |.ptr ls::ss=>let r:=Yp (nn+Qt ls) (id+1) ss
  (V.one (.ptr id 0)::r.1,some {cells:=B3 nn ls,elem:=0,own:=false }::r.2)
 |.lst k::ss=>let r:=Yp (nn+1) (id+1) ss
  (V.one (.sl id)::r.1,some (Zf {x:=.v nn,x0:=.v nn,k:=k,elem:=0,own:=false,full:=false })::r.2)
 |.lent k::ss=>let r:=Yp (nn+2) (id+1) ss
  (V.one (.slv id (.lit 0) (.v (nn+1)) k)::r.1,some (Zf {x:=.v nn,x0:=.v nn,k:=k,elem:=0,own:=false,full:=true })::r.2)
 |.ll::ss=>let r:=Yp (nn+1) id ss
  (V.one (.ll (.v nn))::r.1,r.2)
def Xw:List Sh->Nat
 |[]=>0
 |s::ss=>Qt s.leaves+Xw ss
def glB(id:Nat):Gls->List (Nat×Nat)
 |[]=>[]
 |p::r=>(p.1,id)::glB (id+1) r
def Zwb(fn:Func)(ins:List Sh)(gls:Gls:=[]):St :=
 let r:=Yp 0 0 ins
 {tmps:=r.1.map SV.vl++List.replicate (fn.ntmps-r.1.length) Wj,boxes:=r.2++gls.map (fun p=>some {cells:=p.2,elem:=0,own:=false }),nv:=Xw ins,kn:=[],gl:=glB r.2.length gls,lvl:=0 }
def Qzy(Z:St)(nn:Nat):Oh->V->Option (Defs×List A)
 |.one l,.one c=>X3 nn [l] [c]
 |.agg ls,.agg cs=>X3 nn ls cs
 |.box e ls,.one (.ptr id 0)=>match Z.box id with
  |some b=>if b.own&&b.fz==(0,0)&&b.elem==e then X3 nn ls b.cells else none
  |none=>none
 |.lst _ _,.one .nilslice=>some ([],[.lit 0])
 |.lst e k,.one (.sl id)=>match Z.row id with
  |some r=>if r.own&&r.elem==e&&r.k.eq k then some ([],[r.x])else none
  |none=>none
 |.lst e k,.one (.slv id lo hi k')=>match Z.row id with
  |some r=>if r.own&&r.elem==e&&r.k.eq k&&k'.eq k&&isZ lo then some ([(.lst k,.lsub r.x lo hi)],[.v nn])else none
  |none=>none
 |.lent _ _,.one .nilslice=>some ([],[.lit 0,.lit 0])
 |.lent e k,.one (.slv id lo hi k')=>match Z.row id with
  |some r=>if r.own&&r.elem==e&&r.k.eq k&&k'.eq k&&r.full&&isZ lo then some ([],[r.x,hi])else none
  |none=>none
 |.lent e k,.one (.slS id 0 hi n)=>match Z.box id with
  | some b=>if b.own&&b.fz==(0,0)&&b.elem==e&&decide (0<n)&&decide (n<=1024)&&b.cells.length==n*k.sz then
    match takeNK k nn n b.cells with
    |some (ds,as)=>some (ds++[(.lst k,.lapp (.lit 0) as)],[.v (nn+ds.length),hi])
    |none=>none
   else none
  |none=>none
 |.lst e k,.one (.slice id 0 n n')=>match Z.box id with
  | some b=>if b.own&&b.fz==(0,0)&&b.elem==e&&decide (0<n)&&decide (n<=1024)&&n==n'&&b.cells.length==n*k.sz then
    match takeNK k nn n b.cells with
    |some (ds,as)=>some (ds++[(.lst k,.lapp (.lit 0) as)],[.v (nn+ds.length)])
    |none=>none
   else none
  |none=>none
 |_,_=>none
def Us(Z:St)(nn:Nat):List Oh->List V->Option (Defs×List A)
 |[],[]=>some ([],[])
 |s::ss,v::vs=>match Qzy Z nn s v with
  |none=>none
  |some d=>match Us Z (nn+d.1.length) ss vs with
   |none=>none
   |some r=>some (d.1++r.1,d.2++r.2)
 |_,_=>none
def Jy(P:Program)(fn:Func)(outs:List Oh)(e:Ex)(Z:St):Qn :=
 match e with
 |.exit _=>.bad 400 ""
 |_=>match Qxg P Z fn with
  |none=>.bad 401 ""
  |some vs=>match Us Z Z.nv outs vs with
   |none=>.bad 402 ""
   |some r=>Jc Z.nv r.1 (.ret r.2)
def Qsq(P:Program)(T:List K)(LA:List Ann)(fuel:Nat)(fn:Func)(ins:List Sh)(outs:List Oh)(gls:Gls:=[]):Qn :=
 match fn.body with
 |some c=>run P T LA fuel (.code c) (Zwb fn ins gls) (Jy P fn outs)
 |none=>.bad 403 ""
end
end Go.Sx
namespace Go.Sx
open Go Go.RowKit
theorem A.Xih{a:A}{nv:Nat}{e e':Nat->Int}(h:a.ok nv)(he:∀i,i<nv->e' i=e i):a.ev e'=a.ev e:=by
 cases a with
 |lit n=>rfl
 |v n=>exact he _ h
 |m n j=>simp only[A.ev];rw[he _ h]
 |elt k n j=>simp only[A.ev];rw[he _ h]
theorem A.Xil{a:A}{nv nv':Nat}{e e':Nat->Int}(h:a.wf nv e)(he:∀i,i<nv->e' i=e i)(hn:nv<=nv'):a.wf nv' e':=by
 cases a with
 |lit n=>exact⟨trivial,trivial⟩
 |v n=>exact⟨L2 h.1 hn,trivial⟩
 |m n j=>exact⟨L2 h.1 hn,by have:=h.2;simp only[A.Xjs]at *;rw[he _ h.1];exact this⟩
 |elt k n j=>exact⟨L2 h.1 hn,by have:=h.2;simp only[A.Xjs]at *;rw[he _ h.1];exact this⟩
theorem A.Xii{a:A}{nv nv':Nat}(h:a.ok nv)(hn:nv<=nv'):a.ok nv':=by
 cases a <;> simp only[A.ok]at * <;> omega
structure MExt (m:M) (nv:Nat) (al:Nat->Bool) (m':M) (nv':Nat) (al':Nat->Bool):Prop where
 env:∀i,i<nv->m'.env i=m.env i
 rho:∀id,al id=true->m'.rho id=m.rho id
 ext:m'.ext=m.ext
 sv:∀id,al id=true->m'.sv id=m.sv id
 nv:nv<=nv'
 al:∀id,al id=true->al' id=true
theorem MExt.refl(m:M)(nv:Nat)(al:Nat->Bool):MExt m nv al m nv al:=⟨fun _ _=>rfl,fun _ _=>rfl,rfl,fun _ _=>rfl,Nat.le_refl _,fun _ h=>h⟩
theorem MExt.trans{m m' m'':M}{nv nv' nv'':Nat}{al al' al'':Nat->Bool}(h:MExt m nv al m' nv' al')(k:MExt m' nv' al' m'' nv'' al''):MExt m nv al m'' nv'' al'' :=
  ⟨fun i hi=>(k.env i (L2 hi h.nv)).trans (h.env i hi),fun id hi=>(k.rho id (h.al id hi)).trans (h.rho id hi),k.ext.trans h.ext,
   fun id hi=>(k.sv id (h.al id hi)).trans (h.sv id hi),Nat.le_trans h.nv k.nv,fun id hi=>k.al id (h.al id hi)⟩
section
variable {m m':M}{nv nv':Nat}{al al':Nat->Bool}
theorem MExt.at_(h:MExt m nv al m' nv' al'){id:Nat}(hi:al id=true)(off:Nat):m'.at id off=m.at id off:=by
 simp only[M.at,h.rho id hi]
theorem C.Xiq(h:MExt m nv al m' nv' al'){c:C}{v:Value}(hc:c.rel m nv al v):c.rel m' nv' al' v:=by
 cases c <;> simp only[C.rel]at hc ⊢
 case int k a=>obtain⟨h1,h2,h3⟩:=hc;rw[A.Xih h1.1 h.env];exact⟨A.Xil h1 h.env h.nv,h2,h3⟩
 case bool a=>obtain⟨h1,h2,h3⟩:=hc;rw[A.Xih h1.1 h.env];exact⟨A.Xil h1 h.env h.nv,h2,h3⟩
 case sv a=>obtain⟨h1,h2,h3⟩:=hc;rw[A.Xih h1.1 h.env];exact⟨A.Xil h1 h.env h.nv,h2,h3⟩
 case ptr id off=>exact⟨h.al _ hc.1,by rw[h.at_ hc.1];exact hc.2⟩
 case slice id off len cap=>exact⟨h.al _ hc.1,by rw[h.at_ hc.1];exact hc.2⟩
 case fn f caps =>
  refine⟨fun p hp=>h.al _ (hc.1 p hp),?_⟩;rw[hc.2];congr 2;exact Hz fun p hp=>by rw[h.at_ (hc.1 p hp)]
 case ext n=>rw[h.ext];exact hc
 case ptrS id off i n=>obtain⟨h1,h2,h3,h4⟩:=hc;rw[A.Xih h2.1 h.env];exact⟨h.al _ h1,A.Xil h2 h.env h.nv,h3,by rw[h.at_ h1];exact h4⟩
 case sl id=>exact⟨h.al _ hc.1,by rw[h.sv _ hc.1];exact hc.2⟩
 case lp id i k=>obtain⟨h1,h2,h3,h4⟩:=hc;rw[A.Xih h2.1 h.env,h.sv _ h1];exact⟨h.al _ h1,A.Xil h2 h.env h.nv,h3,h4⟩
 case slS id off i n=>obtain⟨h1,h2,h3,h4⟩:=hc;rw[A.Xih h2.1 h.env];exact⟨h.al _ h1,A.Xil h2 h.env h.nv,h3,by rw[h.at_ h1];exact h4⟩
 case ll a=>obtain⟨h1,h2⟩:=hc;rw[A.Xih h1.1 h.env,h.ext];exact⟨A.Xil h1 h.env h.nv,h2⟩
 case rol a=>obtain⟨h1,h2⟩:=hc;rw[A.Xih h1.1 h.env,h.ext];exact⟨A.Xil h1 h.env h.nv,h2⟩
 case llp a i=>obtain⟨h1,h2,h3⟩:=hc;rw[A.Xih h1.1 h.env,A.Xih h2.1 h.env,h.ext];exact⟨A.Xil h1 h.env h.nv,A.Xil h2 h.env h.nv,h3⟩
 case slv id lo hi k=>obtain⟨h1,h2,h3,h4,h5⟩:=hc;rw[A.Xih h2.1 h.env,A.Xih h3.1 h.env,h.sv _ h1];exact⟨h.al _ h1,A.Xil h2 h.env h.nv,A.Xil h3 h.env h.nv,h4,h5⟩
 all_goals exact hc
theorem Rels.mono(h:MExt m nv al m' nv' al'):∀ {cs:List C} {vs:List Value},Rels m nv al cs vs->Rels m' nv' al' cs vs
 |[],[],_=>trivial
 |_::_,_::_,hc=>⟨C.Xiq h hc.1,Rels.mono h hc.2⟩
theorem V.Xiq(h:MExt m nv al m' nv' al'){x:V}{v:Value}(hc:x.rel m nv al v):x.rel m' nv' al' v:=by
 cases x with
 |one c=>exact C.Xiq h hc
 |agg cs=>obtain⟨vs,rfl,hr⟩:=hc;exact⟨vs,rfl,hr.mono h⟩
theorem Zn.mono(h:MExt m nv al m' nv' al'):∀ {cs:List V} {vs:List Value},Zn m nv al cs vs->Zn m' nv' al' cs vs
 |[],[],_=>trivial
 |_::_,_::_,hc=>⟨V.Xiq h hc.1,Zn.mono h hc.2⟩
theorem SV.Xiq(h:MExt m nv al m' nv' al'){x:SV}{v:Value}(hc:x.rel m nv al v):x.rel m' nv' al' v:=by
 cases x with
 |vl c=>exact V.Xiq h hc
 |tup cs=>obtain⟨vs,rfl,hr⟩:=hc;exact⟨vs,rfl,hr.mono h⟩
theorem Rels.length:∀ {cs:List C} {vs:List Value},Rels m nv al cs vs->cs.length=vs.length
 |[],[],_=>rfl
 |_::_,_::_,h=>by simp[Rels.length h.2]
theorem Rels.get:∀ {cs:List C} {vs:List Value},Rels m nv al cs vs->∀(i:Nat) (c:C),cs[i]?=some c->∃v,vs[i]?=some v/\c.rel m nv al v
 |[],[],_,i,c,hi=>by simp at hi
 |_::_,_::_,h,0,c,hi=>by simp at hi;subst hi;exact⟨_,rfl,h.1⟩
 |_::_,_::_,h,i+1,c,hi=>by simpa using Rels.get h.2 i c (by simpa using hi)
theorem Rels.take:∀ {cs:List C} {vs:List Value},Rels m nv al cs vs->∀n,Rels m nv al (cs.take n) (vs.take n)
 |[],[],_,n=>by simp[Rels]
 |_::_,_::_,_,0=>by simp[Rels]
 |_::_,_::_,h,n+1=>⟨h.1,Rels.take h.2 n⟩
theorem Rels.drop:∀ {cs:List C} {vs:List Value},Rels m nv al cs vs->∀n,Rels m nv al (cs.drop n) (vs.drop n)
 |[],[],_,n=>by simp[Rels]
 |_::_,_::_,h,0=>h
 |_::_,_::_,h,n+1=>Rels.drop h.2 n
theorem Rels.append:∀ {cs ds:List C} {vs us:List Value},Rels m nv al cs vs->Rels m nv al ds us->Rels m nv al (cs++ds) (vs++us)
 |[],_,[],_,_,k=>k
 |_::_,_,_::_,_,h,k=>⟨h.1,Rels.append h.2 k⟩
theorem Rels.Xjq:∀ {cs:List C} {vs:List Value},cs.length=vs.length->(∀(i:Nat) (c:C),cs[i]?=some c->∃v,vs[i]?=some v/\c.rel m nv al v)->Rels m nv al cs vs
 |[],[],_,_=>trivial
 |c::cs,v::vs,hl,h=>⟨by obtain⟨u,hu,hr⟩:=h 0 c rfl;simp at hu;subst hu;exact hr,Rels.Xjq (by simpa using hl) fun i c hi=>by simpa using h (i+1) c (by simpa using hi)⟩
 |[],_::_,hl,_=>by simp at hl
 |_::_,[],hl,_=>by simp at hl
theorem Zn.length:∀ {cs:List V} {vs:List Value},Zn m nv al cs vs->cs.length=vs.length
 |[],[],_=>rfl
 |_::_,_::_,h=>by simp[Zn.length h.2]
theorem Zn.get:∀ {cs:List V} {vs:List Value},Zn m nv al cs vs->∀(i:Nat) (c:V),cs[i]?=some c->∃v,vs[i]?=some v/\c.rel m nv al v
 |[],[],_,i,c,hi=>by simp at hi
 |_::_,_::_,h,0,c,hi=>by simp at hi;subst hi;exact⟨_,rfl,h.1⟩
 |_::_,_::_,h,i+1,c,hi=>by simpa using Zn.get h.2 i c (by simpa using hi)
theorem Zn.append:∀ {cs ds:List V} {vs us:List Value},Zn m nv al cs vs->Zn m nv al ds us->Zn m nv al (cs++ds) (vs++us)
 |[],_,[],_,_,k=>k
 |_::_,_,_::_,_,h,k=>⟨h.1,Zn.append h.2 k⟩
theorem C.Xjl{c:C}{v:Value}(hc:c.rel m nv al v)(hs:c.Xi3=true):v.oneCell'=true:=by
 cases c <;> simp only[C.rel]at hc <;> simp only[C.Xi3]at hs
 case int=>rw[hc.2.2];rfl
 case bool=>rw[hc.2.2];rfl
 case ptr=>rw[hc.2];rfl
 case slice=>rw[hc.2];rfl
 case fn=>rw[hc.2];rfl
 case ext=>exact hc.2
 case top=>cases hs
 case ptrS=>rw[hc.2.2.2];rfl
 case sl=>exact hc.2.2
 case lp=>rw[hc.2.2.2];rfl
 case slv=>exact hc.2.2.2.2.2
 case sv=>rw[hc.2.2];rfl
 case slS=>rw[hc.2.2.2];rfl
 case ll=>exact hc.2.2
 case rol=>exact hc.2.2.2
 case llp=>obtain⟨_,_,_,s,_,h⟩:=hc;rw[h];rfl
 all_goals (rw[hc];rfl)
theorem Rels.one:∀ {cs:List C} {vs:List Value},Rels m nv al cs vs->cs.all C.Xi3=true->∀v∈vs,v.oneCell'=true
 |[],[],_,_,v,hv=>by cases hv
 |c::cs,u::us,h,hs,v,hv=>by
  simp only[Lq,Oo]at hs;rcases O6.1 hv with rfl|hv
  ·exact C.Xjl h.1 hs.1
  ·exact Rels.one h.2 hs.2 v hv
theorem V.Xir{x:V}{v:Value}(hc:x.rel m nv al v)(hs:x.cells.all C.Xi3=true):∃vs:List Value,v.cells=vs.toArray/\Rels m nv al x.cells vs/\(∀u∈vs,u.oneCell'=true):=by
 cases x with
 |one c =>
  have h1:v.oneCell'=true:=C.Xjl hc (by simpa[V.cells]using hs);refine⟨[v],?_,⟨hc,trivial⟩,by simpa using h1⟩;cases v <;> first|rfl|(simp[Value.oneCell']at h1)
 |agg cs=>obtain⟨vs,rfl,hr⟩:=hc;exact⟨vs,rfl,hr,hr.one hs⟩
end
theorem Qn8{k:IntKind}{n:Int}(h:hasB k n=true):has k n:=by
 simp only[hasB,Oo,decide_eq_true_eq]at h;exact h
section
variable {m:M}{nv:Nat}{al:Nat->Bool}
theorem Zeh{v:Value}{c:C}(h:cOf v=some c):c.rel m nv al v/\c.Xi3=true:=by
 unfold cOf at h;split at h
 ·split at h
  ·cases h;exact⟨⟨⟨trivial,trivial⟩,Qn8 ‹_›,rfl⟩,rfl⟩
  ·cases h
 ·rename_i b;cases h;refine⟨⟨⟨trivial,trivial⟩,?_⟩,rfl⟩;cases b <;> simp[A.ev,X6]
 all_goals (cases h;try exact⟨rfl,rfl⟩)
theorem Zqn{vs:List Value}:∀ {cs:List C},Ze cOf vs=some cs->Rels m nv al cs vs/\cs.all C.Xi3=true:=by
 induction vs with
 |nil=>intro cs h;simp[Ze]at h;subst h;exact⟨trivial,rfl⟩
 |cons v vs ih =>
  intro cs h;unfold Ze at h;split at h
  ·cases h
  ·rename_i c hc;split at h
   ·cases h
   ·rename_i ds hd;cases h;have:=ih hd;have hc':=Zeh (m:=m) (nv:=nv) (al:=al) hc;exact⟨⟨hc'.1,this.1⟩,by simp[hc'.2,this.2]⟩
theorem J5{v:Value}{x:V}(h:vOf v=some x):x.rel m nv al v/\x.cells.all C.Xi3=true:=by
 unfold vOf at h;split at h
 ·rename_i cs;cases hm:Ze cOf cs.toList with
  |none=>simp[hm]at h
  |some ds=>simp[hm]at h;subst h;have:=Zqn (m:=m) (nv:=nv) (al:=al) hm;exact⟨⟨cs.toList,by simp,this.1⟩,this.2⟩
 ·cases hm:cOf v with
  |none=>simp[hm]at h
  |some c=>simp[hm]at h;subst h;have:=Zeh (m:=m) (nv:=nv) (al:=al) hm;exact⟨this.1,by simp[V.cells,this.2]⟩
end
section
variable {w0:World}{m:M}{Z:St}{a:Act}{w:World}
theorem Zl8{l:List (Nat×Nat)}{n k:Nat}(h:look l n=some k):(n,k)∈l:=by
 induction l with
 |nil=>simp[look]at h
 |cons p r ih =>
  unfold look at h;split at h
  ·rename_i hp;cases h;simp at hp;subst hp;exact Mj ..
  ·exact Md _ (ih h)
theorem Zh0{l:List (Nat×Bool)}{n:Nat}{k:Bool}(h:Qa4 l n=some k):(n,k)∈l:=by
 induction l with
 |nil=>simp[Qa4]at h
 |cons p r ih =>
  unfold Qa4 at h;split at h
  ·rename_i hp;cases h;simp at hp;subst hp;exact Mj ..
  ·exact Md _ (ih h)
theorem Rep.get(h:Rep w0 m Z a w)(t:Nat):(Z.get t).rel m Z.nv Z.al (a.tmps.getD t undef):=by
 rw[St.Xje];cases ht:Z.tmps[t]? with
 |some s =>
  obtain⟨v,hv,hr⟩:=h.tmp t s ht;simp only[Ov,ht,Kk,Me,hv];exact hr
 |none =>
  have hl:Z.tmps.length<=t:=List.getElem?_eq_none_iff.1 ht;have:a.tmps[t]?=none:=Array.getElem?_eq_none_iff.2 (by rw[h.size];exact hl);simp only[Ov,ht,Option.getD_none,Me,this];exact⟨[],rfl,trivial⟩
theorem Rep.val(h:Rep w0 m Z a w){x:Operand}{s:SV}(hx:Z.val x=some s):s.rel m Z.nv Z.al (a.eval x):=by
 cases x with
 |tmp t=>simp only[St.val,Option.some.injEq]at hx;subst hx;exact h.get t
 |const v =>
  simp only[St.val]at hx;cases hv:vOf v with
  |none=>simp[hv]at hx
  |some c=>simp[hv]at hx;subst hx;exact(J5 hv).1
 |func f=>simp only[St.val,Option.some.injEq]at hx;subst hx;exact⟨by simp,by simp[Act.eval]⟩
 |global g =>
  simp only[St.val]at hx;cases hg:look Z.gl g with
  |none=>simp[hg]at hx
  |some id =>
   simp[hg]at hx;subst hx;have:=h.gl _ (Zl8 hg);exact⟨this.1,by simp[Act.eval,M.at,this.2]⟩
theorem Rep.v_(h:Rep w0 m Z a w){x:Operand}{s:V}(hx:Z.v x=some s):s.rel m Z.nv Z.al (a.eval x):=by
 unfold St.v at hx;split at hx
 ·rename_i c hc;cases hx;exact h.val hc
 ·cases hx
theorem Rep.cell(h:Rep w0 m Z a w){x:Operand}{s:C}(hx:Z.cell x=some s):s.rel m Z.nv Z.al (a.eval x):=by
 unfold St.cell at hx;split at hx
 ·rename_i c hc;cases hx;exact h.val hc
 ·cases hx
theorem Rep.put(h:Rep w0 m Z a w){s:SV}{v:Value}(hs:s.rel m Z.nv Z.al v)(dst:Option Nat):Rep w0 m (Z.put dst s) (a.put dst v) w:=by
 cases dst with
 |none=>exact h
 |some d =>
  refine⟨h.defers,by simp[Act.put,St.Xi5,h.size],?_,h.below,h.own,h.ro,h.inj,h.kn,h.gl,h.rows,h.rbox,h.rsep,h.base⟩;intro i s' hi;simp only[St.Xi5]at hi;by_cases hd:d=i
  ·subst hd;have hl:d<Z.tmps.length:=by
    rcases Ht d Z.tmps.length with h1|h1
    ·exact h1
    ·rw[My (by simpa using h1)]at hi;cases hi
   simp[hl]at hi;subst hi;exact⟨v,by simp[Act.put,h.size,hl],hs⟩
  ·rw[O3 hd]at hi;obtain⟨u,hu,hr⟩:=h.tmp i s' hi;exact⟨u,by simp[Act.put,Array.getElem?_setIfInBounds_ne hd,hu],hr⟩
theorem Rep.Xis(h:Rep w0 m Z a w){x:A}:(Xis Z x=.yes->x.ev m.env≠0)/\(Xis Z x=.no->x.ev m.env=0):=by
 unfold Sx.Xis;cases x with
 |lit n=>by_cases h0:n=0 <;> simp[A.ev,h0]
 |v n =>
  simp only[A.ev];cases hb:Qa4 Z.kn n with
  |none=>simp
  |some b =>
   have:=(h.kn _ (Zh0 hb)).2;cases b <;> simp at this <;> simp[this]
 |m n j=>simp
 |elt k n j=>simp
end
end Go.Sx
