/- Part Na of the proof. -/
import Derived.WalkKit
import Derived.KernelRfl
import Derived.Deep.AppendLies
import Derived.Laws.BytesArg
set_option linter.unusedVariables false
set_option linter.unusedSimpArgs false
namespace Go.Sx
open Go Go.RowKit
noncomputable def lget? {α:Type} (l:List α):Nat->Option α :=
 List.rec (motive:=fun _=>Nat->Option α) (fun _=>none) (fun a _ ih d=>Nat.rec (motive:=fun _=>Option α) (some a) (fun d' _=>ih d') d) l
noncomputable def lset {α:Type} (l:List α):Nat->α->List α :=
 List.rec (motive:=fun _=>Nat->α->List α) (fun _ _=>[]) (fun a as ih d s=>Nat.rec (motive:=fun _=>List α) (s::as) (fun d' _=>a::ih d' s) d) l
theorem lget?_eq {α:Type}:∀ (l:List α) (d:Nat),lget? l d=l[d]?
 | [],d=>by simp [lget?]
 | a::as,0=>rfl
 | a::as,d+1=>by
  show lget? as d=_
  rw [lget?_eq as d];simp
theorem lset_eq {α:Type}:∀ (l:List α) (d:Nat) (s:α),lset l d s=l.set d s
 | [],d,s=>rfl
 | a::as,0,s=>rfl
 | a::as,d+1,s=>by
  show a::lset as d s=_
  rw [lset_eq as d s];rfl
def lo:IntKind->Int
 | .i8=>-128 | .i16=>-32768 | .i32=>-2147483648 | .i64=>-9223372036854775808 | _=>0
def hi:IntKind->Int
 | .i8=>127 | .i16=>32767 | .i32=>2147483647 | .i64=>9223372036854775807
 | .u8=>255 | .u16=>65535 | .u32=>4294967295 | .u64=>18446744073709551615
def has (k:IntKind) (n:Int):Prop:=lo k<=n/\n<=hi k
instance (k:IntKind) (n:Int):Decidable (has k n):=inferInstanceAs (Decidable (_/\_))
def wr (k:IntKind) (n:Int):Int :=
 match k with
 | .u8=>n%256 | .u16=>n%65536 | .u32=>n%4294967296 | .u64=>n%18446744073709551616
 | .i8=>(n+128)%256-128 | .i16=>(n+32768)%65536-32768 | .i32=>(n+2147483648)%4294967296-2147483648
 | .i64=>(n+9223372036854775808)%18446744073709551616-9223372036854775808
theorem wr_eq (k:IntKind) (n:Int):wr k n=k.wrap n:=by
 cases k <;> simp only [wr,IntKind.wrap,IntKind.bits,IntKind.signed,Bool.false_and,Bool.true_and] <;> simp <;> (try split) <;> omega
theorem wr_has (k:IntKind) (n:Int):has k (wr k n):=by
 cases k <;> simp only [wr,has,lo,hi] <;> omega
theorem wr_id {k:IntKind} {n:Int} (h:has k n):wr k n=n:=by
 cases k <;> simp only [wr,has,lo,hi] at * <;> omega
theorem pow_odd_inj:∀ (x y a b:Nat),2^x*(2*a+1)=2^y*(2*b+1)->x=y/\a=b
 | 0,0,a,b,h=>by omega
 | 0,y+1,a,b,h=>by
  exfalso
  rw [Nat.pow_succ,Nat.mul_comm (2^y) 2,Nat.mul_assoc] at h
  generalize 2^y*(2*b+1)=z at h
  omega
 | x+1,0,a,b,h=>by
  exfalso
  rw [Nat.pow_succ,Nat.mul_comm (2^x) 2,Nat.mul_assoc] at h
  generalize 2^x*(2*a+1)=z at h
  omega
 | x+1,y+1,a,b,h=>by
  rw [Nat.pow_succ,Nat.pow_succ,Nat.mul_comm (2^x) 2,Nat.mul_comm (2^y) 2,Nat.mul_assoc,Nat.mul_assoc] at h
  have:=pow_odd_inj x y a b (Nat.eq_of_mul_eq_mul_left (by omega) h)
  omega
def encN:List Nat->Nat
 | []=>0
 | x::l=>2^x*(2*encN l+1)
theorem encN_pos (x:Nat) (l:List Nat):0<encN (x::l):=Nat.mul_pos (Nat.two_pow_pos _) (by omega)
theorem encN_inj:∀ (l k:List Nat),encN l=encN k->l=k
 | [],[],_=>rfl
 | [],x::k,h=>by have:=encN_pos x k;rw [<- h] at this;exact absurd this (Nat.lt_irrefl _)
 | x::l,[],h=>by have:=encN_pos x l;rw [h] at this;exact absurd this (Nat.lt_irrefl _)
 | x::l,y::k,h=>by
  obtain ⟨h1,h2⟩:=pow_odd_inj _ _ _ _ h
  rw [h1,encN_inj l k h2]
def zig (z:Int):Nat:=if 0<=z then 2*z.toNat else 2*(-z).toNat-1
theorem zig_inj (a b:Int) (h:zig a=zig b):a=b:=by
 unfold zig at h;split at h <;> split at h <;> omega
def enc (l:List Int):Int:=(encN (l.map zig):Nat)
theorem enc_inj {l k:List Int} (h:enc l=enc k):l=k:=by
 have:=encN_inj _ _ (Int.ofNat_inj.1 h)
 exact List.map_inj_right (fun a b h=>zig_inj a b h) |>.1 this
open Classical in
noncomputable def dec (x:Int):List Int:=if h:∃ l,enc l=x then h.choose else []
theorem dec_enc (l:List Int):dec (enc l)=l:=by
 have h:∃ k,enc k=enc l:=⟨l,rfl⟩
 rw [dec,dif_pos h]
 exact enc_inj h.choose_spec
theorem dec_zero:dec 0=[]:=dec_enc []
inductive LL where | num | int (k:IntKind) | bit
 deriving Repr,Inhabited
def LL.sz:LL->Nat | .num=>6 | _=>1
def LL.eq:LL->LL->Bool
 | .num,.num=>true
 | .int k,.int k'=>k==k'
 | .bit,.bit=>true
 | _,_=>false
def llSz:List LL->Nat
 | []=>0
 | l::ls=>l.sz+llSz ls
def llEq:List LL->List LL->Bool
 | [],[]=>true
 | a::as,b::bs=>a.eq b&&llEq as bs
 | _,_=>false
inductive LK where | num | int (k:IntKind) | tup (l:LL) (ls:List LL) | byt
 deriving Repr,Inhabited
def LK.sz:LK->Nat | .num=>6 | .int _=>1 | .tup l ls=>l.sz+llSz ls | .byt=>1
def LK.eq:LK->LK->Bool
 | .num,.num=>true
 | .int k,.int k'=>k==k'
 | .tup a as,.tup b bs=>a.eq b&&llEq as bs
 | .byt,.byt=>true
 | _,_=>false
def p64 (j:Nat):Int:=((2^(64*j):Nat):Int)
def N384:Int:=39402006196394479212279040100143613805079739270465446667948293404245721771497210611414266254884915640806627990306816
inductive A where
 | lit (n:Int) | var (n:Nat) | limb (n j:Nat) | elt (k:IntKind) (n j:Nat)
 deriving DecidableEq,Inhabited,Repr
noncomputable def A.ev (e:Nat->Int):A->Int
 | .lit n=>n
 | .var n=>e n
 | .limb n j=>e n/p64 j%18446744073709551616
 | .elt _ n j=>(dec (e n)).getD j 0
def A.ok (nv:Nat):A->Prop
 | .lit _=>True
 | .var n=>n<nv
 | .limb n _=>n<nv
 | .elt _ n _=>n<nv
def A.good (e:Nat->Int):A->Prop
 | .limb n _=>0<=e n/\e n<N384
 | .elt k n j=>(∀ z∈dec (e n),has k z)/\j<(dec (e n)).length
 | _=>True
def A.wf (nv:Nat) (e:Nat->Int) (a:A):Prop:=a.ok nv/\a.good e
inductive C where
 | int (k:IntKind) (a:A) | bool (a:A) | ptr (id off:Nat) | nil
 | slice (id off len cap:Nat) | nilslice | fn (f:FuncId) (caps:List (Nat×Nat)) | nilfn
 | str (s:ByteArray) | nilmap | niliface | ext (n:Nat) | top
 | ptrS (id off:Nat) (i:A) (n:Nat)
 | sl (id:Nat) | lp (id:Nat) (i:A) (k:LK) | slv (id:Nat) (lo hi:A) (k:LK)
 | sv (a:A)
 | slS (id off:Nat) (hi:A) (n:Nat)
 | ll (a:A) | llp (a i:A) | rol (a:A)
 deriving Inhabited
inductive V where | one (c:C) | agg (cs:List C)
 deriving Inhabited
inductive SV where | vl (x:V) | tup (l:List V)
 deriving Inhabited
structure Row where
 x:A
 x0:A
 k:LK
 elem:TypeId
 own:Bool
 full:Bool
structure Box where
 cells:List C
 elem:TypeId
 own:Bool
 row:Option Row:=none
 fz:Nat×Nat:=(0,0)
structure St where
 tmps:List SV
 boxes:List (Option Box)
 nv:Nat
 kn:List (Nat×Bool)
 gl:List (Nat×Nat)
 lvl:Nat
def St.al (Y:St) (id:Nat):Bool:=match Y.boxes[id]? with | some (some _)=>true | _=>false
inductive KK where | int (k:IntKind) | bit | num | lst (k:LK) | any | arr (k:IntKind) (n:Nat)
 deriving Repr,Inhabited
def LL.has:LL->Int->Prop
 | .num,x=>0<=x/\x<N384
 | .int k,x=>Sx.has k x
 | .bit,x=>0<=x/\x<=1
def llHas:List LL->List Int->Prop
 | [],[]=>True
 | l::ls,x::xs=>l.has x/\llHas ls xs
 | _,_=>False
def LK.has:LK->Int->Prop
 | .num,x=>0<=x/\x<N384
 | .int k,x=>Sx.has k x
 | .tup l ls,x=>llHas (l::ls) (dec x)
 | .byt,x=>(dec x).length<=9223372036854775807/\∀ z∈dec x,Sx.has .u8 z
def LK.hasL (k:LK) (l:List Int):Prop:=l.length<=9223372036854775807/\∀ z∈l,k.has z
def KK.has:KK->Int->Prop
 | .int k,x=>Sx.has k x
 | .bit,x=>0<=x/\x<=1
 | .num,x=>0<=x/\x<N384
 | .lst k,x=>k.hasL (dec x)
 | .any,_=>True
 | .arr k n,x=>(LK.int k).hasL (dec x)/\(dec x).length=n
inductive D where
 | bin (op:BinOp) (k:IntKind) (a b:A)
 | cmp (op:BinOp) (a b:A)
 | conv (k:IntKind) (a:A)
 | not (a:A)
 | app (g j:Nat) (args:List A)
 | join (as:List A)
 | eqs (l:List (A×A))
 | sel (i:A) (as:List A)
 | put (i:A) (j:Nat) (x y:A)
 | llen (x:A)
 | lget (x i:A)
 | lapp (x:A) (ys:List A)
 | lsub (x lo hi:A)
 | lput (x i y:A)
 | lrep (n y:A)
 | lcpy (x y:A)
 | lcat (x y:A)
 | lsame (x y:A)
 deriving Inhabited
def binE (op:BinOp) (k:IntKind) (a b:Int):Int :=
 match op with
 | .add=>wr k (a+b) | .sub=>wr k (a-b) | .mul=>wr k (a*b)
 | .quo=>wr k (a.tdiv b) | .rem=>a.tmod b
 | .and=>wr k ((BitVec.ofInt k.bits a &&& BitVec.ofInt k.bits b).toNat:Int)
 | .or=>wr k ((BitVec.ofInt k.bits a ||| BitVec.ofInt k.bits b).toNat:Int)
 | .xor=>wr k ((BitVec.ofInt k.bits a ^^^ BitVec.ofInt k.bits b).toNat:Int)
 | .andNot=>wr k ((BitVec.ofInt k.bits a &&& ~~~ (BitVec.ofInt k.bits b)).toNat:Int)
 | .shl=>wr k (a*((2^(min b.toNat k.bits):Nat):Int))
 | .shr=>a.fdiv ((2^(min b.toNat k.bits):Nat):Int)
 | _=>0
def cmpE (op:BinOp) (a b:Int):Bool :=
 match op with
 | .eql=>a==b | .neq=>a != b | .lss=>decide (a<b) | .leq=>decide (a<=b) | .gtr=>decide (a > b) | .geq=>decide (a≥b)
 | _=>false
def joinE:List Int->Int
 | []=>0
 | x::r=>x+18446744073709551616*joinE r
def b2i (b:Bool):Int:=if b then 1 else 0
inductive L where | int (k:IntKind) | bool | num | cst (c:C) | lst (k:LK) | arr (k:IntKind) (n:Nat)
def L.n:L->Nat | .cst _=>0 | _=>1
inductive Sh where | one (l:L) | agg (ls:List L) | ptr (ls:List L) | lst (k:LK) | lent (k:LK) | ll
inductive Oh where | one (l:L) | agg (ls:List L) | box (elem:TypeId) (ls:List L) | lst (elem:TypeId) (k:LK) | lent (elem:TypeId) (k:LK) | frz (elem:TypeId) (ls:List L)
structure K where
 fn:FuncId
 ext:Bool
 ins:List Sh
 outs:List Oh
 pre:List Int->Prop
 sem:List Int->List Int
 fold:Bool:=false
noncomputable def D.ev (T:List K) (e:Nat->Int):D->Int
 | .bin op k a b=>binE op k (a.ev e) (b.ev e)
 | .cmp op a b=>b2i (cmpE op (a.ev e) (b.ev e))
 | .conv k a=>wr k (a.ev e)
 | .not a=>if a.ev e=0 then 1 else 0
 | .app g j args=>match T[g]? with | some X=>(X.sem (args.map (·.ev e))).getD j 0 | none=>0
 | .join as=>joinE (as.map (·.ev e))
 | .eqs l=>b2i (l.all fun p=>p.1.ev e==p.2.ev e)
 | .sel i as=>(as.map (·.ev e)).getD (i.ev e).toNat 0
 | .put i j x y=>if i.ev e=(j:Int) then x.ev e else y.ev e
 | .llen x=>((dec (x.ev e)).length:Int)
 | .lget x i=>(dec (x.ev e)).getD (i.ev e).toNat 0
 | .lapp x ys=>enc (dec (x.ev e)++ys.map (·.ev e))
 | .lsub x lo hi=>enc (((dec (x.ev e)).take (hi.ev e).toNat).drop (lo.ev e).toNat)
 | .lput x i y=>enc ((dec (x.ev e)).set (i.ev e).toNat (y.ev e))
 | .lrep n y=>enc (List.replicate (n.ev e).toNat (y.ev e))
 | .lcpy x y=>enc ((dec (y.ev e)).take (dec (x.ev e)).length++(dec (x.ev e)).drop (dec (y.ev e)).length)
 | .lcat x y=>enc (dec (x.ev e)++dec (y.ev e))
 | .lsame x y=>b2i (dec (x.ev e)==dec (y.ev e))
def limbs (x:Int):List Value:=(List.range 6).map fun j=>.int .u64 (x/p64 j%18446744073709551616)
def LL.vals:LL->Int->List Value
 | .num,x=>limbs x
 | .int k,x=>[.int k x]
 | .bit,x=>[.bool (decide (x≠0))]
def llVals:List LL->List Int->List Value
 | [],_=>[]
 | l::ls,xs=>l.vals (xs.headD 0)++llVals ls xs.tail
noncomputable def LK.vals:LK->Int->List Value
 | .num,x=>limbs x
 | .int k,x=>[.int k x]
 | .tup l ls,x=>llVals (l::ls) (dec x)
 | .byt,x=>[.bool (decide (x≠0))]
noncomputable def flat (k:LK) (l:List Int):List Value:=l.flatMap k.vals
def RoRow (w0 w:World) (k:LK) (v:Value) (l:List Int):Prop :=
 (v=.slice none 0 0/\l=[])∨∃ ad cap,v=.slice (some ad) l.length cap/\(l=[]∨ad.block<w0.heap.size)/\l.length<=cap/\∀ (j:Nat) u,(flat k l)[j]?=some u->w.cell? (ad.add j)=some u
def RoLol (w:World) (v:Value) (l:List Int):Prop :=
 LK.hasL .byt l/\((v=.slice none 0 0/\l=[])∨∃ ad cap,v=.slice (some ad) l.length cap/\ad.block<w.heap.size/\l.length<=cap/\∀ (j:Nat) x,l[j]?=some x->∃ u,w.cell? (ad.add j)=some u/\RoRow w w (.int .u8) u (dec x))
structure Xt where
 val:Nat->Value:=fun _=>default
 base:World
structure M where
 env:Nat->Int
 rho:Nat->Nat×Nat
 ext:Xt
 sv:Nat->Value:=fun _=>.nilFunc
def slAt:Value->Addr
 | .slice (some a) _ _=>a
 | _=>⟨0,0,none⟩
def lenV:Value->Nat
 | .slice _ n _=>n
 | _=>0
def subV (s:Nat):Value->Nat->Nat->Value
 | .slice a _ c,lo,hi=>.slice (if c=lo then a else a.map (·.add (lo*s))) (hi-lo) (c-lo)
 | v,_,_=>v
def isView (s:Nat) (v':Value) (lo hi:Nat) (v:Value):Prop :=
 v=subV s v' lo hi∨(lo≠0/\hi=lo/\∃ ad n d,v'=.slice (some ad) n lo/\v=.slice (some (Addr.add ad d)) 0 0)
theorem isView.zero {s:Nat} {v':Value} {hi:Nat} {v:Value} (h:isView s v' 0 hi v):v=subV s v' 0 hi:=by
 rcases h with h | ⟨h,_⟩
 ·exact h
 ·exact absurd rfl h
def fullV:Value->Prop
 | .slice _ n c=>n=c
 | _=>True
def M.at (m:M) (id off:Nat):Addr:=⟨(m.rho id).1,(m.rho id).2+off,none⟩
def C.rel (m:M) (nv:Nat) (al:Nat->Bool) (c:C) (v:Value):Prop :=
 match c with
 | .int k a=>a.wf nv m.env/\has k (a.ev m.env)/\v=.int k (a.ev m.env)
 | .bool a=>a.wf nv m.env/\(0<=a.ev m.env/\a.ev m.env<=1)/\v=.bool (decide (a.ev m.env≠0))
 | .ptr id off=>al id=true/\v=.pointer (some (m.at id off))
 | .nil=>v=.pointer none
 | .slice id off len cap=>al id=true/\v=.slice (some (m.at id off)) len cap
 | .nilslice=>v=.slice none 0 0
 | .fn f caps=>(∀ p∈caps,al p.1=true)/\v=.func (.func f) #[] (caps.map fun p=>Value.pointer (some (m.at p.1 p.2))).toArray
 | .nilfn=>v=.nilFunc
 | .str s=>v=.string s
 | .nilmap=>v=.map none
 | .niliface=>v=.nilIface
 | .ext n=>v=m.ext.val n/\v.oneCell'=true
 | .top=>True
 | .ptrS id off i n=>al id=true/\i.wf nv m.env/\(0<=i.ev m.env/\i.ev m.env<(n:Int))/\v=.pointer (some (m.at id (off+(i.ev m.env).toNat)))
 | .sl id=>al id=true/\v=m.sv id/\v.oneCell'=true
 | .lp id i k=>al id=true/\i.wf nv m.env/\(0<=i.ev m.env/\i.ev m.env<(lenV (m.sv id):Int))/\v=.pointer (some ((slAt (m.sv id)).add ((i.ev m.env).toNat*k.sz)))
 | .slv id lo hi k=>al id=true/\lo.wf nv m.env/\hi.wf nv m.env/\(0<=lo.ev m.env/\lo.ev m.env<=hi.ev m.env/\hi.ev m.env<=(lenV (m.sv id):Int)/\hi.ev m.env<=9223372036854775807) /\
  isView k.sz (m.sv id) (lo.ev m.env).toNat (hi.ev m.env).toNat v/\v.oneCell'=true
 | .sv a=>a.wf nv m.env/\(LK.int .u8).hasL (dec (a.ev m.env))/\v=.string (Go.strOfNums (dec (a.ev m.env)))
 | .ll a=>a.wf nv m.env/\RoLol m.ext.base v (dec (a.ev m.env))/\v.oneCell'=true
 | .llp a i=>a.wf nv m.env/\i.wf nv m.env/\(0<=i.ev m.env/\i.ev m.env<((dec (a.ev m.env)).length:Int))/\∃ s,RoLol m.ext.base s (dec (a.ev m.env))/\v=.pointer (some ((slAt s).add (i.ev m.env).toNat))
 | .rol a=>a.wf nv m.env/\(LK.int .u8).hasL (dec (a.ev m.env))/\RoRow m.ext.base m.ext.base (.int .u8) v (dec (a.ev m.env))/\v.oneCell'=true
 | .slS id off hi n=>al id=true/\hi.wf nv m.env/\(0<=hi.ev m.env/\hi.ev m.env<=(n:Int))/\v=.slice (some (m.at id off)) (hi.ev m.env).toNat n
def Rels (m:M) (nv:Nat) (al:Nat->Bool):List C->List Value->Prop
 | [],[]=>True
 | c::cs,v::vs=>c.rel m nv al v/\Rels m nv al cs vs
 | _,_=>False
def V.rel (m:M) (nv:Nat) (al:Nat->Bool):V->Value->Prop
 | .one c,v=>c.rel m nv al v
 | .agg cs,v=>∃ vs:List Value,v=.agg vs.toArray/\Rels m nv al cs vs
def VRels (m:M) (nv:Nat) (al:Nat->Bool):List V->List Value->Prop
 | [],[]=>True
 | c::cs,v::vs=>c.rel m nv al v/\VRels m nv al cs vs
 | _,_=>False
def SV.rel (m:M) (nv:Nat) (al:Nat->Bool):SV->Value->Prop
 | .vl x,v=>x.rel m nv al v
 | .tup l,v=>∃ vs:List Value,v=.tuple vs.toArray/\VRels m nv al l vs
def RowAt (w0 w:World) (r:Row) (v:Value) (l:List Int):Prop :=
 r.k.hasL l/\(if r.own then w.ownsRow w0.heap.size r.elem r.k.sz v l.length (flat r.k l) else RoRow w0 w r.k v l)/\(r.full=true->fullV v)
structure Rep (w0:World) (m:M) (Y:St) (a:Act) (w:World):Prop where
 defers:a.defers=[]
 size:a.tmps.size=Y.tmps.length
 tmp:∀ (i:Nat) (s:SV),Y.tmps[i]?=some s->∃ v,a.tmps[i]?=some v/\s.rel m Y.nv Y.al v
 below:Below w0.heap.size w0 w
 own:∀ (id:Nat) (b:Box),Y.boxes[id]?=some (some b)->b.own=true ->
  (m.rho id).2=0/\w0.heap.size<=(m.rho id).1/\∃ vs:List Value,w.heap[(m.rho id).1]?=some (.cells vs.toArray b.elem b.fz)/\Rels m Y.nv Y.al b.cells vs
 ro:∀ (id:Nat) (b:Box),Y.boxes[id]?=some (some b)->b.own=false ->
  b.cells=[]∨(m.rho id).1<w0.heap.size/\∀ j c,b.cells[j]?=some c->∃ v,w.cell? (m.at id j)=some v/\c.rel m Y.nv Y.al v
 inj:∀ (id id':Nat) (b b':Box),Y.boxes[id]?=some (some b)->Y.boxes[id']?=some (some b')->b.own=true->b'.own=true->id≠id'->(m.rho id).1≠(m.rho id').1
 kn:∀ p∈Y.kn,p.1<Y.nv/\decide (m.env p.1≠0)=p.2
 gl:∀ p∈Y.gl,Y.al p.2=true/\m.rho p.2=(p.1,0)
 rows:∀ (id:Nat) (b:Box) (r:Row),Y.boxes[id]?=some (some b)->b.row=some r ->
  r.x.wf Y.nv m.env/\r.x0.wf Y.nv m.env/\(dec (r.x0.ev m.env)).length=(dec (r.x.ev m.env)).length/\RowAt w0 w r (m.sv id) (dec (r.x.ev m.env))
 rbox:∀ (id:Nat) (b:Box) (r:Row),Y.boxes[id]?=some (some b)->b.row=some r->r.own=true->∀ (id':Nat) (b':Box),Y.boxes[id']?=some (some b')->b'.own=true->(m.sv id).ownBlock≠some (m.rho id').1
 rsep:∀ (id:Nat) (b:Box) (r:Row) (id':Nat) (b':Box) (r':Row),Y.boxes[id]?=some (some b)->b.row=some r->Y.boxes[id']?=some (some b')->b'.row=some r'->r.own=true->r'.own=true->id≠id' ->
  (m.sv id).ownBlock=none∨(m.sv id').ownBlock≠(m.sv id).ownBlock
 base:m.ext.base=w0
def cstV:C->Value
 | .int k (.lit n)=>.int k n
 | .bool (.lit n)=>.bool (decide (n≠0))
 | .fn f _=>.func (.func f) #[] #[]
 | .str s=>.string s
 | .nilslice=>.slice none 0 0
 | .nilfn=>.nilFunc
 | .nilmap=>.map none
 | .niliface=>.nilIface
 | _=>.pointer none
noncomputable def lvals:List L->List Int->List Value
 | [],_=>[]
 | .cst c::ls,xs=>cstV c::lvals ls xs
 | .int k::ls,x::xs=>.int k x::lvals ls xs
 | .bool::ls,x::xs=>.bool (decide (x≠0))::lvals ls xs
 | .num::ls,x::xs=>limbs x++lvals ls xs
 | .lst _::ls,_::xs=>lvals ls xs
 | .arr k _::ls,x::xs=>(dec x).map (.int k)++lvals ls xs
 | _::_,[]=>[]
def lhas:List L->List Int->Prop
 | [],[]=>True
 | .cst _::ls,xs=>lhas ls xs
 | .int k::ls,x::xs=>has k x/\lhas ls xs
 | .bool::ls,x::xs=>(0<=x/\x<=1)/\lhas ls xs
 | .num::ls,x::xs=>(0<=x/\x<N384)/\lhas ls xs
 | .lst k::ls,x::xs=>k.hasL (dec x)/\lhas ls xs
 | .arr k n::ls,x::xs=>((LK.int k).hasL (dec x)/\(dec x).length=n)/\lhas ls xs
 | _,_=>False
def lcount:List L->Nat
 | []=>0
 | l::ls=>l.n+lcount ls
def Sh.leaves:Sh->List L | .one l=>[l] | .agg ls=>ls | .ptr ls=>ls | .lst k=>[.lst k] | .lent k=>[.lst k,.int .i64] | .ll=>[.lst .byt]
def Oh.leaves:Oh->List L | .one l=>[l] | .agg ls=>ls | .box _ ls=>ls | .lst _ k=>[.lst k] | .lent _ k=>[.lst k,.int .i64] | .frz _ ls=>ls
def lentAt (k:LK) (Q:Value->Prop) (l:List Int) (n:Int) (v:Value):Prop:=∃ v',Q v'/\fullV v'/\(0<=n/\n<=(l.length:Int))/\v=subV k.sz v' 0 n.toNat
def Sh.rel (w:World) (xs:List Int):Sh->Value->Prop
 | .one l,v=>[v]=lvals [l] xs
 | .agg ls,v=>v=.agg (lvals ls xs).toArray
 | .ptr ls,v=>∃ b off,v=.pointer (some ⟨b,off,none⟩)/\∀ j u,(lvals ls xs)[j]?=some u->w.cell? ⟨b,off+j,none⟩=some u
 | .lst k,v=>RoRow w w k v (dec (xs.headD 0))
 | .lent k,v=>lentAt k (fun v'=>RoRow w w k v' (dec (xs.headD 0))) (dec (xs.headD 0)) (xs.getD 1 0) v
 | .ll,v=>RoLol w v (dec (xs.headD 0))
def insRel (w:World):List Sh->List Int->List Value->Prop
 | [],xs,vs=>xs=[]/\vs=[]
 | s::ss,xs,v::vs=>lhas s.leaves (xs.take (lcount s.leaves))/\s.rel w (xs.take (lcount s.leaves)) v/\insRel w ss (xs.drop (lcount s.leaves)) vs
 | _::_,_,[]=>False
def Oh.rel (n0:Nat) (w:World) (xs:List Int):Oh->Value->Prop
 | .one l,v=>[v]=lvals [l] xs
 | .agg ls,v=>v=.agg (lvals ls xs).toArray
 | .box e ls,v=>∃ b,n0<=b/\v=.pointer (some ⟨b,0,none⟩)/\w.heap[b]?=some (.cells (lvals ls xs).toArray e (0,0))
 | .lst e k,v=>w.ownsRow n0 e k.sz v (dec (xs.headD 0)).length (flat k (dec (xs.headD 0)))
 | .lent e k,v=>lentAt k (fun v'=>w.ownsRow n0 e k.sz v' (dec (xs.headD 0)).length (flat k (dec (xs.headD 0)))) (dec (xs.headD 0)) (xs.getD 1 0) v
 | .frz e ls,v=>∃ b,n0<=b/\v=.slice (some ⟨b,0,none⟩) (lvals ls xs).length (lvals ls xs).length/\w.heap[b]?=some (.cells (lvals ls xs).toArray e ((lvals ls xs).length,(lvals ls xs).length+1))
def outsRel (n0:Nat) (w:World):List Oh->List Int->List Value->Prop
 | [],xs,vs=>xs=[]/\vs=[]
 | s::ss,xs,v::vs=>lhas s.leaves (xs.take (lcount s.leaves))/\s.rel n0 w (xs.take (lcount s.leaves)) v/\outsRel n0 w ss (xs.drop (lcount s.leaves)) vs
 | _::_,_,[]=>False
def retV:List Value->Value
 | [v]=>v
 | vs=>.tuple vs.toArray
def hasB (k:IntKind) (n:Int):Bool:=decide (lo k<=n)&&decide (n<=hi k)
def cstB:C->Bool
 | .nil | .nilslice | .nilfn | .nilmap | .niliface | .str _=>true
 | .fn _ []=>true
 | .int k (.lit n)=>hasB k n
 | .bool (.lit n)=>n==0 || n==1
 | _=>false
abbrev Gls:=List (Nat×List C)
def GlobOk (gls:Gls) (w:World):Prop:=∀ p∈gls,p.1<w.heap.size/\p.2.all cstB=true/\∀ (j:Nat) c,p.2[j]?=some c->w.cell? ⟨p.1,j,none⟩=some (cstV c)
def K.at (P:Program) (X:K) (w:World):Prop :=
 ∀ (args:List Value) (xs:List Int),insRel w X.ins xs args->X.pre xs ->
  if X.ext then ∃ vs,(callFunc X.fn args.toArray).run P w=.ok (.value (retV vs)) w/\outsRel w.heap.size w X.outs (X.sem xs) vs
  else (callFunc X.fn args.toArray).run P w=.ok (.enter X.fn args.toArray) w /\
   Calls P X.fn args.toArray w fun e w'=>∃ vs,e=.returned (retV vs)/\outsRel w.heap.size w' X.outs (X.sem xs) vs/\Below w.heap.size w w'
def K.okAt (P:Program) (X:K) (w0:World):Prop:=∀ w,Below w0.heap.size w0 w->X.at P w
def K.ok (P:Program) (X:K) (gls:Gls:=[]):Prop:=∀ w,GlobOk gls w->X.at P w
end Go.Sx
