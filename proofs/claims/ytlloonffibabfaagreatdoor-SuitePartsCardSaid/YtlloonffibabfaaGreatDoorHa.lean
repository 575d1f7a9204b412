/- Part Ha of the proof. -/
import Derived.WalkKit
import Derived.KernelRfl
import Derived.Deep.AppendLies
import Derived.Laws.BytesArg
set_option linter.unusedVariables false
set_option linter.unusedSimpArgs false
namespace Go.Sx
open Go Go.RowKit
noncomputable def lget?{α:Type}(l:List α):Nat->Option α :=
 List.rec (motive:=fun _=>Nat->Option α) (fun _=>none) (fun a _ ih d=>Nat.rec (motive:=fun _=>Option α) (some a) (fun d' _=>ih d') d) l
noncomputable def Qot{α:Type}(l:List α):Nat->α->List α :=
 List.rec (motive:=fun _=>Nat->α->List α) (fun _ _=>[]) (fun a as ih d s=>Nat.rec (motive:=fun _=>List α) (s::as) (fun d' _=>a::ih d' s) d) l
theorem lget?_eq{α:Type}:∀(l:List α) (d:Nat),lget? l d=l[d]?
 |[],d=>by simp[lget?]
 |a::as,0=>rfl
 |a::as,d+1=>by
  show lget? as d=_;rw[lget?_eq as d];simp
theorem Vn{α:Type}:∀(l:List α) (d:Nat) (s:α),Qot l d s=l.set d s
 |[],d,s=>rfl
 |a::as,0,s=>rfl
 |a::as,d+1,s=>by
  show a::Qot as d s=_;rw[Vn as d s];rfl
def lo:IntKind->Int
 |.i8=>-128|.i16=>-32768|.i32=>-2147483648|.i64=>-9223372036854775808|_=>0
def hi:IntKind->Int
 |.i8=>127|.i16=>32767|.i32=>2147483647|.i64=>9223372036854775807
 |.u8=>255|.u16=>65535|.u32=>4294967295|.u64=>18446744073709551615
def has(k:IntKind)(n:Int):Prop:=lo k<=n/\n<=hi k
instance  (k:IntKind)(n:Int):Decidable (has k n):=inferInstanceAs (Decidable (_/\_))
def wr(k:IntKind)(n:Int):Int :=
 match k with
 |.u8=>n%256|.u16=>n%65536|.u32=>n%4294967296|.u64=>n%18446744073709551616
 |.i8=>(n+128)%256-128|.i16=>(n+32768)%65536-32768|.i32=>(n+2147483648)%4294967296-2147483648
 |.i64=>(n+9223372036854775808)%18446744073709551616-9223372036854775808
theorem Qtp(k:IntKind)(n:Int):wr k n=k.wrap n:=by
 cases k <;> simp only[wr,IntKind.wrap,IntKind.bits,IntKind.signed,Bool.false_and,Bool.true_and] <;> simp <;> (try split) <;> omega
theorem W7(k:IntKind)(n:Int):has k (wr k n):=by
 cases k <;> simp only[wr,has,lo,hi] <;> omega
theorem Qj7{k:IntKind}{n:Int}(h:has k n):wr k n=n:=by
 cases k <;> simp only[wr,has,lo,hi]at * <;> omega
theorem Qgr:∀(x y a b:Nat),2^x*(2*a+1)=2^y*(2*b+1)->x=y/\a=b
 |0,0,a,b,h=>by omega
 |0,y+1,a,b,h=>by
  exfalso;rw[Nat.pow_succ,Nat.mul_comm (2^y) 2,Nat.mul_assoc]at h;generalize 2^y*(2*b+1)=z at h;omega
 |x+1,0,a,b,h=>by
  exfalso;rw[Nat.pow_succ,Nat.mul_comm (2^x) 2,Nat.mul_assoc]at h;generalize 2^x*(2*a+1)=z at h;omega
 |x+1,y+1,a,b,h=>by
  rw[Nat.pow_succ,Nat.pow_succ,Nat.mul_comm (2^x) 2,Nat.mul_comm (2^y) 2,Nat.mul_assoc,Nat.mul_assoc]at h;have:=Qgr x y a b (Nat.eq_of_mul_eq_mul_left (by omega) h);omega
def Zgu:List Nat->Nat
 |[]=>0
 |x::l=>2^x*(2*Zgu l+1)
theorem Qsi(x:Nat)(l:List Nat):0<Zgu (x::l):=Nat.mul_pos (Nat.two_pow_pos _) (by omega)
theorem Qtk:∀(l k:List Nat),Zgu l=Zgu k->l=k
 |[],[],_=>rfl
 |[],x::k,h=>by have:=Qsi x k;rw[<- h]at this;exact absurd this (Nat.lt_irrefl _)
 |x::l,[],h=>by have:=Qsi x l;rw[h]at this;exact absurd this (Nat.lt_irrefl _)
 |x::l,y::k,h=>by
  obtain⟨h1,h2⟩:=Qgr _ _ _ _ h;rw[h1,Qtk l k h2]
def zig(z:Int):Nat:=if 0<=z then 2*z.toNat else 2*(-z).toNat-1
theorem Zot(a b:Int)(h:zig a=zig b):a=b:=by
 unfold zig at h;split at h <;> split at h <;> omega
def enc(l:List Int):Int:=(Zgu (l.map zig):Nat)
theorem Zod{l k:List Int}(h:enc l=enc k):l=k:=by
 have:=Qtk _ _ (Int.ofNat_inj.1 h);exact List.map_inj_right (fun a b h=>Zot a b h) |>.1 this
open Classical in
noncomputable def dec(x:Int):List Int:=if h:∃l,enc l=x then h.choose else[]
theorem Qu(l:List Int):dec (enc l)=l:=by
 have h:∃k,enc k=enc l:=⟨l,rfl⟩
 rw[dec,dif_pos h];exact Zod h.choose_spec
theorem Qv:dec 0=[]:=Qu []
inductive LL where|num|int (k:IntKind)|bit
 deriving Repr,Inhabited
def LL.sz:LL->Nat|.num=>6|_=>1
def LL.eq:LL->LL->Bool
 |.num,.num=>true
 |.int k,.int k'=>k==k'
 |.bit,.bit=>true
 |_,_=>false
def Zep:List LL->Nat
 |[]=>0
 |l::ls=>l.sz+Zep ls
def Zm3:List LL->List LL->Bool
 |[],[]=>true
 |a::as,b::bs=>a.eq b&&Zm3 as bs
 |_,_=>false
inductive LK where|num|int (k:IntKind)|tup (l:LL) (ls:List LL)|byt
 deriving Repr,Inhabited
def LK.sz:LK->Nat|.num=>6|.int _=>1|.tup l ls=>l.sz+Zep ls|.byt=>1
def LK.eq:LK->LK->Bool
 |.num,.num=>true
 |.int k,.int k'=>k==k'
 |.tup a as,.tup b bs=>a.eq b&&Zm3 as bs
 |.byt,.byt=>true
 |_,_=>false
def p64(j:Nat):Int:=((2^(64*j):Nat):Int)
def Qw:Int:=39402006196394479212279040100143613805079739270465446667948293404245721771497210611414266254884915640806627990306816
inductive A where
 |lit (n:Int)|v (n:Nat)|m (n j:Nat)|elt (k:IntKind) (n j:Nat)
 deriving DecidableEq,Inhabited,Repr
noncomputable def A.ev(e:Nat->Int):A->Int
 |.lit n=>n
 |.v n=>e n
 |.m n j=>e n/p64 j%18446744073709551616
 |.elt _ n j=>(dec (e n)).getD j 0
def A.ok(nv:Nat):A->Prop
 |.lit _=>True
 |.v n=>n<nv
 |.m n _=>n<nv
 |.elt _ n _=>n<nv
def A.Xbv(e:Nat->Int):A->Prop
 |.m n _=>0<=e n/\e n<Qw
 |.elt k n j=>(∀z∈dec (e n),has k z)/\j<(dec (e n)).length
 |_=>True
def A.wf(nv:Nat)(e:Nat->Int)(a:A):Prop:=a.ok nv/\a.Xbv e
inductive C where
 |int (k:IntKind) (a:A)|bool (a:A)|ptr (id off:Nat)|nil
 |slice (id off len cap:Nat)|nilslice|fn (f:FuncId) (caps:List (Nat×Nat))|nilfn
 |str (s:ByteArray)|nilmap|niliface|ext (n:Nat)|top
 |ptrS (id off:Nat) (i:A) (n:Nat)
 |sl (id:Nat)|lp (id:Nat) (i:A) (k:LK)|slv (id:Nat) (lo hi:A) (k:LK)
 |sv (a:A)
 |slS (id off:Nat) (hi:A) (n:Nat)
 |ll (a:A)|llp (a i:A)|rol (a:A)
 deriving Inhabited
inductive V where|one (c:C)|agg (cs:List C)
 deriving Inhabited
inductive SV where|vl (x:V)|tup (l:List V)
 deriving Inhabited
structure Row where
 x:A
 x0:A
 k:LK
 elem:TypeId
 own:Bool
 full:Bool
structure Box where
 cells:List C
 elem:TypeId
 own:Bool
 row:Option Row:=none
 fz:Nat×Nat:=(0,0)
structure St where
 tmps:List SV
 boxes:List (Option Box)
 nv:Nat
 kn:List (Nat×Bool)
 gl:List (Nat×Nat)
 lvl:Nat
def St.al(Y:St)(id:Nat):Bool:=match Y.boxes[id]? with|some (some _)=>true|_=>false
inductive KK where|int (k:IntKind)|bit|num|lst (k:LK)|any|arr (k:IntKind) (n:Nat)
 deriving Repr,Inhabited
def LL.has:LL->Int->Prop
 |.num,x=>0<=x/\x<Qw
 |.int k,x=>Sx.has k x
 |.bit,x=>0<=x/\x<=1
def Qn2:List LL->List Int->Prop
 |[],[]=>True
 |l::ls,x::xs=>l.has x/\Qn2 ls xs
 |_,_=>False
def LK.has:LK->Int->Prop
 |.num,x=>0<=x/\x<Qw
 |.int k,x=>Sx.has k x
 |.tup l ls,x=>Qn2 (l::ls) (dec x)
 |.byt,x=>(dec x).length<=9223372036854775807/\∀z∈dec x,Sx.has .u8 z
def LK.hasL(k:LK)(l:List Int):Prop:=l.length<=9223372036854775807/\∀z∈l,k.has z
def KK.has:KK->Int->Prop
 |.int k,x=>Sx.has k x
 |.bit,x=>0<=x/\x<=1
 |.num,x=>0<=x/\x<Qw
 |.lst k,x=>k.hasL (dec x)
 |.any,_=>True
 |.arr k n,x=>(LK.int k).hasL (dec x)/\(dec x).length=n
inductive D where
 |bin (op:BinOp) (k:IntKind) (a b:A)
 |cmp (op:BinOp) (a b:A)
 |conv (k:IntKind) (a:A)
 |not (a:A)
 |app (g j:Nat) (args:List A)
 |join (as:List A)
 |eqs (l:List (A×A))
 |sel (i:A) (as:List A)
 |put (i:A) (j:Nat) (x y:A)
 |llen (x:A)
 |lget (x i:A)
 |lapp (x:A) (ys:List A)
 |lsub (x lo hi:A)
 |lput (x i y:A)
 |lrep (n y:A)
 |lcpy (x y:A)
 |lcat (x y:A)
 |lsame (x y:A)
 deriving Inhabited
def Qm(op:BinOp)(k:IntKind)(a b:Int):Int :=
 match op with
 |.add=>wr k (a+b)|.sub=>wr k (a-b)|.mul=>wr k (a*b)
 |.quo=>wr k (a.tdiv b)|.rem=>a.tmod b
 |.and=>wr k ((BitVec.ofInt k.bits a &&& BitVec.ofInt k.bits b).toNat:Int)
 |.or=>wr k ((BitVec.ofInt k.bits a ||| BitVec.ofInt k.bits b).toNat:Int)
 |.xor=>wr k ((BitVec.ofInt k.bits a ^^^ BitVec.ofInt k.bits b).toNat:Int)
 |.andNot=>wr k ((BitVec.ofInt k.bits a &&& ~~~ (BitVec.ofInt k.bits b)).toNat:Int)
 |.shl=>wr k (a*((2^(min b.toNat k.bits):Nat):Int))
 |.shr=>a.fdiv ((2^(min b.toNat k.bits):Nat):Int)
 |_=>0
def Js(op:BinOp)(a b:Int):Bool :=
 match op with
 |.eql=>a==b|.neq=>a != b|.lss=>decide (a<b)|.leq=>decide (a<=b)|.gtr=>decide (a > b)|.geq=>decide (a≥b)
 |_=>false
def Y6:List Int->Int
 |[]=>0
 |x::r=>x+18446744073709551616*Y6 r
def Xo(b:Bool):Int:=if b then 1 else 0
inductive L where|int (k:IntKind)|bool|num|cst (c:C)|lst (k:LK)|arr (k:IntKind) (n:Nat)
def L.n:L->Nat|.cst _=>0|_=>1
inductive Sh where|one (l:L)|agg (ls:List L)|ptr (ls:List L)|lst (k:LK)|lent (k:LK)|ll
inductive Oh where|one (l:L)|agg (ls:List L)|box (elem:TypeId) (ls:List L)|lst (elem:TypeId) (k:LK)|lent (elem:TypeId) (k:LK)
structure K where
 fn:FuncId
 ext:Bool
 ins:List Sh
 outs:List Oh
 pre:List Int->Prop
 sem:List Int->List Int
 fold:Bool:=false
noncomputable def D.ev(T:List K)(e:Nat->Int):D->Int
 |.bin op k a b=>Qm op k (a.ev e) (b.ev e)
 |.cmp op a b=>Xo (Js op (a.ev e) (b.ev e))
 |.conv k a=>wr k (a.ev e)
 |.not a=>if a.ev e=0 then 1 else 0
 |.app g j args=>match T[g]? with|some X=>(X.sem (args.map (·.ev e))).getD j 0|none=>0
 |.join as=>Y6 (as.map (·.ev e))
 |.eqs l=>Xo (l.all fun p=>p.1.ev e==p.2.ev e)
 |.sel i as=>(as.map (·.ev e)).getD (i.ev e).toNat 0
 |.put i j x y=>if i.ev e=(j:Int)then x.ev e else y.ev e
 |.llen x=>((dec (x.ev e)).length:Int)
 |.lget x i=>(dec (x.ev e)).getD (i.ev e).toNat 0
 |.lapp x ys=>enc (dec (x.ev e)++ys.map (·.ev e))
 |.lsub x lo hi=>enc (((dec (x.ev e)).take (hi.ev e).toNat).drop (lo.ev e).toNat)
 |.lput x i y=>enc ((dec (x.ev e)).set (i.ev e).toNat (y.ev e))
 |.lrep n y=>enc (List.replicate (n.ev e).toNat (y.ev e))
 |.lcpy x y=>enc ((dec (y.ev e)).take (dec (x.ev e)).length++(dec (x.ev e)).drop (dec (y.ev e)).length)
 |.lcat x y=>enc (dec (x.ev e)++dec (y.ev e))
 |.lsame x y=>Xo (dec (x.ev e)==dec (y.ev e))
def Jw(x:Int):List Value:=(List.range 6).map fun j=>.int .u64 (x/p64 j%18446744073709551616)
def LL.Xa9:LL->Int->List Value
 |.num,x=>Jw x
 |.int k,x=>[.int k x]
 |.bit,x=>[.bool (decide (x≠0))]
def Va:List LL->List Int->List Value
 |[],_=>[]
 |l::ls,xs=>l.Xa9 (xs.headD 0)++Va ls xs.tail
noncomputable def LK.Xa9:LK->Int->List Value
 |.num,x=>Jw x
 |.int k,x=>[.int k x]
 |.tup l ls,x=>Va (l::ls) (dec x)
 |.byt,x=>[.bool (decide (x≠0))]
noncomputable def flat(k:LK)(l:List Int):List Value:=l.flatMap k.Xa9
def RoRow(w0 w:World)(k:LK)(v:Value)(l:List Int):Prop :=
 (v=.slice none 0 0/\l=[])∨∃ad cap,v=.slice (some ad) l.length cap/\(l=[]∨ad.block<w0.heap.size)/\l.length<=cap/\∀(j:Nat) u,(flat k l)[j]?=some u->w.cell? (ad.add j)=some u
def Qa2(w:World)(v:Value)(l:List Int):Prop :=
 LK.hasL .byt l/\((v=.slice none 0 0/\l=[])∨∃ad cap,v=.slice (some ad) l.length cap/\ad.block<w.heap.size/\l.length<=cap/\∀(j:Nat) x,l[j]?=some x->∃u,w.cell? (ad.add j)=some u/\RoRow w w (.int .u8) u (dec x))
structure Xt where
 val:Nat->Value:=fun _=>default
 base:World
structure M where
 env:Nat->Int
 rho:Nat->Nat×Nat
 ext:Xt
 sv:Nat->Value:=fun _=>.nilFunc
def Qhs:Value->Addr
 |.slice (some a) _ _=>a
 |_=>⟨0,0,none⟩
def Xbh:Value->Nat
 |.slice _ n _=>n
 |_=>0
def Up(s:Nat):Value->Nat->Nat->Value
 |.slice a _ c,lo,hi=>.slice (if c=lo then a else a.map (·.add (lo*s))) (hi-lo) (c-lo)
 |v,_,_=>v
def W9(s:Nat)(v':Value)(lo hi:Nat)(v:Value):Prop :=
 v=Up s v' lo hi∨(lo≠0/\hi=lo/\∃ad n d,v'=.slice (some ad) n lo/\v=.slice (some (Addr.add ad d)) 0 0)
theorem W9.zero{s:Nat}{v':Value}{hi:Nat}{v:Value}(h:W9 s v' 0 hi v):v=Up s v' 0 hi:=by
 rcases h with h|⟨h,_⟩
 ·exact h
 ·exact absurd rfl h
def Qjq:Value->Prop
 |.slice _ n c=>n=c
 |_=>True
def M.at(m:M)(id off:Nat):Addr:=⟨(m.rho id).1,(m.rho id).2+off,none⟩
def C.rel(m:M)(nv:Nat)(al:Nat->Bool)(c:C)(v:Value):Prop :=
 match c with
 |.int k a=>a.wf nv m.env/\has k (a.ev m.env)/\v=.int k (a.ev m.env)
 |.bool a=>a.wf nv m.env/\(0<=a.ev m.env/\a.ev m.env<=1)/\v=.bool (decide (a.ev m.env≠0))
 |.ptr id off=>al id=true/\v=.pointer (some (m.at id off))
 |.nil=>v=.pointer none
 |.slice id off len cap=>al id=true/\v=.slice (some (m.at id off)) len cap
 |.nilslice=>v=.slice none 0 0
 |.fn f caps=>(∀p∈caps,al p.1=true)/\v=.func (.func f) #[] (caps.map fun p=>Value.pointer (some (m.at p.1 p.2))).toArray
 |.nilfn=>v=.nilFunc
 |.str s=>v=.string s
 |.nilmap=>v=.map none
 |.niliface=>v=.nilIface
 |.ext n=>v=m.ext.val n/\v.oneCell'=true
 |.top=>True
 |.ptrS id off i n=>al id=true/\i.wf nv m.env/\(0<=i.ev m.env/\i.ev m.env<(n:Int))/\v=.pointer (some (m.at id (off+(i.ev m.env).toNat)))
 |.sl id=>al id=true/\v=m.sv id/\v.oneCell'=true
 |.lp id i k=>al id=true/\i.wf nv m.env/\(0<=i.ev m.env/\i.ev m.env<(Xbh (m.sv id):Int))/\v=.pointer (some ((Qhs (m.sv id)).add ((i.ev m.env).toNat*k.sz)))
 |.slv id lo hi k=>al id=true/\lo.wf nv m.env/\hi.wf nv m.env/\(0<=lo.ev m.env/\lo.ev m.env<=hi.ev m.env/\hi.ev m.env<=(Xbh (m.sv id):Int)/\hi.ev m.env<=9223372036854775807) /\
  W9 k.sz (m.sv id) (lo.ev m.env).toNat (hi.ev m.env).toNat v/\v.oneCell'=true
 |.sv a=>a.wf nv m.env/\(LK.int .u8).hasL (dec (a.ev m.env))/\v=.string (Go.strOfNums (dec (a.ev m.env)))
 |.ll a=>a.wf nv m.env/\Qa2 m.ext.base v (dec (a.ev m.env))/\v.oneCell'=true
 |.llp a i=>a.wf nv m.env/\i.wf nv m.env/\(0<=i.ev m.env/\i.ev m.env<((dec (a.ev m.env)).length:Int))/\∃s,Qa2 m.ext.base s (dec (a.ev m.env))/\v=.pointer (some ((Qhs s).add (i.ev m.env).toNat))
 |.rol a=>a.wf nv m.env/\(LK.int .u8).hasL (dec (a.ev m.env))/\RoRow m.ext.base m.ext.base (.int .u8) v (dec (a.ev m.env))/\v.oneCell'=true
 |.slS id off hi n=>al id=true/\hi.wf nv m.env/\(0<=hi.ev m.env/\hi.ev m.env<=(n:Int))/\v=.slice (some (m.at id off)) (hi.ev m.env).toNat n
def Rels(m:M)(nv:Nat)(al:Nat->Bool):List C->List Value->Prop
 |[],[]=>True
 |c::cs,v::vs=>c.rel m nv al v/\Rels m nv al cs vs
 |_,_=>False
def V.rel(m:M)(nv:Nat)(al:Nat->Bool):V->Value->Prop
 |.one c,v=>c.rel m nv al v
 |.agg cs,v=>∃vs:List Value,v=.agg vs.toArray/\Rels m nv al cs vs
def Zi(m:M)(nv:Nat)(al:Nat->Bool):List V->List Value->Prop
 |[],[]=>True
 |c::cs,v::vs=>c.rel m nv al v/\Zi m nv al cs vs
 |_,_=>False
def SV.rel(m:M)(nv:Nat)(al:Nat->Bool):SV->Value->Prop
 |.vl x,v=>x.rel m nv al v
 |.tup l,v=>∃vs:List Value,v=.tuple vs.toArray/\Zi m nv al l vs
def RowAt(w0 w:World)(r:Row)(v:Value)(l:List Int):Prop :=
 r.k.hasL l/\(if r.own then w.ownsRow w0.heap.size r.elem r.k.sz v l.length (flat r.k l)else RoRow w0 w r.k v l)/\(r.full=true->Qjq v)
structure Rep (w0:World) (m:M) (Y:St) (a:Act) (w:World):Prop where
 defers:a.defers=[]
 size:a.tmps.size=Y.tmps.length
 tmp:∀(i:Nat) (s:SV),Y.tmps[i]?=some s->∃v,a.tmps[i]?=some v/\s.rel m Y.nv Y.al v
 below:Below w0.heap.size w0 w
 own:∀(id:Nat) (b:Box),Y.boxes[id]?=some (some b)->b.own=true ->
  (m.rho id).2=0/\w0.heap.size<=(m.rho id).1/\∃vs:List Value,w.heap[(m.rho id).1]?=some (.cells vs.toArray b.elem b.fz)/\Rels m Y.nv Y.al b.cells vs
 ro:∀(id:Nat) (b:Box),Y.boxes[id]?=some (some b)->b.own=false ->
  b.cells=[]∨(m.rho id).1<w0.heap.size/\∀j c,b.cells[j]?=some c->∃v,w.cell? (m.at id j)=some v/\c.rel m Y.nv Y.al v
 inj:∀(id id':Nat) (b b':Box),Y.boxes[id]?=some (some b)->Y.boxes[id']?=some (some b')->b.own=true->b'.own=true->id≠id'->(m.rho id).1≠(m.rho id').1
 kn:∀p∈Y.kn,p.1<Y.nv/\decide (m.env p.1≠0)=p.2
 gl:∀p∈Y.gl,Y.al p.2=true/\m.rho p.2=(p.1,0)
 rows:∀(id:Nat) (b:Box) (r:Row),Y.boxes[id]?=some (some b)->b.row=some r ->
  r.x.wf Y.nv m.env/\r.x0.wf Y.nv m.env/\(dec (r.x0.ev m.env)).length=(dec (r.x.ev m.env)).length/\RowAt w0 w r (m.sv id) (dec (r.x.ev m.env))
 rbox:∀(id:Nat) (b:Box) (r:Row),Y.boxes[id]?=some (some b)->b.row=some r->r.own=true->∀(id':Nat) (b':Box),Y.boxes[id']?=some (some b')->b'.own=true->(m.sv id).ownBlock≠some (m.rho id').1
 rsep:∀(id:Nat) (b:Box) (r:Row) (id':Nat) (b':Box) (r':Row),Y.boxes[id]?=some (some b)->b.row=some r->Y.boxes[id']?=some (some b')->b'.row=some r'->r.own=true->r'.own=true->id≠id' ->
  (m.sv id).ownBlock=none∨(m.sv id').ownBlock≠(m.sv id).ownBlock
 base:m.ext.base=w0
def Zf5:C->Value
 |.int k (.lit n)=>.int k n
 |.bool (.lit n)=>.bool (decide (n≠0))
 |.fn f _=>.func (.func f) #[] #[]
 |.str s=>.string s
 |.nilslice=>.slice none 0 0
 |.nilfn=>.nilFunc
 |.nilmap=>.map none
 |.niliface=>.nilIface
 |_=>.pointer none
noncomputable def Z2:List L->List Int->List Value
 |[],_=>[]
 |.cst c::ls,xs=>Zf5 c::Z2 ls xs
 |.int k::ls,x::xs=>.int k x::Z2 ls xs
 |.bool::ls,x::xs=>.bool (decide (x≠0))::Z2 ls xs
 |.num::ls,x::xs=>Jw x++Z2 ls xs
 |.lst _::ls,_::xs=>Z2 ls xs
 |.arr k _::ls,x::xs=>(dec x).map (.int k)++Z2 ls xs
 |_::_,[]=>[]
def Xq:List L->List Int->Prop
 |[],[]=>True
 |.cst _::ls,xs=>Xq ls xs
 |.int k::ls,x::xs=>has k x/\Xq ls xs
 |.bool::ls,x::xs=>(0<=x/\x<=1)/\Xq ls xs
 |.num::ls,x::xs=>(0<=x/\x<Qw)/\Xq ls xs
 |.lst k::ls,x::xs=>k.hasL (dec x)/\Xq ls xs
 |.arr k n::ls,x::xs=>((LK.int k).hasL (dec x)/\(dec x).length=n)/\Xq ls xs
 |_,_=>False
def Qs:List L->Nat
 |[]=>0
 |l::ls=>l.n+Qs ls
def Sh.leaves:Sh->List L|.one l=>[l]|.agg ls=>ls|.ptr ls=>ls|.lst k=>[.lst k]|.lent k=>[.lst k,.int .i64]|.ll=>[.lst .byt]
def Oh.leaves:Oh->List L|.one l=>[l]|.agg ls=>ls|.box _ ls=>ls|.lst _ k=>[.lst k]|.lent _ k=>[.lst k,.int .i64]
def Qc6(k:LK)(Q:Value->Prop)(l:List Int)(n:Int)(v:Value):Prop:=∃v',Q v'/\Qjq v'/\(0<=n/\n<=(l.length:Int))/\v=Up k.sz v' 0 n.toNat
def Sh.rel(w:World)(xs:List Int):Sh->Value->Prop
 |.one l,v=>[v]=Z2 [l] xs
 |.agg ls,v=>v=.agg (Z2 ls xs).toArray
 |.ptr ls,v=>∃b off,v=.pointer (some ⟨b,off,none⟩)/\∀j u,(Z2 ls xs)[j]?=some u->w.cell? ⟨b,off+j,none⟩=some u
 |.lst k,v=>RoRow w w k v (dec (xs.headD 0))
 |.lent k,v=>Qc6 k (fun v'=>RoRow w w k v' (dec (xs.headD 0))) (dec (xs.headD 0)) (xs.getD 1 0) v
 |.ll,v=>Qa2 w v (dec (xs.headD 0))
def J4(w:World):List Sh->List Int->List Value->Prop
 |[],xs,vs=>xs=[]/\vs=[]
 |s::ss,xs,v::vs=>Xq s.leaves (xs.take (Qs s.leaves))/\s.rel w (xs.take (Qs s.leaves)) v/\J4 w ss (xs.drop (Qs s.leaves)) vs
 |_::_,_,[]=>False
def Oh.rel(n0:Nat)(w:World)(xs:List Int):Oh->Value->Prop
 |.one l,v=>[v]=Z2 [l] xs
 |.agg ls,v=>v=.agg (Z2 ls xs).toArray
 |.box e ls,v=>∃b,n0<=b/\v=.pointer (some ⟨b,0,none⟩)/\w.heap[b]?=some (.cells (Z2 ls xs).toArray e (0,0))
 |.lst e k,v=>w.ownsRow n0 e k.sz v (dec (xs.headD 0)).length (flat k (dec (xs.headD 0)))
 |.lent e k,v=>Qc6 k (fun v'=>w.ownsRow n0 e k.sz v' (dec (xs.headD 0)).length (flat k (dec (xs.headD 0)))) (dec (xs.headD 0)) (xs.getD 1 0) v
def Wv(n0:Nat)(w:World):List Oh->List Int->List Value->Prop
 |[],xs,vs=>xs=[]/\vs=[]
 |s::ss,xs,v::vs=>Xq s.leaves (xs.take (Qs s.leaves))/\s.rel n0 w (xs.take (Qs s.leaves)) v/\Wv n0 w ss (xs.drop (Qs s.leaves)) vs
 |_::_,_,[]=>False
def Qho:List Value->Value
 |[v]=>v
 |vs=>.tuple vs.toArray
def hasB(k:IntKind)(n:Int):Bool:=decide (lo k<=n)&&decide (n<=hi k)
def Qwt:C->Bool
 |.nil|.nilslice|.nilfn|.nilmap|.niliface|.str _=>true
 |.fn _ []=>true
 |.int k (.lit n)=>hasB k n
 |.bool (.lit n)=>n==0 || n==1
 |_=>false
abbrev Gls:=List (Nat×List C)
def Qf7(gls:Gls)(w:World):Prop:=∀p∈gls,p.1<w.heap.size/\p.2.all Qwt=true/\∀(j:Nat) c,p.2[j]?=some c->w.cell? ⟨p.1,j,none⟩=some (Zf5 c)
def K.at(P:Program)(X:K)(w:World):Prop :=
 ∀(args:List Value) (xs:List Int),J4 w X.ins xs args->X.pre xs ->
  if X.ext then ∃vs,(callFunc X.fn args.toArray).run P w=.ok (.value (Qho vs)) w/\Wv w.heap.size w X.outs (X.sem xs) vs
  else(callFunc X.fn args.toArray).run P w=.ok (.enter X.fn args.toArray) w /\
   Calls P X.fn args.toArray w fun e w'=>∃vs,e=.returned (Qho vs)/\Wv w.heap.size w' X.outs (X.sem xs) vs/\Below w.heap.size w w'
def K.Xbm(P:Program)(X:K)(w0:World):Prop:=∀w,Below w0.heap.size w0 w->X.at P w
def K.ok(P:Program)(X:K)(gls:Gls:=[]):Prop:=∀w,Qf7 gls w->X.at P w
theorem Oo:type_of% @Bool.and_eq_true:=@Bool.and_eq_true
theorem Ou:type_of% @List.getD_eq_getElem?_getD:=@List.getD_eq_getElem?_getD
theorem Ov:type_of% @List.length_cons:=@List.length_cons
theorem Ow:type_of% @List.getElem?_eq_some_iff:=@List.getElem?_eq_some_iff
theorem Ox:type_of% @List.nil_append:=@List.nil_append
theorem Oy:type_of% @Int.emod_eq_of_lt:=@Int.emod_eq_of_lt
theorem Oz:type_of% @Int.eq_ofNat_of_zero_le:=@Int.eq_ofNat_of_zero_le
theorem O0:type_of% @List.getElem?_cons_zero:=@List.getElem?_cons_zero
theorem O1:type_of% @List.getElem?_eq_getElem:=@List.getElem?_eq_getElem
theorem O2:type_of% @List.length_append:=@List.length_append
theorem O7:type_of% @List.getElem?_set_ne:=@List.getElem?_set_ne
theorem O3:type_of% @List.getElem?_cons_succ:=@List.getElem?_cons_succ
theorem O4:type_of% @List.getD_cons_zero:=@List.getD_cons_zero
theorem O5:type_of% @List.length_nil:=@List.length_nil
theorem O6:type_of% @List.length_take:=@List.length_take
theorem O8:type_of% @List.length_map:=@List.length_map
theorem O9:type_of% @List.getD_cons_succ:=@List.getD_cons_succ
theorem Md:type_of% @List.length_set:=@List.length_set
theorem Me:type_of% @List.mem_singleton:=@List.mem_singleton
theorem Mf:type_of% @List.getElem?_append_right:=@List.getElem?_append_right
theorem Mg:type_of% @List.take_of_length_le:=@List.take_of_length_le
theorem Mh:type_of% @List.mem_cons:=@List.mem_cons
theorem Mi:type_of% @Int.toNat_natCast:=@Int.toNat_natCast
theorem Mj:type_of% @Array.getD_eq_getD_getElem?:=@Array.getD_eq_getD_getElem?
theorem Mk:type_of% @Nat.add_zero:=@Nat.add_zero
theorem Mm:type_of% @List.getElem?_append_left:=@List.getElem?_append_left
theorem Mn:type_of% @List.map_cons:=@List.map_cons
theorem Mp:type_of% @List.length_drop:=@List.length_drop
theorem Mq:type_of% @List.mem_cons_of_mem:=@List.mem_cons_of_mem
theorem Mr:type_of% @List.mem_cons_self:=@List.mem_cons_self
theorem Ms:type_of% @List.all_eq_true:=@List.all_eq_true
theorem Mt:type_of% @Int.tmod_eq_emod_of_nonneg:=@Int.tmod_eq_emod_of_nonneg
theorem Mu:type_of% @List.mem_of_getElem?:=@List.mem_of_getElem?
theorem Mx:type_of% @List.mem_map:=@List.mem_map
theorem My:type_of% @List.getElem?_eq_none:=@List.getElem?_eq_none
theorem Mv:type_of% @Int.emod_lt_of_pos:=@Int.emod_lt_of_pos
theorem Mw:type_of% @Int.emod_nonneg:=@Int.emod_nonneg
theorem Mz:type_of% @List.length_replicate:=@List.length_replicate
theorem M0:type_of% @Int.mul_comm:=@Int.mul_comm
theorem M1:type_of% @Array.getElem?_eq_getElem:=@Array.getElem?_eq_getElem
theorem M2:type_of% @List.getElem?_map:=@List.getElem?_map
theorem M3:type_of% @List.mem_range:=@List.mem_range
theorem M4:type_of% @Int.mul_le_mul_of_nonneg_right:=@Int.mul_le_mul_of_nonneg_right
theorem M5:type_of% @Nat.zero_add:=@Nat.zero_add
theorem M6:type_of% @List.not_mem_nil:=@List.not_mem_nil
theorem M7:type_of% @List.map_nil:=@List.map_nil
theorem M8:type_of% @List.append_assoc:=@List.append_assoc
theorem M9:type_of% @Int.ediv_nonneg:=@Int.ediv_nonneg
theorem Lq:type_of% @List.headD_cons:=@List.headD_cons
theorem Ls:type_of% @List.getElem?_set_self:=@List.getElem?_set_self
theorem L0:type_of% @Int.natCast_zero:=@Int.natCast_zero
theorem L1:type_of% @List.all_cons:=@List.all_cons
theorem L2:type_of% @Int.emod_add_mul_ediv:=@Int.emod_add_mul_ediv
theorem L3:type_of% @Int.pow_succ:=@Int.pow_succ
theorem L4:type_of% @Option.map_some:=@Option.map_some
theorem L5:type_of% @List.mem_append:=@List.mem_append
theorem L6:type_of% @Int.natCast_add:=@Int.natCast_add
theorem L8:type_of% @Int.natCast_one:=@Int.natCast_one
theorem L9:type_of% @Array.getElem?_eq_some_iff:=@Array.getElem?_eq_some_iff
theorem Ka:type_of% @List.nodup_iff_pairwise_ne:=@List.nodup_iff_pairwise_ne
theorem Kf:type_of% @Nat.lt_of_lt_of_le:=@Nat.lt_of_lt_of_le
theorem Kg:type_of% @Int.toNat_of_nonneg:=@Int.toNat_of_nonneg
theorem Kh:type_of% @Option.getD_some:=@Option.getD_some
theorem Ki:type_of% @List.take_succ_eq_append_getElem:=@List.take_succ_eq_append_getElem
theorem Kj:type_of% @Int.natCast_pow:=@Int.natCast_pow
theorem Kk:type_of% @List.getElem_mem:=@List.getElem_mem
theorem Kl:type_of% @Int.fdiv_eq_ediv_of_nonneg:=@Int.fdiv_eq_ediv_of_nonneg
theorem Km:type_of% @List.flatMap_cons:=@List.flatMap_cons
theorem Kn:type_of% @Nat.add_assoc:=@Nat.add_assoc
theorem Ko:type_of% @Nat.mul_le_mul_right:=@Nat.mul_le_mul_right
theorem Kp:type_of% @List.drop_of_length_le:=@List.drop_of_length_le
theorem Kq:type_of% @List.map_append:=@List.map_append
theorem Kr:type_of% @List.mem_zipIdx_iff_getElem?:=@List.mem_zipIdx_iff_getElem?
theorem Ks:type_of% @List.perm_append_comm:=@List.perm_append_comm
theorem Kt:type_of% @Int.ediv_ediv_of_nonneg:=@Int.ediv_ediv_of_nonneg
theorem Ku:type_of% @List.getElem?_take:=@List.getElem?_take
theorem Kv:type_of% @Int.emod_emod_of_dvd:=@Int.emod_emod_of_dvd
theorem Kw:type_of% @Int.tdiv_eq_ediv_of_nonneg:=@Int.tdiv_eq_ediv_of_nonneg
theorem Kx:type_of% @Int.mul_nonneg:=@Int.mul_nonneg
theorem Kz:type_of% @Int.pow_add:=@Int.pow_add
theorem K1:type_of% @Array.length_toList:=@Array.length_toList
theorem K2:type_of% @Int.pow_pos:=@Int.pow_pos
theorem K3:type_of% @List.drop_zero:=@List.drop_zero
theorem K4:type_of% @Array.getElem?_setIfInBounds:=@Array.getElem?_setIfInBounds
theorem K5:type_of% @Bool.false_eq_true:=@Bool.false_eq_true
theorem K6:type_of% @Array.any_eq_true':=@Array.any_eq_true'
theorem K7:type_of% @Int.ediv_le_self:=@Int.ediv_le_self
theorem K8:type_of% @Nat.add_mul:=@Nat.add_mul
theorem K9:type_of% @Int.mul_assoc:=@Int.mul_assoc
theorem Ha:type_of% @Nat.lt_or_ge:=@Nat.lt_or_ge
theorem Hc:type_of% @Bool.not_eq_true':=@Bool.not_eq_true'
theorem Hd:type_of% @List.replicate_append_replicate:=@List.replicate_append_replicate
theorem He:type_of% @Nat.mod_eq_of_lt:=@Nat.mod_eq_of_lt
theorem Hf:type_of% @List.eq_nil_iff_forall_not_mem:=@List.eq_nil_iff_forall_not_mem
theorem Hg:type_of% @Int.mul_one:=@Int.mul_one
theorem Hh:type_of% @List.length_range:=@List.length_range
theorem Hi:type_of% @Int.emod_eq_zero_of_dvd:=@Int.emod_eq_zero_of_dvd
theorem Hj:type_of% @Int.emod_add_emod:=@Int.emod_add_emod
theorem Hk:type_of% @Int.dvd_mul_of_dvd_left:=@Int.dvd_mul_of_dvd_left
theorem Hl:type_of% @Int.ediv_eq_zero_of_lt:=@Int.ediv_eq_zero_of_lt
theorem Hm:type_of% @List.mem_flatMap:=@List.mem_flatMap
theorem Hn:type_of% @Nat.lt_succ_self:=@Nat.lt_succ_self
theorem Ho:type_of% @Int.add_mul_emod_self_left:=@Int.add_mul_emod_self_left
theorem Hq:type_of% @Int.sub_add_cancel:=@Int.sub_add_cancel
theorem Hr:type_of% @List.getElem?_drop:=@List.getElem?_drop
theorem Hs:type_of% @List.take_append_drop:=@List.take_append_drop
theorem Ht:type_of% @List.mem_iff_getElem?:=@List.mem_iff_getElem?
theorem Hu:type_of% @List.mem_or_eq_of_mem_set:=@List.mem_or_eq_of_mem_set
theorem Hv:type_of% @Int.neg_mul_neg:=@Int.neg_mul_neg
theorem Hw:type_of% @Nat.min_eq_left:=@Nat.min_eq_left
theorem Hy:type_of% @Bool.or_eq_true:=@Bool.or_eq_true
theorem Hz:type_of% @List.pairwise_map:=@List.pairwise_map
theorem H2:type_of% @Nat.add_comm:=@Nat.add_comm
theorem H3:type_of% @Int.dvd_refl:=@Int.dvd_refl
theorem H4:type_of% @List.mem_of_mem_take:=@List.mem_of_mem_take
theorem H5:type_of% @Bool.eq_false_iff:=@Bool.eq_false_iff
theorem H6:type_of% @Bool.and_true:=@Bool.and_true
theorem H7:type_of% @List.map_congr_left:=@List.map_congr_left
theorem H8:type_of% @Int.toNat_zero:=@Int.toNat_zero
theorem H9:type_of% @Int.le_of_lt:=@Int.le_of_lt
theorem Oaa:type_of% @List.all_nil:=@List.all_nil
theorem Oab:type_of% @Int.zero_mul:=@Int.zero_mul
theorem Oac:type_of% @Int.mul_zero:=@Int.mul_zero
theorem Oad:type_of% @Array.getElem?_eq_none:=@Array.getElem?_eq_none
theorem Oae:type_of% @Array.all_eq_true':=@Array.all_eq_true'
theorem Oaf:type_of% @List.append_nil:=@List.append_nil
theorem Oag:type_of% @Bool.not_true:=@Bool.not_true
theorem Oai:type_of% @List.ext_getElem?:=@List.ext_getElem?
theorem Oaj:type_of% @Int.dvd_mul_right:=@Int.dvd_mul_right
theorem Oak:type_of% @Int.mul_le_mul:=@Int.mul_le_mul
theorem Oal:type_of% @Int.pow_zero:=@Int.pow_zero
theorem Oam:type_of% @Int.natCast_emod:=@Int.natCast_emod
theorem Oan:type_of% @Int.ediv_one:=@Int.ediv_one
theorem Oar:type_of% @Bool.or_false:=@Bool.or_false
theorem Oau:type_of% @Nat.mod_lt:=@Nat.mod_lt
theorem Oax:type_of% @Int.dvd_add:=@Int.dvd_add
end Go.Sx
