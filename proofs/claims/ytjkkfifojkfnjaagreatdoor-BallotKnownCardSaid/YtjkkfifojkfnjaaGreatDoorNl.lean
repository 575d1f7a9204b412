/- Part Nl of the proof. -/
import Derived.Test.YtjkkfifojkfnjaaGreatDoorNb
import Derived.Test.YtjkkfifojkfnjaaGreatDoorNc
import Derived.Test.YtjkkfifojkfnjaaGreatDoorNd
set_option linter.unusedVariables false
set_option linter.unusedSimpArgs false
namespace Go.Cx
open Go Go.Sx
inductive T (α:Type) where
 | nil
 | node (v:Option α) (l r:T α)
 deriving Inhabited
def T.get {α:Type}:Nat → T α → Nat → Option α
 | 0,_,_=>none
 | f + 1,t,n=>match t with
  | .nil=>none
  | .node v l r=>match n with
   | 0=>v
   | m + 1=>if Nat.beq (m % 2) 0 then T.get f l (m / 2) else T.get f r (m / 2)
def T.set {α:Type}:Nat → T α → Nat → α → T α
 | 0,t,_,_=>t
 | f + 1,t,n,x=>match t with
  | .nil=>match n with
   | 0=>.node (some x) .nil .nil
   | m + 1=>if Nat.beq (m % 2) 0 then .node none (T.set f .nil (m / 2) x) .nil else .node none .nil (T.set f .nil (m / 2) x)
  | .node v l r=>match n with
   | 0=>.node (some x) l r
   | m + 1=>if Nat.beq (m % 2) 0 then .node v (T.set f l (m / 2) x) r else .node v l (T.set f r (m / 2) x)
abbrev FT:Nat:=24
def T.at {α:Type} (t:T α) (n:Nat):Option α:=T.get FT t n
def T.put {α:Type} (t:T α) (n:Nat) (x:α):T α:=T.set FT t n x
def T.puts {α:Type} (t:T α) (n:Nat):List α → T α
 | []=>t
 | x :: r=>T.puts (t.put n x) (n + 1) r
inductive CV where
 | int (k:IntKind) (n:Int) | bool (b:Bool) | str (l:List Nat)
 | nil | ptr (id off:Nat)
 | nilsl | sl (id off len:Nat) (cap:Option Nat)
 | nilmap | map (id:Nat)
 | nilfn | fn (f:FuncId) (caps:List (Nat × Nat))
 | niliface | iface (t:TypeId) (v:CV)
 | top
 deriving Inhabited
inductive V where | one (c:CV) | agg (cs:List CV)
 deriving Inhabited
inductive SV where | vl (x:V) | tup (l:List V)
 deriving Inhabited
structure Row where
 t:T CV
 n:Nat
 deriving Inhabited
def Row.at (r:Row) (i:Nat):Option CV:=if Nat.blt i r.n then r.t.at i else none
def Row.gets (t:Row) (off:Nat):Nat → Option (List CV)
 | 0=>some []
 | n + 1=>match t.at off with
  | none=>none
  | some c=>match Row.gets t (off + 1) n with
   | none=>none
   | some r=>some (c :: r)
def Row.puts (r:Row) (off:Nat) (l:List CV):Row:=if Nat.ble off r.n then ⟨r.t.puts off l,if Nat.ble r.n (off + l.length) then off + l.length else r.n⟩ else r
def Row.new (l:List CV):Row:=⟨T.puts .nil 0 l,l.length⟩
def Row.cut (r:Row) (k:Nat):Row:=⟨r.t,if Nat.ble k r.n then k else r.n⟩
structure ME where
 key:V
 val:V
 born:Nat
 deriving Inhabited
inductive Ob where
 | dead
 | cells (cs:Row) (own:Bool) (z:Nat)
 | map (es:List ME) (clock:Nat)
 | miter (m:Option Nat) (since:Nat) (seen:List Nat) (last:Nat)
 | siter (s:List Nat) (pos:Nat)
 deriving Inhabited
structure St where
 tmps:T SV
 nt:Nat
 heap:T Ob
 next:Nat
 gl:List (Nat × Nat)
 deriving Inhabited
def strOf (s:ByteArray):List Nat:=s.data.toList.map (·.toNat)
def cOf:Value → Option CV
 | .int k n=>some (.int k n)
 | .bool b=>some (.bool b)
 | .string s=>some (.str (strOf s))
 | .pointer none=>some .nil
 | .slice none 0 0=>some .nilsl
 | .nilFunc=>some .nilfn
 | .nilIface=>some .niliface
 | .map none=>some .nilmap
 | _=>none
def vOf:Value → Option V
 | .agg cs=>(mapO cOf cs.toList).map .agg
 | v=>(cOf v).map .one
def undefS:SV:=.tup []
def St.get (σ:St) (t:Nat):SV:=if Nat.blt t σ.nt then (σ.tmps.at t).getD undefS else undefS
def St.put (σ:St) (dst:Option Nat) (s:SV):St :=
 match dst with
 | some d=>if Nat.blt d σ.nt then {σ with tmps:=σ.tmps.put d s } else σ
 | none=>σ
def St.val (σ:St):Operand → Option SV
 | .tmp t=>some (σ.get t)
 | .const v=>(vOf v).map .vl
 | .func f=>some (.vl (.one (.fn f [])))
 | .global g=>(Sx.look σ.gl g).map fun id=>.vl (.one (.ptr id 0))
def St.v (σ:St) (x:Operand):Option V:=match σ.val x with | some (.vl v)=>some v | _=>none
def St.c (σ:St) (x:Operand):Option CV:=match σ.val x with | some (.vl (.one c))=>some c | _=>none
def St.int (σ:St) (x:Operand):Option Int:=match σ.c x with | some (.int _ n)=>some n | _=>none
def St.ob (σ:St) (id:Nat):Option Ob:=σ.heap.at id
def V.cells:V → List CV | .one c=>[c] | .agg cs=>cs
def CV.solid:CV → Bool | .top=>false | _=>true
def zeroOf (P:Program) (t:TypeId):Option V:=match P.info? t with
 | some i=>match i.zero with
  | some v=>vOf v
  | none=>none
 | none=>none
def retS:List V → SV
 | [v]=>.vl v
 | vs=>.tup vs
def strEq:List Nat → List Nat → Bool
 | [],[]=>true
 | a :: x,b :: y=>Nat.beq a b && strEq x y
 | _,_=>false
def strLt:List Nat → List Nat → Bool
 | _,[]=>false
 | [],_ :: _=>true
 | a :: x,b :: y=>Nat.blt a b || (Nat.beq a b && strLt x y)
def intEq:Int → Int → Bool
 | .ofNat a,.ofNat b=>Nat.beq a b
 | .negSucc a,.negSucc b=>Nat.beq a b
 | _,_=>false
def eqNs (f:List CV → List CV → Option (Bool × List CV × List CV)):Nat → List CV → List CV → Option (Bool × List CV × List CV)
 | 0,xs,ys=>some (true,xs,ys)
 | n + 1,xs,ys=>match f xs ys with
  | none=>none
  | some r=>match eqNs f n r.2.1 r.2.2 with
   | none=>none
   | some q=>some (r.1 && q.1,q.2)
def eqFs (f:TypeId → List CV → List CV → Option (Bool × List CV × List CV)) (sz:TypeId → Option Nat):List Field → Nat → List CV → List CV → Option (Bool × Nat × List CV × List CV)
 | [],n,xs,ys=>some (true,n,xs,ys)
 | fd :: fs,n,xs,ys=>if fd.name == "_" || fd.offset != n then none else match f fd.type xs ys,sz fd.type with
  | some r,some s=>match eqFs f sz fs (n + s) r.2.1 r.2.2 with
   | none=>none
   | some q=>some (r.1 && q.1,q.2)
  | _,_=>none
def eqW (P:Program):Nat → TypeId → List CV → List CV → Option (Bool × List CV × List CV)
 | 0,_,_,_=>none
 | d + 1,t,xs,ys=>match P.underlying t with
  | some (.int _)=>match xs,ys with
   | .int k a :: xs',.int k' b :: ys'=>if k == k' && szOf P t == some 1 then some (intEq a b,xs',ys') else none
   | _,_=>none
  | some .bool=>match xs,ys with
   | .bool a :: xs',.bool b :: ys'=>if szOf P t == some 1 then some (a == b,xs',ys') else none
   | _,_=>none
  | some .string=>match xs,ys with
   | .str a :: xs',.str b :: ys'=>if szOf P t == some 1 then some (strEq a b,xs',ys') else none
   | _,_=>none
  | some (.array n e)=>if szOf P t == (szOf P e).map (n * ·) then eqNs (eqW P d e) n xs ys else none
  | some (.struct fs)=>if P.stoodInHeld t then none else match eqFs (eqW P d) (szOf P) fs.toList 0 xs ys with
   | some r=>if szOf P t == some r.2.1 then some (r.1,r.2.2) else none
   | none=>none
  | _=>none
def eqNil (d:TypeDesc) (x y:CV):Option Bool :=
 match d,x,y with
 | .pointer _,.nil,.nil=>some true
 | .pointer _,.nil,.ptr ..=>some false
 | .pointer _,.ptr ..,.nil=>some false
 | .slice _,.nilsl,.nilsl=>some true
 | .slice _,.nilsl,.sl ..=>some false
 | .slice _,.sl ..,.nilsl=>some false
 | .func ..,.nilfn,.nilfn=>some true
 | .func ..,.nilfn,.fn ..=>some false
 | .func ..,.fn ..,.nilfn=>some false
 | .map ..,.nilmap,.nilmap=>some true
 | .map ..,.nilmap,.map _=>some false
 | .map ..,.map _,.nilmap=>some false
 | _,_,_=>none
def isConstO:Operand → Bool | .const _=>true | _=>false
def eqIface (x y:Operand) (a b:CV):Option Bool :=
 match a,b with
 | .niliface,.niliface=>if isConstO x || isConstO y then some true else none
 | .niliface,.iface ..=>some false
 | .iface ..,.niliface=>some false
 | _,_=>none
def eqV (P:Program) (t:TypeId) (x y:Operand) (a b:V):Option Bool :=
 match a,b with
 | .agg xs,.agg ys=>if P.eqGuardType P.depth t || !((P.underlying t).any isAggB) then none else match eqW P 20 t xs ys with
  | some (r,[],[])=>some r
  | _=>none
 | .one (.int k a),.one (.int k' b)=>if k == k' then some (intEq a b) else none
 | .one (.str a),.one (.str b)=>some (strEq a b)
 | .one (.bool a),.one (.bool b)=>match P.underlying t with | some .bool=>some (a == b) | _=>none
 | .one a,.one b=>match P.underlying t with
  | some (.interface _)=>eqIface x y a b
  | some d=>eqNil d a b
  | none=>none
 | _,_=>none
def cmpS (op:BinOp) (a b:List Nat):Option CV :=
 match op with
 | .add=>if Nat.blt (a.length + b.length) 65536 then some (.str (a ++ b)) else none
 | .lss=>some (.bool (strLt a b))
 | .leq=>some (.bool (strLt a b || strEq a b))
 | .gtr=>some (.bool (!(strLt a b || strEq a b)))
 | .geq=>some (.bool (!(strLt a b)))
 | _=>none
def binC (P:Program) (op:BinOp) (t:TypeId) (x y:Operand) (a b:V):Option CV :=
 match op with
 | .eql=>(eqV P t x y a b).map .bool
 | .neq=>(eqV P t x y a b).map fun r=>.bool (!r)
 | _=>match a,b with
  | .one (.int k a),.one (.int k' b)=>match op with
   | .shl | .shr=>if 0 ≤ b then some (.int k (binE op k a b)) else none
   | .add | .sub | .mul | .and | .or | .xor | .andNot=>if k == k' then some (.int k (binE op k a b)) else none
   | .quo | .rem=>if k == k' && !(intEq b 0) then some (.int k (binE op k a b)) else none
   | .lss | .leq | .gtr | .geq=>if k == k' then some (.bool (cmpE op a b)) else none
   | _=>none
  | .one (.str a),.one (.str b)=>cmpS op a b
  | _,_=>none
def partC (d:TypeDesc) (size:Nat) (cs:List CV) (off:Nat):Option V :=
 if isAggB d then some (.agg ((cs.drop off).take size))
 else (cs[off]?).map .one
def natOf (σ:St) (x:Operand):Option Nat:=match σ.c x with | some (.int _ n)=>if 0 ≤ n then some n.toNat else none | _=>none
def bnd (σ:St) (x:Option Operand) (d:Nat):Option Nat:=match x with | some o=>natOf σ o | none=>some d
def bytesOf:List CV → Option (List Nat)
 | []=>some []
 | .int .u8 n :: r=>match bytesOf r with
  | some l=>if 0 ≤ n && n ≤ 255 then some (n.toNat :: l) else none
  | none=>none
 | _=>none
def capOf (σ:St) (x:Operand):Option (Nat × Nat):=match σ.c x with | some (.ptr id off)=>some (id,off) | _=>none
def partOf (σ:St) (p:Nat × Operand):Option (Nat × List CV):=match σ.v p.2 with | some v=>if v.cells.all CV.solid then some (p.1,v.cells) else none | none=>none
def fillC (place:Nat → Option (Nat × Nat)) (cells:List CV):List (Nat × List CV) → Option (List CV)
 | []=>some cells
 | (i,v) :: rest=>match place i with
  | none=>none
  | some (off,size)=>if v.length ≠ size || cells.length < off + v.length then none
   else fillC place (cells.take off ++ v ++ cells.drop (off + v.length)) rest
def lookM (P:Program) (k:TypeId) (key:V):List ME → Option (Option (Nat × ME))
 | []=>some none
 | e :: es=>match keyEq P k key e.key with
  | none=>none
  | some true=>some (some (0,e))
  | some false=>match lookM P k key es with
   | some (some (i,e'))=>some (some (i + 1,e'))
   | r=>r
where keyEq (P:Program) (k:TypeId) (a b:V):Option Bool :=
 match a,b with
 | .agg xs,.agg ys=>if !((P.underlying k).any isAggB) then none else match eqW P 20 k xs ys with
  | some (r,[],[])=>some r
  | _=>none
 | .one x,.one y=>if (P.underlying k).any isAggB then none else match eqW P 1 k [x] [y] with
  | some (r,[],[])=>some r
  | _=>none
 | _,_=>none
def keyOk (P:Program) (k:TypeId) (key:V):Bool:=(lookM.keyEq P k key key).isSome && key.cells.all CV.solid
def boolOf (σ:St) (x:Operand):Option Bool:=match σ.c x with | some (.bool b)=>some b | _=>none
def readAt (P:Program) (σ:St) (t:TypeId) (id off:Nat):Option V :=
 match σ.ob id,P.underlying t,szOf P t with
 | some (.cells cs _ _),some d,some n=>if isAggB d then (cs.gets off n).map .agg else (cs.at off).map .one
 | _,_,_=>none
def bnds (σ:St) (len cap:Nat) (lo hi mx:Option Operand):Option (Nat × Nat × Nat) :=
 match bnd σ lo 0,bnd σ hi len,bnd σ mx cap with
 | some l,some h,some m=>if Nat.ble l h && Nat.ble h m && Nat.ble m cap && (mx.isNone || hi.isSome) then some (l,h,m) else none
 | _,_,_=>none
def sliceC (σ:St) (sz:Nat) (lo hi mx:Option Operand) (c:CV):Option CV :=
 match c with
 | .sl id off len (some cap)=>match bnds σ len cap lo hi mx with
  | some (l,h,m)=>some (.sl id (if Nat.beq m l then off else off + l * sz) (h - l) (some (m - l)))
  | none=>none
 | .sl id off len none=>match bnds σ len len lo hi mx,σ.ob id with
  | some (l,h,m),some (.cells _ _ z)=>if Nat.beq z sz then
    (if mx.isNone then some (.sl id (off + l * sz) (h - l) none) else if Nat.beq m l then some (.sl id off 0 none) else some (.sl id (off + l * sz) (h - l) (some (m - l))))
   else none
  | _,_=>none
 | .nilsl=>match bnds σ 0 0 lo hi mx with
  | some _=>some .nilsl
  | none=>none
 | _=>none
def light (P:Program) (σ:St) (o:Oper):Option SV :=
 let one (c:CV):Option SV:=some (.vl (.one c))
 match o.op with
 | .move x | .assign x=>σ.val x
 | .pick c a b=>match boolOf σ c with | some true=>σ.val a | some false=>σ.val b | none=>none
 | .load t a=>match σ.c a with
  | some (.ptr id off)=>(readAt P σ t id off).map .vl
  | _=>none
 | .nilCheck x=>match σ.c x with
  | some (.ptr id off)=>one (.ptr id off)
  | some (.fn f l)=>one (.fn f l)
  | some (.iface t v)=>one (.iface t v)
  | some (.sl a b c d)=>one (.sl a b c d)
  | _=>none
 | .binOp op t x y _=>match σ.v x,σ.v y with
  | some a,some b=>(binC P op t x y a b).map fun c=>.vl (.one c)
  | _,_=>none
 | .unOp op _ x=>match op,σ.c x with
  | .neg,some (.int k n)=>one (.int k (wr k (0 - n)))
  | .xor,some (.int k n)=>one (.int k (binE .xor k (if k.signed then -1 else k.max) n))
  | .not,some (.bool b)=>one (.bool (!b))
  | _,_=>none
 | .convert src dst x=>match P.underlying src,P.underlying dst,σ.c x with
  | some _,some (.int k),some (.int _ n)=>one (.int k (wr k n))
  | some _,some .string,some (.str l)=>one (.str l)
  | some (.slice e),some .string,some .nilsl=>match P.underlying e with | some (.int .u8)=>one (.str []) | _=>none
  | some (.slice e),some .string,some (.sl id off len _)=>match P.underlying e,σ.ob id with
   | some (.int .u8),some (.cells cs _ _)=>match cs.gets off len with
    | some l=>match bytesOf l with | some s=>one (.str s) | none=>none
    | none=>none
   | _,_=>none
  | _,_,_=>none
 | .makeFunc (.func f) first captured=>if first.isEmpty then match mapO (capOf σ) captured.toList with | some l=>one (.fn f l) | none=>none else none
 | .makeInterface t x=>match P.underlying t,σ.c x with
  | some (.interface _),_=>none
  | some _,some c=>if c.solid then one (.iface t c) else none
  | _,_=>none
 | .fieldAddr s x f=>match P.underlying s,σ.c x with
  | some (.struct fs),some (.ptr id off)=>match fs[f]? with
   | some fd=>match szOf P fd.type with
    | some 0=>none
    | some _=>one (.ptr id (off + fd.offset))
    | none=>none
   | none=>none
  | _,_=>none
 | .field t x f=>match P.underlying t,σ.v x with
  | some (.struct fs),some (.agg cs)=>match fs[f]? with
   | some fd=>match P.underlying fd.type,szOf P fd.type with
    | some d,some n=>(partC d n cs fd.offset).map .vl
    | _,_=>none
   | none=>none
  | _,_=>none
 | .indexAddr t x ix=>match natOf σ ix,P.underlying t,σ.c x with
  | some i,some (.array len e),some (.ptr id off)=>match szOf P e with
   | some z=>if Nat.blt i len then one (.ptr id (off + i * z)) else none
   | none=>none
  | some i,some (.slice e),some (.sl id off len _)=>match szOf P e with
   | some z=>if Nat.blt i len then one (.ptr id (off + i * z)) else none
   | none=>none
  | _,_,_=>none
 | .index t x ix=>match natOf σ ix,P.underlying t,σ.v x with
  | some i,some (.array len e),some (.agg cs)=>match P.underlying e,szOf P e with
   | some d,some z=>if Nat.blt i len then (partC d z cs (i * z)).map .vl else none
   | _,_=>none
  | some i,some .string,some (.one (.str l))=>match l[i]? with | some b=>one (.int .u8 b) | none=>none
  | _,_,_=>none
 | .slice t x lo hi mx=>match P.underlying t,σ.c x with
  | some (.slice e),some c=>match szOf P e with
   | some z=>(sliceC σ z lo hi mx c).map fun c=>.vl (.one c)
   | none=>none
  | some (.array n e),some (.ptr id off)=>match szOf P e with
   | some z=>(sliceC σ z lo hi mx (.sl id off n (some n))).map fun c=>.vl (.one c)
   | none=>none
  | some .string,some (.str l)=>match bnds σ l.length l.length lo hi none,mx with
   | some (a,b,_),none=>one (.str ((l.take b).drop a))
   | _,_=>none
  | _,_=>none
 | .lookup t m k ok=>match P.underlying t,σ.v k with
  | some (.map kt et),some key=>match (match σ.c m with
    | some .nilmap=>some []
    | some (.map id)=>match σ.ob id with | some (.map es _)=>some es | _=>none
    | _=>none:Option (List ME)) with
   | some es=>if !(keyOk P kt key) then none else match lookM P kt key es with
    | some (some (_,e))=>some (if ok then .tup [e.val,.one (.bool true)] else .vl e.val)
    | some none=>match zeroOf P et with
     | some z=>some (if ok then .tup [z,.one (.bool false)] else .vl z)
     | none=>none
    | none=>none
   | none=>none
  | _,_=>none
 | .extract x i=>match σ.val x with
  | some (.tup l)=>(l[i]?).map .vl
  | _=>none
 | .typeAssert x _ asserted ok=>match σ.c x with
  | some (.iface t v)=>match P.underlying asserted with
   | some (.interface _)=>none
   | some _=>if Nat.beq t asserted then (if ok then some (.tup [.one v,.one (.bool true)]) else one v)
    else if ok then match zeroOf P asserted with | some z=>some (.tup [z,.one (.bool false)]) | none=>none else none
   | none=>none
  | some .niliface=>if ok then match P.underlying asserted with
    | some (.interface _)=>none
    | some _=>match zeroOf P asserted with | some z=>some (.tup [z,.one (.bool false)]) | none=>none
    | none=>none
   else none
  | _=>none
 | .entry it=>match σ.c it with
  | some (.ptr id 0)=>match σ.ob id with
   | some (.miter (some m) _ seen last)=>match seen.getLast?,σ.ob m with
    | some stamp,some (.map es clock)=>if Nat.beq clock last then match es.find? (fun e=>Nat.beq e.born stamp) with
      | some e=>some (.tup [e.key,e.val])
      | none=>none
     else none
    | _,_=>none
   | _=>none
  | _=>none
 | .sliceToArrayPointer t x=>match P.underlying t,σ.c x with
  | some (.array n _),some (.sl id off len _)=>if 0 < len && n ≤ len then one (.ptr id off) else none
  | _,_=>none
 | .call c=>match c.callee,c.argTypes.toList,c.args.toList with
  | .builtin .len,[t],[x]=>match P.underlying t,σ.v x with
   | some .string,some (.one (.str l))=>one (.int .i64 l.length)
   | some (.array n _),_=>one (.int .i64 n)
   | some (.pointer a),_=>match P.underlying a with | some (.array n _)=>one (.int .i64 n) | _=>none
   | some (.slice _),some (.one .nilsl)=>one (.int .i64 0)
   | some (.slice _),some (.one (.sl _ _ n _))=>one (.int .i64 n)
   | some (.map _ _),some (.one .nilmap)=>one (.int .i64 0)
   | some (.map _ _),some (.one (.map id))=>match σ.ob id with | some (.map es _)=>one (.int .i64 es.length) | _=>none
   | _,_=>none
  | .builtin .min,_,x :: xs=>match σ.c x,mapO σ.int xs with
   | some (.int k a),some bs=>one (.int k (bs.foldl (fun a b=>if b < a then b else a) a))
   | _,_=>none
  | .builtin .max,_,x :: xs=>match σ.c x,mapO σ.int xs with
   | some (.int k a),some bs=>one (.int k (bs.foldl (fun a b=>if a < b then b else a) a))
   | _,_=>none
  | _,_,_=>none
 | _=>none
def bytesSz (P:Program) (e:TypeId):Option Nat:=(P.info? e).map (·.bytes)
def made (P:Program) (σ:St) (o:Oper):Option (Ob × (Nat → CV)) :=
 match o.op with
 | .alloc t=>match zeroOf P t with
  | some z=>some (.cells (Row.new z.cells) true 0,fun id=>.ptr id 0)
  | none=>none
 | .box _ x=>match σ.v x with
  | some v=>if !(v.cells.all CV.solid) then none else some (.cells (Row.new v.cells) true 0,fun id=>.ptr id 0)
  | none=>none
 | .buildSlice t len parts=>match P.underlying t,mapO (partOf σ) parts.toList with
  | some (.slice e),some ps=>match szOf P e,zeroOf P e with
   | some z,some zv=>if Nat.ble (len * z) 4096 && Nat.beq zv.cells.length z then match fillC (fun i=>some (i * z,z)) (List.replicate len zv.cells).flatten ps with
     | some cs=>some (.cells (Row.new cs) true 0,fun id=>.sl id 0 len (some len))
     | none=>none
    else none
   | _,_=>none
  | _,_=>none
 | .build _ _=>none
 | .makeMap _ none=>some (.map [] 0,fun id=>.map id)
 | .makeMap t (some h)=>match P.underlying t,σ.int h with
  | some (.map _ _),some _=>some (.map [] 0,fun id=>.map id)
  | _,_=>none
 | .makeSlice t l c=>match P.underlying t,natOf σ l,natOf σ c with
  | some (.slice e),some n,some m=>match szOf P e,zeroOf P e with
   | some z,some zv=>if Nat.ble n m && Nat.ble m 65536 && Nat.beq zv.cells.length z && (bytesSz P e).any (fun b=>Nat.ble b 65536) then some (.cells (Row.new (List.replicate m zv.cells).flatten) true 0,fun id=>.sl id 0 n (some m)) else none
   | _,_=>none
  | _,_,_=>none
 | .convert src dst x=>match P.underlying src,P.underlying dst,σ.c x with
  | some .string,some (.slice e),some (.str l)=>match P.underlying e with
   | some (.int .u8)=>some (.cells (Row.new (l.map fun (n:Nat)=>CV.int .u8 (n:Int))) true 1,fun id=>.sl id 0 l.length none)
   | _=>none
  | _,_,_=>none
 | .range t x=>match P.underlying t,σ.c x with
  | some .string,some (.str l)=>some (.siter l 0,fun id=>.ptr id 0)
  | some (.map _ _),some .nilmap=>some (.miter none 0 [] 0,fun id=>.ptr id 0)
  | some (.map _ _),some (.map m)=>match σ.ob m with
   | some (.map _ clock)=>some (.miter (some m) clock [] clock,fun id=>.ptr id 0)
   | _=>none
  | _,_=>none
 | _=>none
def buildC (P:Program) (σ:St) (o:Oper):Option SV :=
 match o.op with
 | .build t parts=>match P.underlying t,zeroOf P t,mapO (partOf σ) parts.toList with
  | some (.struct fs),some zv,some ps=>match mapO (fun f:Field=>(szOf P f.type).map fun s=>(f.offset,s)) fs.toList with
   | some places=>(fillC (places[·]?) zv.cells ps).map fun cs=>.vl (.agg cs)
   | none=>none
  | some (.array _ e),some zv,some ps=>match szOf P e with
   | some s=>(fillC (fun i=>some (i * s,s)) zv.cells ps).map fun cs=>.vl (.agg cs)
   | none=>none
  | _,_,_=>none
 | _=>none
inductive Big where
 | st (σ:St) (s:SV)
 | enter (f:FuncId) (args:List V)
 | choice (l:List (St × SV))
 | no
def srcOf (P:Program) (σ:St) (t:TypeId) (z:Nat) (x:Operand):Option (Nat × List CV) :=
 match P.underlying t,σ.c x with
 | some .string,some (.str l)=>if Nat.beq z 1 then some (l.length,l.map fun (n:Nat)=>CV.int .u8 (n:Int)) else none
 | some (.slice _),some .nilsl=>some (0,[])
 | some (.slice _),some (.sl id off len _)=>match σ.ob id with
  | some (.cells cs _ _)=>(cs.gets off (len * z)).map fun l=>(len,l)
  | _=>none
 | _,_=>none
def St.new (σ:St) (o:Ob):St:={σ with heap:=σ.heap.put σ.next o,next:=σ.next + 1 }
def St.upd (σ:St) (id:Nat) (o:Ob):St:={σ with heap:=σ.heap.put id o }
def delAt {α:Type}:Nat → List α → List α
 | _,[]=>[]
 | 0,_ :: l=>l
 | n + 1,a :: l=>a :: delAt n l
def setAt {α:Type} (x:α):Nat → List α → List α
 | _,[]=>[]
 | 0,_ :: l=>x :: l
 | n + 1,a :: l=>a :: setAt x n l
def appB (P:Program) (σ:St) (t tx:TypeId) (s x:Operand):Big :=
 match P.underlying t,σ.c s with
 | some (.slice e),some c=>match szOf P e,bytesSz P e,zeroOf P e with
  | some z,some bs,some zv=>match srcOf P σ tx z x with
   | some (m,news)=>if !(Nat.blt bs 65536 && news.all CV.solid && Nat.beq zv.cells.length z && Nat.blt 0 z) then .no
    else match c with
     | .nilsl=>if Nat.beq m 0 then .st σ (.vl (.one .nilsl)) else if Nat.blt m 65536 then .st (σ.new (.cells (Row.new news) true z)) (.vl (.one (.sl σ.next 0 m none))) else .no
     | .sl id off n (some cap)=>if !(Nat.ble n cap && Nat.blt (n + m) 65536) then .no
      else if Nat.ble (n + m) cap then match σ.ob id with
       | some (.cells cs true zz)=>if Nat.beq m 0 then .st σ (.vl (.one (.sl id off n (some cap)))) else if (cs.gets (off + n * z) (m * z)).isSome then .st (σ.upd id (.cells (cs.puts (off + n * z) news) true zz)) (.vl (.one (.sl id off (n + m) (some cap)))) else .no
       | _=>.no
      else match σ.ob id with
       | some (.cells cs _ _)=>match cs.gets off (n * z) with
        | some olds=>if olds.all CV.solid then .st (σ.new (.cells (Row.new (olds ++ news)) true z)) (.vl (.one (.sl σ.next 0 (n + m) none))) else .no
        | none=>.no
       | _=>.no
     | .sl id off n none=>if !(Nat.blt (n + m) 65536) then .no else if Nat.beq m 0 then .st σ (.vl (.one (.sl id off n none)))
      else match σ.ob id with
       | some (.cells cs true zz)=>if !(Nat.beq zz z) then .no
        else if Nat.beq off 0 then .st ((σ.upd id .dead).new (.cells ((cs.cut (n * z)).puts (n * z) news) true z)) (.vl (.one (.sl σ.next 0 (n + m) none)))
        else match cs.gets off (n * z) with
         | some olds=>.st ((σ.upd id .dead).new (.cells (Row.new (olds ++ news)) true z)) (.vl (.one (.sl σ.next 0 (n + m) none)))
         | none=>.no
       | _=>.no
     | _=>.no
   | none=>.no
  | _,_,_=>.no
 | _,_=>.no
def bigB (P:Program) (σ:St) (b:Builtin) (argTypes:List TypeId) (args:List Operand):Big :=
 match b,argTypes,args with
 | .append,[t,tx],[s,x]=>appB P σ t tx s x
 | .copy,[t,tx],[d,x]=>match P.underlying t,P.underlying tx,σ.c d with
  | some (.slice e),some (.slice _),some c=>match szOf P e with
   | some z=>match srcOf P σ tx z x with
    | some (m,news)=>if !(news.all CV.solid) then .no else match c with
     | .nilsl=>.st σ (.vl (.one (.int .i64 0)))
     | .sl id off n _=>match σ.ob id with
      | some (.cells cs true zz)=>if Nat.beq (Nat.min m n * z) 0 then .st σ (.vl (.one (.int .i64 (Nat.min m n))))
       else if (cs.gets off (Nat.min m n * z)).isSome then .st (σ.upd id (.cells (cs.puts off (news.take (Nat.min m n * z))) true zz)) (.vl (.one (.int .i64 (Nat.min m n)))) else .no
      | _=>.no
     | _=>.no
    | none=>.no
   | none=>.no
  | _,_,_=>.no
 | .delete,[t,_],[m,k]=>match P.underlying t,σ.c m,σ.v k with
  | some (.map kt _),some (.map id),some key=>match σ.ob id with
   | some (.map es clock)=>if !(keyOk P kt key) then .no else match lookM P kt key es with
    | some (some (i,_))=>.st (σ.upd id (.map (delAt i es) clock)) (.tup [])
    | some none=>.st σ (.tup [])
    | none=>.no
   | _=>.no
  | _,_,_=>.no
 | .clear,[t],[x]=>match P.underlying t,σ.c x with
  | some (.slice _),some .nilsl=>.st σ (.tup [])
  | some (.slice e),some (.sl id off n _)=>match σ.ob id,szOf P e,zeroOf P e with
   | some (.cells cs true zz),some z,some zv=>if Nat.blt n 65536 && Nat.beq zv.cells.length z && Nat.blt 0 (n * z) && (cs.gets off (n * z)).isSome then .st (σ.upd id (.cells (cs.puts off (List.replicate n zv.cells).flatten) true zz)) (.tup []) else .no
   | _,_,_=>.no
  | some (.map _ _),some .nilmap=>.st σ (.tup [])
  | some (.map _ _),some (.map id)=>match σ.ob id with
   | some (.map _ clock)=>.st (σ.upd id (.map [] clock)) (.tup [])
   | _=>.no
  | _,_=>.no
 | _,_,_=>.no
def mapSet (P:Program) (σ:St) (kt:TypeId) (id:Nat) (key val:V):Option St :=
 match σ.ob id with
 | some (.map es clock)=>if !(keyOk P kt key) then none else match lookM P kt key es with
  | some (some (i,e))=>some (σ.upd id (.map (setAt {key:=key,val:=val,born:=e.born } i es) clock))
  | some none=>some (σ.upd id (.map (es ++ [{key:=key,val:=val,born:=clock }]) (clock + 1)))
  | none=>none
 | _=>none
def candsOf (es:List ME) (since:Nat) (seen:List Nat):List (Option ME) :=
 let left:=es.filter fun e=>!seen.contains e.born
 let old:=left.filter fun e=>Nat.blt e.born since
 let new:=left.filter fun e=>!Nat.blt e.born since
 (if old.isEmpty then [none] else []) ++ (old ++ new).map some
def bytesT (P:Program) (e:TypeId):Bool:=match P.underlying e with | some (.int .u8)=>true | _=>false
def big (P:Program) (σ:St) (o:Oper):Big :=
 match o.op with
 | .store t a x=>match σ.c a,σ.v x,szOf P t with
  | some (.ptr id off),some v,some n=>match σ.ob id with
   | some (.cells cs true zz)=>if Nat.beq v.cells.length n && v.cells.all CV.solid && (cs.gets off n).isSome && Nat.blt 0 n then .st (σ.upd id (.cells (cs.puts off v.cells) true zz)) undefS else .no
   | _=>.no
  | _,_,_=>.no
 | .mapUpdate t m k x | .insert t m k x=>match P.underlying t,σ.c m,σ.v k,σ.v x with
  | some (.map kt _),some (.map id),some key,some val=>if key.cells.all CV.solid then match mapSet P σ kt id key val with | some σ'=>.st σ' undefS | none=>.no else .no
  | _,_,_,_=>.no
 | .mapEntry t m k=>match P.underlying t,σ.c m,σ.v k with
  | some (.map kt et),some (.map id),some key=>match σ.ob id,zeroOf P et with
   | some (.map es clock),some z=>if !(keyOk P kt key) then .no else match lookM P kt key es with
    | some (some (i,e))=>.st (σ.upd id (.map (setAt {key:=key,val:=e.val,born:=e.born } i es) clock)) (.tup [e.val,.one (.int .i64 e.born)])
    | some none=>.st (σ.upd id (.map (es ++ [{key:=key,val:=z,born:=clock }]) (clock + 1))) (.tup [z,.one (.int .i64 clock)])
    | none=>.no
   | _,_=>.no
  | _,_,_=>.no
 | .entryStore _ m s x=>match σ.c m,natOf σ s,σ.v x with
  | some (.map id),some born,some val=>match σ.ob id with
   | some (.map es clock)=>match es.findIdx? (fun e=>Nat.beq e.born born) with
    | some i=>match es[i]? with
     | some e=>.st (σ.upd id (.map (setAt {e with val:=val } i es) clock)) undefS
     | none=>.no
    | none=>.no
   | _=>.no
  | _,_,_=>.no
 | .next it isString=>match σ.c it with
  | some (.ptr id 0)=>match σ.ob id,isString with
   | some (.siter s pos),true=>match s[pos]? with
    | some b=>if Nat.blt b 128 then .st (σ.upd id (.siter s (pos + 1))) (.tup [.one (.bool true),.one (.int .i64 pos),.one (.int .i32 b)]) else .no
    | none=>.st σ (.tup [.one (.bool false)])
   | some (.miter none _ _ _),false=>.st σ (.tup [.one (.bool false)])
   | some (.miter (some m) since seen last),false=>match σ.ob m with
    | some (.map es clock)=>if !seen.isEmpty && !es.isEmpty && es.all (fun e=>Nat.ble last e.born) then .no else
     .choice ((candsOf es since seen).map fun
      | some e=>(σ.upd id (.miter (some m) since (seen ++ [e.born]) clock),.tup [.one (.bool true),e.key,e.val])
      | none=>(σ,.tup [.one (.bool false)]))
    | _=>.no
   | _,_=>.no
  | _=>.no
 | .call c=>match c.callee with
  | .builtin b=>bigB P σ b c.argTypes.toList c.args.toList
  | .value f=>match σ.c f,mapO σ.v c.args.toList with
   | some (.fn f caps),some args=>.enter f (args ++ caps.map fun p=>.one (.ptr p.1 p.2))
   | _,_=>.no
  | .invoke ..=>.no
 | .convert src dst x=>match P.underlying src,P.underlying dst,σ.c x with
  | some (.slice _),some (.slice e),some (.sl id off len (some cap))=>match σ.ob id with
   | some (.cells cs true z)=>if Nat.beq src dst && bytesT P e then .st (σ.upd id (.cells cs true z)) (.vl (.one (.sl id off len (some cap)))) else .no
   | _=>.no
  | _,_,_=>.no
 | _=>.no
def methOf (P:Program) (t:TypeId) (name:String):Option FuncId :=
 match P.info? t with
 | some i=>match i.methods.find? (fun m=>m.name == name) with
  | some m=>match m.path.toList,m.func,P.underlying t with
   | [],some (f,true),some (.pointer _)=>some f
   | _,_,_=>none
  | none=>none
 | none=>none
def bigC (P:Program) (σ:St) (o:Oper):Big :=
 match o.op with
 | .call {callee:=.invoke r name,args,.. }=>match σ.c r,mapO σ.v args.toList with
  | some (.iface t v),some as=>match methOf P t name with
   | some f=>.enter f (.one v :: as)
   | none=>.no
  | _,_=>.no
 | _=>big P σ o
def capsB:List (Nat × Nat) → List (Nat × Nat) → Bool
 | [],[]=>true
 | a :: x,b :: y=>Nat.beq a.1 b.1 && Nat.beq a.2 b.2 && capsB x y
 | _,_=>false
def optB:Option Nat → Option Nat → Bool
 | none,none=>true
 | some a,some b=>Nat.beq a b
 | _,_=>false
def CV.same:CV → CV → Bool
 | .int k n,.int k' n'=>k == k' && intEq n n'
 | .bool a,.bool b=>a == b
 | .str a,.str b=>strEq a b
 | .nil,.nil=>true
 | .ptr a b,.ptr c d=>Nat.beq a c && Nat.beq b d
 | .nilsl,.nilsl=>true
 | .sl a b c d,.sl a' b' c' d'=>Nat.beq a a' && Nat.beq b b' && Nat.beq c c' && optB d d'
 | .nilmap,.nilmap=>true
 | .map a,.map b=>Nat.beq a b
 | .nilfn,.nilfn=>true
 | .fn f l,.fn g k=>Nat.beq f g && capsB l k
 | .niliface,.niliface=>true
 | .iface t c,.iface u d=>Nat.beq t u && CV.same c d
 | _,_=>false
def cvsB:List CV → List CV → Bool
 | [],[]=>true
 | a :: x,b :: y=>a.same b && cvsB x y
 | _,_=>false
def V.same:V → V → Bool
 | .one a,.one b=>a.same b
 | .agg a,.agg b=>cvsB a b
 | _,_=>false
def vsB:List V → List V → Bool
 | [],[]=>true
 | a :: x,b :: y=>a.same b && vsB x y
 | _,_=>false
def SV.same:SV → SV → Bool
 | .vl a,.vl b=>a.same b
 | .tup a,.tup b=>vsB a b
 | _,_=>false
def ocB:Option CV → Option CV → Bool
 | none,none=>true
 | some a,some b=>a.same b
 | _,_=>false
def T.same:T CV → T CV → Bool
 | .nil,.nil=>true
 | .node a l r,.node b l' r'=>ocB a b && T.same l l' && T.same r r'
 | _,_=>false
def natsB:List Nat → List Nat → Bool:=strEq
def Ob.same:Ob → Ob → Bool
 | .cells r o z,.cells r' o' z'=>T.same r.t r'.t && Nat.beq r.n r'.n && o == o' && Nat.beq z z'
 | .map [] c,.map [] d=>Nat.beq c d
 | .miter a b c d,.miter a' b' c' d'=>optB a a' && Nat.beq b b' && natsB c c' && Nat.beq d d'
 | .siter a b,.siter a' b'=>natsB a a' && Nat.beq b b'
 | _,_=>false
inductive Ex where | normal | exit (id:Nat) | ret
inductive Job where
 | code (c:Code)
 | rounds (c:Code)
 | ops (all:Array Oper) (l:List Oper)
 | op (all:Array Oper) (o:Oper)
 | reg (ops:List Oper) (bigs:List Nat) (done:List Bool) (last:Option Nat) (nx0:Nat)
inductive Gd where | yes | no | bad
def guardG (all:Array Oper) (σ:St) (o:Oper):Gd :=
 match o.guard with
 | none=>.yes
 | some (j,want)=>match (all[j]?).bind (·.dst) with
  | none=>.no
  | some t=>if Nat.blt t σ.nt then match σ.get t with
   | .vl (.one (.bool b))=>if b == want then .yes else .no
   | .vl (.one .top)=>.bad
   | _=>.no
   else .bad
def isBig (o:Oper):Bool :=
 match o.op with
 | .store .. | .mapUpdate .. | .insert .. | .mapEntry .. | .entryStore .. | .next ..=>true
 | .call c=>match c.callee with
  | .builtin .len | .builtin .min | .builtin .max=>false
  | _=>true
 | _=>false
def keep (P:Program) (σ:St) (o:Oper):Option SV :=
 match light P σ o with
 | some s=>some s
 | none=>buildC P σ o
def calm (P:Program) (σ:St) (o:Oper):Option (St × SV) :=
 match keep P σ o with
 | some s=>some (σ,s)
 | none=>match made P σ o with
  | some (ob,f)=>some (σ.new ob,.vl (.one (f σ.next)))
  | none=>none
def St.tk (σ σ':St):St:={σ with heap:=σ'.heap,next:=σ'.next }
def resOne (P:Program) (σ:St):ResultVar → Option V
 | .tmp t=>match σ.get t with | .vl v=>some v | _=>none
 | .cell t ty=>match σ.get t with
  | .vl (.one (.ptr id off))=>readAt P σ ty id off
  | _=>none
def resS (P:Program) (σ:St) (fn:Func):Option (List V):=mapO (resOne P σ) fn.results.toList
def tmps0 (args:List V):T SV:=T.puts .nil 0 (args.map SV.vl)
def bindsB (e:Edge):Bool:=Region.binds .any e
def predsDone (o:Oper) (done:List Bool):Bool:=o.after.toList.all fun e=>!bindsB e || done.getD e.on false
def ancStep (n:Nat) (acc:List (List Bool)) (o:Oper):List (List Bool) :=
 acc ++ [(List.range n).map fun j=>o.after.toList.any fun e=>bindsB e && (Nat.beq e.on j || ((acc.getD e.on []).getD j false))]
def ancs (ops:List Oper):List (List Bool):=ops.foldl (ancStep ops.length) []
def anc (ops:List Oper) (i j:Nat):Bool:=((ancs ops).getD j []).getD i false
def isTmp (t:Nat):Operand → Bool | .tmp u=>Nat.beq u t | _=>false
def direct (ops:List Oper) (i j:Nat):Bool:=match ops[j]? with | some o=>o.after.toList.any fun e=>bindsB e && Nat.beq e.on i | none=>false
def reads (o:Oper) (t:Nat):Bool:=o.op.operands.toList.any (isTmp t)
def clash (ops:List Oper) (o:Oper) (i:Nat):Bool :=
 match o.dst with
 | none=>false
 | some t=>reads o t || ops.zipIdx.any fun q=>!(Nat.beq q.2 i) && (q.1.dst == some t || (reads q.1 t && !direct ops i q.2))
def greatB (ops:List Oper):List Bool:=ops.zipIdx.map fun p=>isBig p.1 || clash ops p.1 p.2
def bigsOf (ops:List Oper):List Nat:=((greatB ops).zipIdx.filter fun p=>p.1).map (·.2)
def chainB (ops:List Oper):List Nat → Bool
 | a :: b :: r=>anc ops a b && chainB ops (b :: r)
 | _=>true
def shapeOk (ops:List Oper):Bool :=
 let l:=ops.zipIdx
 (l.all fun p=>p.1.after.toList.all fun e=>!bindsB e || Nat.blt e.on p.2) &&
 (l.all fun p=>match p.1.guard with | none=>true | some (j,_)=>direct ops j p.2 && match ops[j]? with | some o=>o.dst.isSome | none=>false) &&
 chainB ops (bigsOf ops) &&
 (l.all fun p=>match p.1.dst with
  | none=>true
  | some t=>l.all fun q=>Nat.beq p.2 q.2 || !(reads q.1 t) || direct ops p.2 q.2 || anc ops q.2 p.2)
def passL (P:Program) (all:Array Oper) (gr:List Bool):List (Oper × Nat) → St → List Bool → Option (St × List Bool)
 | [],σ,d=>some (σ,d)
 | (o,i) :: r,σ,d=>if d.getD i false || gr.getD i true || !(predsDone o d) then passL P all gr r σ d else
  match guardG all σ o with
  | .bad=>none
  | .no=>passL P all gr r (σ.put o.dst undefS) (d.set i true)
  | .yes=>match calm P σ o with
   | some (σ',s)=>passL P all gr r ((σ.tk σ').put o.dst s) (d.set i true)
   | none=>none
def idOf:SV → Option Nat
 | .vl (.one (.ptr id _))=>some id
 | .vl (.one (.sl id _ _ _))=>some id
 | .vl (.one (.map id))=>some id
 | _=>none
def sameAt (σ:St) (dst:Option Nat) (s:SV):Bool:=match dst with | none=>true | some t=>Nat.blt t σ.nt && (σ.get t).same s
def madeB (P:Program) (o:Oper):Bool :=
 match o.op with
 | .alloc _ | .box .. | .buildSlice .. | .makeMap .. | .makeSlice .. | .range ..=>true
 | .convert s d _=>match P.underlying s,P.underlying d with
  | some .string,some (.slice _)=>true
  | _,_=>false
 | _=>false
def again (P:Program) (all:Array Oper) (σ:St) (o:Oper) (nx0:Nat):Option (Option Nat) :=
 match guardG all σ o with
 | .bad=>none
 | .no=>if sameAt σ o.dst undefS then some none else none
 | .yes=>if madeB P o then match made P σ o,o.dst with
   | some (ob,f),some t=>match idOf (σ.get t) with
    | some id=>match σ.ob id with
     | some ob'=>if Nat.blt t σ.nt && (σ.get t).same (.vl (.one (f id))) && ob'.same ob && Nat.ble nx0 id && Nat.blt id σ.next then some (some id) else none
     | none=>none
    | none=>none
   | _,_=>none
  else match keep P σ o with
  | some s=>if sameAt σ o.dst s then some none else none
  | none=>none
def notIn (id:Nat):List Nat → Bool
 | []=>true
 | a :: r=>!Nat.beq a id && notIn id r
def nodeOk (P:Program) (all:Array Oper) (ops:List Oper) (gr:List Bool) (d0 d:List Bool) (last:Option Nat) (σ:St) (nx0 nx:Nat):List (Oper × Nat) → List Nat → Bool
 | [],_=>true
 | (o,i) :: r,ids=>if gr.getD i true then nodeOk P all ops gr d0 d last σ nx0 nx r ids
  else if !d.getD i false then !(predsDone o d) && nodeOk P all ops gr d0 d last σ nx0 nx r ids
  else if (match last with | none=>false | some b=>anc ops i b) then nodeOk P all ops gr d0 d last σ nx0 nx r ids
  else match again P all σ o nx0 with
   | none=>false
   | some none=>nodeOk P all ops gr d0 d last σ nx0 nx r ids
   | some (some id)=>notIn id ids && (d0.getD i false || Nat.ble nx id) && nodeOk P all ops gr d0 d last σ nx0 nx r (id :: ids)
abbrev Oracle:=St → FuncId → List V → Option (St × SV)
def exec (P:Program) (Or:Oracle):Nat → Job → St → (Ex → St → Bool) → Bool
 | 0,_,_,_=>false
 | n + 1,job,σ,k=>match job with
  | .code c=>match c with
   | .skip=>k .normal σ
   | .region _ ops draw=>if draw then
     if shapeOk ops.toList then exec P Or n (.reg ops.toList (bigsOf ops.toList) (List.replicate ops.size false) none σ.next) σ k else false
    else exec P Or n (.ops ops ops.toList) σ k
   | .seq a b=>exec P Or n (.code a) σ fun e σ'=>match e with
    | .normal=>exec P Or n (.code b) σ' k
    | e=>k e σ'
   | .cond c x y=>match boolOf σ c with
    | some true=>exec P Or n (.code x) σ k
    | some false=>exec P Or n (.code y) σ k
    | none=>false
   | .block id c=>exec P Or n (.code c) σ fun e σ'=>match e with
    | .exit id'=>if Nat.beq id' id then k .normal σ' else k (.exit id') σ'
    | e=>k e σ'
   | .loop c=>exec P Or n (.rounds c) σ k
   | .exit id=>k (.exit id) σ
   | .ret=>k .ret σ
   | .label _=>k .normal σ
   | _=>false
  | .rounds c=>exec P Or n (.code c) σ fun e σ'=>match e with
    | .normal=>exec P Or n (.rounds c) σ' k
    | e=>k e σ'
  | .ops all l=>match l with
   | []=>k .normal σ
   | o :: rest=>exec P Or n (.op all o) σ fun _ σ'=>exec P Or n (.ops all rest) σ' k
  | .op all o=>match guardG all σ o with
   | .bad=>false
   | .no=>k .normal (σ.put o.dst undefS)
   | .yes=>match calm P σ o with
    | some (σ',s)=>k .normal ((σ.tk σ').put o.dst s)
    | none=>match bigC P σ o with
     | .st σ' s=>k .normal ((σ.tk σ').put o.dst s)
     | .choice l=>l.all fun p=>k .normal ((σ.tk p.1).put o.dst p.2)
     | .enter f args=>match Or σ f args with
      | some (σ',s)=>k .normal ((σ.tk σ').put o.dst s)
      | none=>match P.funcs[f]? with
       | some fn=>match fn.body with
        | some c=>if fn.name == "runtime.NumGoroutine" || !(Nat.ble args.length fn.ntmps && Nat.ble fn.ntmps 65536) then false else
         exec P Or n (.code c) {σ with tmps:=tmps0 args,nt:=fn.ntmps } fun e σ'=>match e with
         | .exit _=>false
         | _=>match resS P σ' fn with
          | some vs=>k .normal ((σ.tk σ').put o.dst (retS vs))
          | none=>false
        | none=>false
       | none=>false
     | .no=>false
  | .reg ops bigs done last nx0=>match passL P ops.toArray (greatB ops) ops.zipIdx σ done with
   | none=>false
   | some (σ1,d1)=>if nodeOk P ops.toArray ops (greatB ops) done d1 last σ1 nx0 σ.next ops.zipIdx [] then match bigs with
    | []=>if d1.all id then k .normal σ1 else false
    | b :: r=>match ops[b]? with
     | some o=>if predsDone o d1 then exec P Or n (.op ops.toArray o) σ1 fun _ σ2=>exec P Or n (.reg ops r (d1.set b true) (some b) nx0) σ2 k else false
     | none=>false
    else false
end Go.Cx
namespace Go.Cx
open Go Go.Sx Go.RowKit
section
variable {α:Type}
theorem T.get_set_ne:∀ (f:Nat) (t:T α) (i j:Nat) (x:α),i ≠ j → T.get f (T.set f t i x) j=T.get f t j
 | 0,_,_,_,_,_=>rfl
 | f + 1,t,i,j,x,h=>by
  cases t with
  | nil =>
   cases i with
   | zero=>cases j with
    | zero=>exact absurd rfl h
    | succ j=>simp only [T.set,T.get]; split <;> (cases f <;> rfl)
   | succ i =>
    cases j with
    | zero=>simp only [T.set]; split <;> simp [T.get]
    | succ j =>
     simp only [T.set]
     by_cases hi:Nat.beq (i % 2) 0=true
     ·simp only [hi,if_true,T.get]
      by_cases hj:Nat.beq (j % 2) 0=true
      ·simp only [hj,if_true]
       rw [T.get_set_ne f .nil (i / 2) (j / 2) x (by simp at hi hj; omega)]
       cases f <;> rfl
      ·simp only [hj]; cases f <;> rfl
     ·simp only [hi,T.get]
      by_cases hj:Nat.beq (j % 2) 0=true
      ·simp only [hj,if_true]; cases f <;> rfl
      ·simp only [hj]
       simp only [Bool.false_eq_true,if_false]
       rw [T.get_set_ne f .nil (i / 2) (j / 2) x (by simp at hi hj; omega)]
       cases f <;> rfl
  | node v l r =>
   cases i with
   | zero=>cases j with
    | zero=>exact absurd rfl h
    | succ j=>simp only [T.set,T.get]
   | succ i =>
    cases j with
    | zero=>simp only [T.set]; split <;> simp [T.get]
    | succ j =>
     simp only [T.set]
     by_cases hi:Nat.beq (i % 2) 0=true
     ·simp only [hi,if_true,T.get]
      by_cases hj:Nat.beq (j % 2) 0=true
      ·simp only [hj,if_true]
       exact T.get_set_ne f l (i / 2) (j / 2) x (by simp at hi hj; omega)
      ·simp only [hj,Bool.false_eq_true,if_false]
     ·simp only [hi,T.get]
      by_cases hj:Nat.beq (j % 2) 0=true
      ·simp only [hj,if_true]; rfl
      ·simp only [hj,Bool.false_eq_true,if_false,T.get]
       exact T.get_set_ne f r (i / 2) (j / 2) x (by simp at hi hj; omega)
theorem T.get_set_eq:∀ (f:Nat) (t:T α) (i:Nat) (x y:α),T.get f (T.set f t i x) i=some y → y=x
 | 0,_,_,_,_,h=>by cases h
 | f + 1,t,i,x,y,h=>by
  cases t with
  | nil =>
   cases i with
   | zero=>simp [T.set,T.get] at h; exact h.symm
   | succ i =>
    simp only [T.set] at h
    by_cases hi:Nat.beq (i % 2) 0=true
    ·simp only [hi,if_true,T.get] at h; exact T.get_set_eq f _ _ _ _ h
    ·simp only [hi,Bool.false_eq_true,if_false,T.get] at h; exact T.get_set_eq f _ _ _ _ h
  | node v l r =>
   cases i with
   | zero=>simp [T.set,T.get] at h; exact h.symm
   | succ i =>
    simp only [T.set] at h
    by_cases hi:Nat.beq (i % 2) 0=true
    ·simp only [hi,if_true,T.get] at h; exact T.get_set_eq f _ _ _ _ h
    ·simp only [hi,Bool.false_eq_true,if_false,T.get] at h; exact T.get_set_eq f _ _ _ _ h
theorem T.at_ne (t:T α) {i j:Nat} (x:α) (h:i ≠ j):(t.put i x).at j=t.at j:=T.get_set_ne _ _ _ _ _ h
theorem T.at_eq {t:T α} {i:Nat} {x y:α} (h:(t.put i x).at i=some y):y=x:=T.get_set_eq _ _ _ _ _ h
theorem T.at_puts:∀ (l:List α) (t:T α) (n i:Nat) (y:α),(t.puts n l).at i=some y → (n ≤ i ∧ l[i - n]?=some y) ∨ (t.at i=some y ∧ (i < n ∨ n + l.length ≤ i))
 | [],t,n,i,y,h=>.inr ⟨h,by simp; omega⟩
 | x :: l,t,n,i,y,h=>by
  simp only [T.puts] at h
  rcases T.at_puts l _ _ _ _ h with ⟨h1,h2⟩ | ⟨h1,h2⟩
  ·left
   refine ⟨by omega,?_⟩
   rw [show i - n=(i - (n + 1)) + 1 by omega]
   simpa using h2
  ·by_cases hi:n=i
   ·subst hi
    left
    rw [T.at_eq h1]; simp
   ·rw [T.at_ne _ _ hi] at h1
    right
    simp only [List.length_cons]
    exact ⟨h1,by omega⟩
end
theorem Row.gets_ok:∀ (n:Nat) (t:Row) (off:Nat) (l:List CV),t.gets off n=some l → l.length=n ∧ ∀ i x,l[i]?=some x → t.at (off + i)=some x
 | 0,t,off,l,h=>by simp [Row.gets] at h; subst h; simp
 | n + 1,t,off,l,h=>by
  simp only [Row.gets] at h
  split at h
  ·cases h
  ·rename_i c hc
   split at h
   ·cases h
   ·rename_i r hr
    cases h
    obtain ⟨h1,h2⟩:=Row.gets_ok n t (off + 1) r hr
    refine ⟨by simp [h1],fun i x hi=>?_⟩
    cases i with
    | zero=>simp at hi; subst hi; exact hc
    | succ i=>rw [show off + (i + 1)=off + 1 + i by omega]; exact h2 i x (by simpa using hi)
theorem Row.at_lt {r:Row} {i:Nat} {y:CV} (h:r.at i=some y):i < r.n ∧ r.t.at i=some y:=by
 unfold Row.at at h
 split at h
 ·rename_i hl; exact ⟨by simpa using hl,h⟩
 ·cases h
theorem Row.at_of {r:Row} {i:Nat} {y:CV} (h:i < r.n) (k:r.t.at i=some y):r.at i=some y:=by
 unfold Row.at
 rw [if_pos (by simpa using h)]; exact k
theorem Row.at_puts (l:List CV) (t:Row) (n i:Nat) (y:CV) (h:(t.puts n l).at i=some y):(n ≤ i ∧ l[i - n]?=some y) ∨ (t.at i=some y ∧ (i < n ∨ n + l.length ≤ i ∨ t.n < n)):=by
 unfold Row.puts at h
 split at h
 ·rename_i hn
  have hn:n ≤ t.n:=by simpa using hn
  obtain ⟨h1,h2⟩:=Row.at_lt h
  simp only at h1 h2
  rcases T.at_puts l _ _ _ _ h2 with h3 | ⟨h3,h4⟩
  ·exact .inl h3
  ·right
   refine ⟨Row.at_of ?_ h3,by omega⟩
   split at h1
   ·rename_i hb; simp at hb; omega
   ·exact h1
 ·rename_i hn
  have hn:¬ n ≤ t.n:=by simpa using hn
  exact .inr ⟨h,.inr (.inr (by omega))⟩
theorem Row.at_new {l:List CV} {i:Nat} {y:CV} (h:(Row.new l).at i=some y):l[i]?=some y:=by
 obtain ⟨h1,h2⟩:=Row.at_lt h
 rcases T.at_puts l _ _ _ _ h2 with ⟨_,h3⟩ | ⟨h3,_⟩
 ·simpa using h3
 ·cases h3
theorem Row.at_cut {r:Row} {k i:Nat} {y:CV} (h:(r.cut k).at i=some y):i < k ∧ r.at i=some y:=by
 obtain ⟨h1,h2⟩:=Row.at_lt h
 unfold Row.cut at h1
 simp only at h1
 split at h1
 ·rename_i hb; simp at hb; exact ⟨h1,Row.at_of (by omega) h2⟩
 ·rename_i hb; simp at hb; exact ⟨by omega,Row.at_of h1 h2⟩
structure Pl where
 b:Nat
 o:Nat
 n:Nat
 z:Nat
abbrev Rho:=Nat → Option Pl
def Pl.at (p:Pl) (off:Nat):Addr:=⟨p.b,p.o + off,none⟩
def CapsR (ρ:Rho):List (Nat × Nat) → List Value → Prop
 | [],[]=>True
 | c :: cs,v :: vs=>(∃ p,ρ c.1=some p ∧ v=.pointer (some (p.at c.2))) ∧ CapsR ρ cs vs
 | _,_=>False
def CV.R (ρ:Rho):CV → Value → Prop
 | .int k n,v=>v=.int k n
 | .bool b,v=>v=.bool b
 | .str l,v=>∃ s,v=.string s ∧ strOf s=l
 | .nil,v=>v=.pointer none
 | .ptr id off,v=>∃ p,ρ id=some p ∧ v=.pointer (some (p.at off))
 | .nilsl,v=>v=.slice none 0 0
 | .sl id off len (some cap),v=>∃ p,ρ id=some p ∧ v=.slice (some (p.at off)) len cap
 | .sl id off len none,v=>∃ p a c,ρ id=some p ∧ v=.slice (some a) len c ∧ len ≤ c ∧ ((a=p.at off ∧ p.o + off + c * p.z ≤ p.n) ∨ (len=0 ∧ c=0))
 | .map id,v=>∃ p,ρ id=some p ∧ v=.map (some p.b)
 | .nilmap,v=>v=.map none
 | .nilfn,v=>v=.nilFunc
 | .fn f caps,v=>∃ vs:List Value,v=.func (.func f) #[] vs.toArray ∧ CapsR ρ caps vs
 | .niliface,v=>v=.nilIface
 | .iface t c,v=>∃ u,v=.iface t u ∧ CV.R ρ c u ∧ u.oneCell'=true
 | .top,_=>True
def CRs (ρ:Rho):List CV → List Value → Prop
 | [],[]=>True
 | c :: cs,v :: vs=>c.R ρ v ∧ CRs ρ cs vs
 | _,_=>False
def V.R (ρ:Rho):V → Value → Prop
 | .one c,v=>c.R ρ v
 | .agg cs,v=>∃ vs:List Value,v=.agg vs.toArray ∧ CRs ρ cs vs
def VRs (ρ:Rho):List V → List Value → Prop
 | [],[]=>True
 | c :: cs,v :: vs=>c.R ρ v ∧ VRs ρ cs vs
 | _,_=>False
def SV.R (ρ:Rho):SV → Value → Prop
 | .vl x,v=>x.R ρ v
 | .tup l,v=>∃ vs:List Value,v=.tuple vs.toArray ∧ VRs ρ l vs
def Ext (ρ ρ':Rho):Prop:=∀ id p,ρ id=some p → ρ' id=some p
theorem Ext.refl (ρ:Rho):Ext ρ ρ:=fun _ _ h=>h
theorem Ext.trans {a b c:Rho} (h:Ext a b) (k:Ext b c):Ext a c:=fun id p hp=>k id p (h id p hp)
section
variable {ρ ρ':Rho}
theorem CapsR.mono (h:Ext ρ ρ'):∀ {cs:List (Nat × Nat)} {vs:List Value},CapsR ρ cs vs → CapsR ρ' cs vs
 | [],[],_=>trivial
 | [],_ :: _,k=>k.elim
 | _ :: _,[],k=>k.elim
 | _ :: _,_ :: _,⟨⟨p,k1,k2⟩,k⟩=>⟨⟨p,h _ _ k1,k2⟩,CapsR.mono h k⟩
theorem CV.R.mono (h:Ext ρ ρ'):∀ {c:CV} {v:Value},c.R ρ v → c.R ρ' v
 | .int _ _,v,k=>k
 | .bool b,v,k=>k
 | .str l,v,k=>k
 | .nil,v,k=>k
 | .ptr id off,v,⟨p,k1,k2⟩=>⟨p,h _ _ k1,k2⟩
 | .nilsl,v,k=>k
 | .sl id off len (some cap),v,⟨p,k1,k2⟩=>⟨p,h _ _ k1,k2⟩
 | .sl id off len none,v,⟨p,a,c,k1,k2⟩=>⟨p,a,c,h _ _ k1,k2⟩
 | .map id,v,⟨p,k1,k2⟩=>⟨p,h _ _ k1,k2⟩
 | .nilmap,v,k=>k
 | .nilfn,v,k=>k
 | .fn f caps,v,⟨vs,k1,k2⟩=>⟨vs,k1,k2.mono h⟩
 | .niliface,v,k=>k
 | .iface t c,v,⟨u,k1,k2,k3⟩=>⟨u,k1,CV.R.mono h k2,k3⟩
 | .top,_,k=>k
theorem CRs.mono (h:Ext ρ ρ'):∀ {cs:List CV} {vs:List Value},CRs ρ cs vs → CRs ρ' cs vs
 | [],[],_=>trivial
 | [],_ :: _,k=>k.elim
 | _ :: _,[],k=>k.elim
 | _ :: _,_ :: _,k=>⟨k.1.mono h,CRs.mono h k.2⟩
theorem V.R.mono (h:Ext ρ ρ') {x:V} {v:Value} (k:x.R ρ v):x.R ρ' v:=by
 cases x with
 | one c=>exact CV.R.mono h k
 | agg cs=>obtain ⟨vs,k1,k2⟩:=k; exact ⟨vs,k1,k2.mono h⟩
theorem VRs.mono (h:Ext ρ ρ'):∀ {cs:List V} {vs:List Value},VRs ρ cs vs → VRs ρ' cs vs
 | [],[],_=>trivial
 | [],_ :: _,k=>k.elim
 | _ :: _,[],k=>k.elim
 | _ :: _,_ :: _,k=>⟨k.1.mono h,VRs.mono h k.2⟩
theorem SV.R.mono (h:Ext ρ ρ') {x:SV} {v:Value} (k:x.R ρ v):x.R ρ' v:=by
 cases x with
 | vl c=>exact V.R.mono h k
 | tup cs=>obtain ⟨vs,k1,k2⟩:=k; exact ⟨vs,k1,k2.mono h⟩
theorem CRs.length:∀ {cs:List CV} {vs:List Value},CRs ρ cs vs → cs.length=vs.length
 | [],[],_=>rfl
 | [],_ :: _,k=>k.elim
 | _ :: _,[],k=>k.elim
 | _ :: _,_ :: _,k=>by simp [CRs.length k.2]
theorem CRs.get:∀ {cs:List CV} {vs:List Value},CRs ρ cs vs → ∀ (i:Nat) (c:CV),cs[i]?=some c → ∃ v,vs[i]?=some v ∧ c.R ρ v
 | [],[],_,i,c,hi=>by simp at hi
 | [],_ :: _,k,_,_,_=>k.elim
 | _ :: _,[],k,_,_,_=>k.elim
 | _ :: _,_ :: _,h,0,c,hi=>by simp at hi; subst hi; exact ⟨_,rfl,h.1⟩
 | _ :: _,_ :: _,h,i + 1,c,hi=>by simpa using CRs.get h.2 i c (by simpa using hi)
theorem CRs.of_get:∀ {cs:List CV} {vs:List Value},cs.length=vs.length → (∀ (i:Nat) (c:CV),cs[i]?=some c → ∃ v,vs[i]?=some v ∧ c.R ρ v) → CRs ρ cs vs
 | [],[],_,_=>trivial
 | c :: cs,v :: vs,hl,h=>⟨by obtain ⟨u,hu,hr⟩:=h 0 c rfl; simp at hu; subst hu; exact hr,CRs.of_get (by simpa using hl) fun i c hi=>by simpa using h (i + 1) c (by simpa using hi)⟩
 | [],_ :: _,hl,_=>by simp at hl
 | _ :: _,[],hl,_=>by simp at hl
theorem CRs.app:∀ {cs ds:List CV} {vs us:List Value},CRs ρ cs vs → CRs ρ ds us → CRs ρ (cs ++ ds) (vs ++ us)
 | [],_,[],_,_,k=>k
 | [],_,_ :: _,_,k,_=>k.elim
 | _ :: _,_,[],_,k,_=>k.elim
 | _ :: _,_,_ :: _,_,h,k=>⟨h.1,CRs.app h.2 k⟩
theorem CRs.take:∀ {cs:List CV} {vs:List Value},CRs ρ cs vs → ∀ n,CRs ρ (cs.take n) (vs.take n)
 | [],[],_,n=>by simp [CRs]
 | [],_ :: _,k,_=>k.elim
 | _ :: _,[],k,_=>k.elim
 | _ :: _,_ :: _,_,0=>by simp [CRs]
 | _ :: _,_ :: _,h,n + 1=>⟨h.1,CRs.take h.2 n⟩
theorem CRs.drop:∀ {cs:List CV} {vs:List Value},CRs ρ cs vs → ∀ n,CRs ρ (cs.drop n) (vs.drop n)
 | [],[],_,n=>by simp [CRs]
 | [],_ :: _,k,_=>k.elim
 | _ :: _,[],k,_=>k.elim
 | _ :: _,_ :: _,h,0=>h
 | _ :: _,_ :: _,h,n + 1=>CRs.drop h.2 n
theorem VRs.get:∀ {cs:List V} {vs:List Value},VRs ρ cs vs → ∀ (i:Nat) (c:V),cs[i]?=some c → ∃ v,vs[i]?=some v ∧ c.R ρ v
 | [],[],_,i,c,hi=>by simp at hi
 | [],_ :: _,k,_,_,_=>k.elim
 | _ :: _,[],k,_,_,_=>k.elim
 | _ :: _,_ :: _,h,0,c,hi=>by simp at hi; subst hi; exact ⟨_,rfl,h.1⟩
 | _ :: _,_ :: _,h,i + 1,c,hi=>by simpa using VRs.get h.2 i c (by simpa using hi)
theorem CV.R.one {c:CV} {v:Value} (h:c.R ρ v) (hs:c.solid=true):v.oneCell'=true:=by
 cases c with
 | top=>cases hs
 | str l=>obtain ⟨s,rfl,_⟩:=h; rfl
 | ptr id off=>obtain ⟨p,_,rfl⟩:=h; rfl
 | sl id off len cap=>cases cap with
  | none=>obtain ⟨p,a,c,_,rfl,_⟩:=h; rfl
  | some cap=>obtain ⟨p,_,rfl⟩:=h; rfl
 | map id=>obtain ⟨p,_,rfl⟩:=h; rfl
 | fn f caps=>obtain ⟨vs,rfl,_⟩:=h; rfl
 | iface t c=>obtain ⟨u,rfl,_⟩:=h; rfl
 | _=>simp only [CV.R] at h; subst h; rfl
theorem CRs.one:∀ {cs:List CV} {vs:List Value},CRs ρ cs vs → cs.all CV.solid=true → ∀ v ∈ vs,v.oneCell'=true
 | [],[],_,_,v,hv=>by cases hv
 | [],_ :: _,k,_,_,_=>k.elim
 | _ :: _,[],k,_,_,_=>k.elim
 | c :: cs,u :: us,h,hs,v,hv=>by
  simp only [List.all_cons,Bool.and_eq_true] at hs
  rcases List.mem_cons.1 hv with rfl | hv
  ·exact h.1.one hs.1
  ·exact CRs.one h.2 hs.2 v hv
theorem V.R.cells {x:V} {v:Value} (h:x.R ρ v) (hs:x.cells.all CV.solid=true):∃ vs:List Value,v.cells=vs.toArray ∧ CRs ρ x.cells vs ∧ (∀ u ∈ vs,u.oneCell'=true):=by
 cases x with
 | one c =>
  have h1:v.oneCell'=true:=CV.R.one h (by simpa [V.cells] using hs)
  refine ⟨[v],?_,⟨h,trivial⟩,by simpa using h1⟩
  cases v <;> first | rfl | (simp [Value.oneCell'] at h1)
 | agg cs=>obtain ⟨vs,rfl,hr⟩:=h; exact ⟨vs,rfl,hr,hr.one hs⟩
theorem cOf_R {v:Value} {c:CV} (h:cOf v=some c):c.R ρ v ∧ c.solid=true:=by
 unfold cOf at h
 split at h
 all_goals (cases h; try exact ⟨rfl,rfl⟩)
 exact ⟨⟨_,rfl,rfl⟩,rfl⟩
theorem mapO_R {vs:List Value}:∀ {cs:List CV},mapO cOf vs=some cs → CRs ρ cs vs ∧ cs.all CV.solid=true:=by
 induction vs with
 | nil=>intro cs h; simp [mapO] at h; subst h; exact ⟨trivial,rfl⟩
 | cons v vs ih =>
  intro cs h
  unfold mapO at h
  split at h
  ·cases h
  ·rename_i c hc
   split at h
   ·cases h
   ·rename_i ds hd
    cases h
    have:=ih hd
    have hc':=cOf_R (ρ:=ρ) hc
    exact ⟨⟨hc'.1,this.1⟩,by simp [hc'.2,this.2]⟩
theorem vOf_R {v:Value} {x:V} (h:vOf v=some x):x.R ρ v ∧ x.cells.all CV.solid=true:=by
 unfold vOf at h
 split at h
 ·rename_i cs
  cases hm:mapO cOf cs.toList with
  | none=>simp [hm] at h
  | some ds=>simp [hm] at h; subst h; have:=mapO_R (ρ:=ρ) hm; exact ⟨⟨cs.toList,by simp,this.1⟩,this.2⟩
 ·cases hm:cOf v with
  | none=>simp [hm] at h
  | some c=>simp [hm] at h; subst h; have:=cOf_R (ρ:=ρ) hm; exact ⟨this.1,by simp [V.cells,this.2]⟩
end
def MEs (ρ:Rho):List ME → List MapEntry → Prop
 | [],[]=>True
 | e :: es,f :: fs=>(e.key.R ρ f.key ∧ e.val.R ρ f.val ∧ f.born=e.born) ∧ MEs ρ es fs
 | _,_=>False
def Ob.own:Ob → Bool | .dead=>false | .cells _ o _=>o | _=>true
def Ob.R (S:Nat → Prop) (ρ:Rho) (p:Pl) (w:World):Ob → Prop
 | .dead=>True
 | .cells cs own z=>∃ c t fz,w.heap[p.b]?=some (.cells c t fz) ∧ p.n=c.size ∧ p.z=z ∧ (own=true → ¬ S p.b ∧ (fz.1=fz.2 ∨ c.size ≤ fz.1)) ∧ (own=false → S p.b) ∧
   ∀ i cv,cs.at i=some cv → ∃ v,c[p.o + i]?=some v ∧ cv.R ρ v
 | .map es clock=>¬ S p.b ∧ ∃ ar,w.heap[p.b]?=some (.map ar clock) ∧ MEs ρ es ar.toList
 | .miter m since seen last=>¬ S p.b ∧ p.o=0 ∧ ∃ m',w.heap[p.b]?=some (.mapIter m' since seen.toArray last) ∧ (match m with | none=>m'=none | some id=>∃ q,ρ id=some q ∧ m'=some q.b)
 | .siter s pos=>¬ S p.b ∧ p.o=0 ∧ ∃ s',w.heap[p.b]?=some (.stringIter s' pos) ∧ strOf s'=s
structure WR (Z S:Nat → Prop) (F:Nat → Option Obj) (w0:World) (ρ:Rho) (H:T Ob) (nx:Nat) (w:World):Prop where
 os:w.os=w0.os
 tape:w.tape=w0.tape
 output:w.output=w0.output
 size:w0.heap.size ≤ w.heap.size
 keep:∀ b,S b → w.heap[b]?=F b
 slt:∀ b,S b → b < w.heap.size
 lt:∀ id p,ρ id=some p → id < nx ∧ p.b < w.heap.size
 ob:∀ id p o,ρ id=some p → H.at id=some o → o.R S ρ p w
 inj:∀ id id' p p' o o',ρ id=some p → ρ id'=some p' → H.at id=some o → H.at id'=some o' → o.own=true → o'.own=true → id ≠ id' → p.b ≠ p'.b
 free:∀ id,Z id → ρ id=none ∧ id < nx
structure Rep (Z S:Nat → Prop) (F:Nat → Option Obj) (w0:World) (ρ:Rho) (live:Nat → Prop) (σ:St) (a:Act) (w:World):Prop where
 defers:a.defers=[]
 size:a.tmps.size=σ.nt
 nt:σ.nt ≤ 65536
 tmp:∀ t,live t → t < σ.nt → (σ.get t).R ρ (a.tmps.getD t undef)
 gl:∀ p ∈ σ.gl,∃ q,ρ p.2=some q ∧ q.b=p.1 ∧ q.o=0
 wr:WR Z S F w0 ρ σ.heap σ.next w
theorem MEs.mono {ρ ρ':Rho} (h:Ext ρ ρ'):∀ {es:List ME} {fs:List MapEntry},MEs ρ es fs → MEs ρ' es fs
 | [],[],_=>trivial
 | [],_ :: _,k=>k.elim
 | _ :: _,[],k=>k.elim
 | _ :: _,_ :: _,⟨⟨a,b,c⟩,k⟩=>⟨⟨a.mono h,b.mono h,c⟩,MEs.mono h k⟩
theorem Ob.R.mono {S:Nat → Prop} {ρ ρ':Rho} {p:Pl} {w w':World} (h:Ext ρ ρ') (hw:w'.heap[p.b]?=w.heap[p.b]?) {o:Ob} (k:o.R S ρ p w):o.R S ρ' p w':=by
 cases o with
 | dead=>trivial
 | cells cs own z =>
  obtain ⟨c,t,fz,k1,k2,k2',k3,k4,k5⟩:=k
  exact ⟨c,t,fz,by rw [hw]; exact k1,k2,k2',k3,k4,fun i cv hi=>by obtain ⟨v,h1,h2⟩:=k5 i cv hi; exact ⟨v,h1,h2.mono h⟩⟩
 | map es clock=>obtain ⟨k1,ar,k2,k3⟩:=k; exact ⟨k1,ar,by rw [hw]; exact k2,k3.mono h⟩
 | miter m since seen last =>
  obtain ⟨k1,k0,m',k2,k3⟩:=k
  refine ⟨k1,k0,m',by rw [hw]; exact k2,?_⟩
  cases m with
  | none=>exact k3
  | some id=>obtain ⟨q,h1,h2⟩:=k3; exact ⟨q,h _ _ h1,h2⟩
 | siter s pos=>obtain ⟨k1,k0,s',k2,k3⟩:=k; exact ⟨k1,k0,s',by rw [hw]; exact k2,k3⟩
theorem Pl.at_add (p:Pl) (off j:Nat):(p.at off).add j=p.at (off + j):=by
 unfold Pl.at Addr.add
 by_cases hj:j=0
 ·subst hj; simp
 ·simp [hj,Nat.add_assoc]
theorem cell_cells {w:World} {b i:Nat} {c:Array Value} {t:TypeId} {fz:Nat × Nat} (h:w.heap[b]?=some (.cells c t fz)):w.cell? ⟨b,i,none⟩=c[i]?:=by
 unfold World.cell?; rw [h]; try rfl
theorem frozen_cells {w:World} {b i:Nat} {c:Array Value} {t:TypeId} {fz:Nat × Nat} (h:w.heap[b]?=some (.cells c t fz)):w.frozen? ⟨b,i,none⟩=(decide (fz.1 ≤ i) && decide (i < fz.2)):=by
 unfold World.frozen?; rw [h]; try rfl
section
variable {Z S:Nat → Prop} {F:Nat → Option Obj} {w0 w w':World} {ρ:Rho} {H:T Ob} {nx:Nat}
theorem WR.read (h:WR Z S F w0 ρ H nx w) {id:Nat} {p:Pl} (hp:ρ id=some p) {cs:Row} {own:Bool} {z:Nat} (ho:H.at id=some (.cells cs own z)) {off:Nat} {cv:CV} (hc:cs.at off=some cv) :
  ∃ v,w.cell? (p.at off)=some v ∧ cv.R ρ v:=by
 obtain ⟨c,t,fz,h1,h2,h2',h3,h4,h5⟩:=h.ob id p _ hp ho
 obtain ⟨v,g1,g2⟩:=h5 off cv hc
 exact ⟨v,by rw [Pl.at,cell_cells h1]; exact g1,g2⟩
theorem exists_list {α β:Type} {Q:Nat → α → β → Prop}:∀ (l:List α) (k:Nat),(∀ i x,l[i]?=some x → ∃ y,Q (k + i) x y) → ∃ m:List β,m.length=l.length ∧ ∀ i x y,l[i]?=some x → m[i]?=some y → Q (k + i) x y
 | [],k,_=>⟨[],rfl,by simp⟩
 | x :: l,k,h=>by
  obtain ⟨y,hy⟩:=h 0 x rfl
  obtain ⟨m,h1,h2⟩:=exists_list (Q:=Q) l (k + 1) (fun i x hx=>by have:=h (i + 1) x (by simpa using hx); rwa [show k + (i + 1)=k + 1 + i by omega] at this)
  refine ⟨y :: m,by simp [h1],fun i a b ha hb=>?_⟩
  cases i with
  | zero=>simp at ha hb; subst ha; subst hb; exact hy
  | succ i=>rw [show k + (i + 1)=k + 1 + i by omega]; exact h2 i a b (by simpa using ha) (by simpa using hb)
theorem WR.reads (h:WR Z S F w0 ρ H nx w) {id:Nat} {p:Pl} (hp:ρ id=some p) {cs:Row} {own:Bool} {z:Nat} (ho:H.at id=some (.cells cs own z)) {off n:Nat} {l:List CV} (hc:cs.gets off n=some l) :
  ∃ vs:List Value,vs.length=n ∧ CRs ρ l vs ∧ ∀ (j:Nat) u,vs[j]?=some u → w.cell? ((p.at off).add j)=some u:=by
 obtain ⟨h1,h2⟩:=Row.gets_ok _ _ _ _ hc
 obtain ⟨m,g1,g2⟩:=exists_list (Q:=fun i (x:CV) v=>w.cell? (p.at (off + i))=some v ∧ x.R ρ v) l 0 (fun i x hx=>by
  rw [Nat.zero_add]; exact h.read hp ho (h2 i x hx))
 refine ⟨m,by rw [g1,h1],CRs.of_get g1.symm fun i c hi=>?_,fun j u hj=>?_⟩
 ·have hl:i < m.length:=by rw [g1]; exact (List.getElem?_eq_some_iff.1 hi).1
  exact ⟨m[i],List.getElem?_eq_getElem hl,(g2 i c _ hi (List.getElem?_eq_getElem hl)).2⟩
 ·have hl:j < l.length:=by rw [← g1]; exact (List.getElem?_eq_some_iff.1 hj).1
  have:=(g2 j _ u (List.getElem?_eq_getElem hl) hj).1
  rw [Pl.at_add]; rwa [Nat.zero_add] at this
theorem WR.world (h:WR Z S F w0 ρ H nx w) (hos:w'.os=w.os) (ht:w'.tape=w.tape) (hout:w'.output=w.output) (hs:w.heap.size ≤ w'.heap.size) (hh:∀ b,b < w.heap.size → w'.heap[b]?=w.heap[b]?):WR Z S F w0 ρ H nx w' :=
  ⟨hos.trans h.os,ht.trans h.tape,hout.trans h.output,Nat.le_trans h.size hs,fun b hb=>(hh b (h.slt b hb)).trans (h.keep b hb),fun b hb=>Nat.lt_of_lt_of_le (h.slt b hb) hs,
   fun id p hp=>⟨(h.lt id p hp).1,Nat.lt_of_lt_of_le (h.lt id p hp).2 hs⟩,fun id p o hp ho=>(h.ob id p o hp ho).mono (Ext.refl ρ) (hh _ (h.lt id p hp).2),h.inj,h.free⟩
theorem WR.drew (h:WR Z S F w0 ρ H nx w):WR Z S F w0 ρ H nx w.drew:=h.world rfl rfl rfl (Nat.le_refl _) fun _ _=>rfl
def Rho.bind (ρ:Rho) (id:Nat) (p:Pl):Rho:=fun i=>if i=id then some p else ρ i
theorem Rho.ext_bind {id:Nat} {p:Pl} (h:ρ id=none):Ext ρ (ρ.bind id p):=fun i q hq=>by
 by_cases hi:i=id
 ·subst hi; rw [h] at hq; cases hq
 ·simp [Rho.bind,hi,hq]
theorem bind_same (ρ:Rho) (id:Nat) (p:Pl):ρ.bind id p id=some p:=by simp [Rho.bind]
theorem bind_ne (ρ:Rho) {id i:Nat} (p:Pl) (h:i ≠ id):ρ.bind id p i=ρ i:=by simp [Rho.bind,h]
theorem WR.bind (h:WR Z S F w0 ρ H nx w) {id:Nat} (hn:ρ id=none) (hz:¬ Z id) (hid:id < nx) {o:Ob} (hH:∀ x,H.at id=some x → x=o)
  {w':World} (hos:w'.os=w.os) (ht:w'.tape=w.tape) (hout:w'.output=w.output) (hs:w.heap.size < w'.heap.size) (hh:∀ b,b < w.heap.size → w'.heap[b]?=w.heap[b]?)
  {p:Pl} (hpb:p.b=w.heap.size) (hR:o.R S (ρ.bind id p) p w'):WR Z S F w0 (ρ.bind id p) H nx w':=by
 have h':=h.world hos ht hout (Nat.le_of_lt hs) hh
 have hx:Ext ρ (ρ.bind id p):=Rho.ext_bind hn
 refine ⟨h'.os,h'.tape,h'.output,h'.size,h'.keep,h'.slt,fun i q hq=>?_,fun i q x hq hx'=>?_,fun i j q r x y hq hr hx' hy hox hoy hne=>?_,fun i hi=>⟨by rw [bind_ne ρ p (i:=i) (fun e=>hz (by rw [← e]; exact hi))]; exact (h.free i hi).1,(h.free i hi).2⟩⟩
 ·by_cases hi:i=id
  ·subst hi; rw [bind_same] at hq; cases hq; exact ⟨hid,by rw [hpb]; exact hs⟩
  ·rw [bind_ne ρ p hi] at hq; exact h'.lt i q hq
 ·by_cases hi:i=id
  ·subst hi; rw [bind_same] at hq; cases hq; rw [hH x hx']; exact hR
  ·rw [bind_ne ρ p hi] at hq
   exact (h.ob i q x hq hx').mono hx (hh _ (h.lt i q hq).2)
 ·by_cases hi:i=id
  ·subst hi
   rw [bind_same] at hq; cases hq
   rw [bind_ne ρ p (Ne.symm hne)] at hr
   have:=(h.lt j r hr).2
   omega
  ·rw [bind_ne ρ p hi] at hq
   by_cases hj:j=id
   ·subst hj; rw [bind_same] at hr; cases hr
    have:=(h.lt i q hq).2
    omega
   ·rw [bind_ne ρ p hj] at hr
    exact h.inj i j q r x y hq hr hx' hy hox hoy hne
theorem WR.place (h:WR Z S F w0 ρ H nx w) (o:Ob):WR Z S F w0 ρ (H.put nx o) (nx + 1) w ∧ ρ nx=none:=by
 have hn:ρ nx=none:=by
  cases hq:ρ nx with
  | none=>rfl
  | some q=>exact absurd (h.lt nx q hq).1 (Nat.lt_irrefl _)
 have old:∀ {i:Nat} {q:Pl} {x:Ob},ρ i=some q → (H.put nx o).at i=some x → H.at i=some x:=fun {i q x} hq hx=>by
  have hi:nx ≠ i:=fun e=>by subst e; rw [hn] at hq; cases hq
  rwa [T.at_ne _ _ hi] at hx
 exact ⟨⟨h.os,h.tape,h.output,h.size,h.keep,h.slt,fun i q hq=>⟨Nat.lt_succ_of_lt (h.lt i q hq).1,(h.lt i q hq).2⟩,fun i q x hq hx=>h.ob i q x hq (old hq hx),
  fun i j q r x y hq hr hx hy=>h.inj i j q r x y hq hr (old hq hx) (old hr hy),fun i hi=>⟨(h.free i hi).1,Nat.lt_succ_of_lt (h.free i hi).2⟩⟩,hn⟩
theorem WR.upd (h:WR Z S F w0 ρ H nx w) {id:Nat} {p:Pl} (hp:ρ id=some p) {o o':Ob} (ho:H.at id=some o) (how:o.own=true) (hS:¬ S p.b)
  {w':World} (hos:w'.os=w.os) (ht:w'.tape=w.tape) (hout:w'.output=w.output) (hs:w'.heap.size=w.heap.size) (hh:∀ b,b ≠ p.b → w'.heap[b]?=w.heap[b]?)
  (hR:o'.R S ρ p w'):WR Z S F w0 ρ (H.put id o') nx w':=by
 have hb:∀ {i:Nat} {q:Pl} {x:Ob},ρ i=some q → (H.put id o').at i=some x → (i=id ∧ x=o') ∨ (i ≠ id ∧ H.at i=some x):=fun {i q x} hq hx=>by
  by_cases hi:i=id
  ·subst hi; exact .inl ⟨rfl,T.at_eq hx⟩
  ·rw [T.at_ne _ _ (Ne.symm hi)] at hx; exact .inr ⟨hi,hx⟩
 refine ⟨hos.trans h.os,ht.trans h.tape,hout.trans h.output,by rw [hs]; exact h.size,fun b hb=>?_,fun b hb=>by rw [hs]; exact h.slt b hb,fun i q hq=>by rw [hs]; exact h.lt i q hq,fun i q x hq hx=>?_,
  fun i j q r x y hq hr hx hy hox hoy hne=>?_,h.free⟩
 ·rw [hh b (fun e=>hS (e ▸ hb))]; exact h.keep b hb
 ·rcases hb hq hx with ⟨rfl,rfl⟩ | ⟨hi,hx'⟩
  ·rw [hp] at hq; cases hq; exact hR
  ·by_cases hox:x.own=true
   ·exact (h.ob i q x hq hx').mono (Ext.refl ρ) (hh _ (h.inj i id q p x o hq hp hx' ho hox how hi))
   ·cases x with
    | dead=>trivial
    | cells cs own z =>
     have h1:=h.ob i q _ hq hx'
     have:S q.b:=by
      obtain ⟨c,t,fz,g1,g2,g2',g3,g4,g5⟩:=h1
      simp [Ob.own] at hox
      exact g4 hox
     exact h1.mono (Ext.refl ρ) (hh _ (fun e=>hS (e ▸ this)))
    | map _ _=>exact absurd rfl hox
    | miter _ _ _ _=>exact absurd rfl hox
    | siter _ _=>exact absurd rfl hox
 ·have own':∀ {i:Nat} {q:Pl} {x:Ob},ρ i=some q → (H.put id o').at i=some x → x.own=true → ∃ y,H.at i=some y ∧ y.own=true:=fun {i q x} hq hx hox=>by
   rcases hb hq hx with ⟨rfl,rfl⟩ | ⟨hi,hx'⟩
   ·exact ⟨o,ho,how⟩
   ·exact ⟨x,hx',hox⟩
  obtain ⟨x',h1,h2⟩:=own' hq hx hox
  obtain ⟨y',h3,h4⟩:=own' hr hy hoy
  exact h.inj i j q r x' y' hq hr h1 h3 h2 h4 hne
theorem WR.kill (h:WR Z S F w0 ρ H nx w) (id:Nat):WR Z S F w0 ρ (H.put id .dead) nx w:=by
 have hb:∀ {i:Nat} {q:Pl} {x:Ob},ρ i=some q → (H.put id .dead).at i=some x → x=.dead ∨ (i ≠ id ∧ H.at i=some x):=fun {i q x} hq hx=>by
  by_cases hi:i=id
  ·subst hi; exact .inl (T.at_eq hx)
  ·rw [T.at_ne _ _ (Ne.symm hi)] at hx; exact .inr ⟨hi,hx⟩
 refine ⟨h.os,h.tape,h.output,h.size,h.keep,h.slt,h.lt,fun i q x hq hx=>?_,fun i j q r x y hq hr hx hy hox hoy hne=>?_,h.free⟩
 ·rcases hb hq hx with rfl | ⟨hi,hx'⟩
  ·trivial
  ·exact h.ob i q x hq hx'
 ·rcases hb hq hx with rfl | ⟨hi,hx'⟩
  ·cases hox
  ·rcases hb hr hy with rfl | ⟨hj,hy'⟩
   ·cases hoy
   ·exact h.inj i j q r x y hq hr hx' hy' hox hoy hne
end
def putA (c:Array Value) (o:Nat):List Value → Array Value
 | []=>c
 | v :: r=>putA (c.setIfInBounds o v) (o + 1) r
theorem putA_size:∀ (l:List Value) (c:Array Value) (o:Nat),(putA c o l).size=c.size
 | [],_,_=>rfl
 | v :: r,c,o=>by simp [putA,putA_size r]
theorem putA_get:∀ (l:List Value) (c:Array Value) (o i:Nat),o + l.length ≤ c.size → (putA c o l)[i]?=if o ≤ i ∧ i < o + l.length then l[i - o]? else c[i]?
 | [],c,o,i,_=>by simp [putA]; omega
 | v :: r,c,o,i,h=>by
  simp only [List.length_cons] at h
  rw [putA,putA_get r _ _ _ (by simp; omega)]
  by_cases h1:o + 1 ≤ i ∧ i < o + 1 + r.length
  ·rw [if_pos h1,if_pos (by simp; omega),show i - o=(i - (o + 1)) + 1 by omega]; simp
  ·rw [if_neg h1]
   by_cases h2:i=o
   ·subst h2
    rw [if_pos (by simp)]
    have:i < c.size:=by omega
    simp [this]
   ·rw [if_neg (by simp; omega),Array.getElem?_setIfInBounds_ne (Ne.symm h2)]
theorem setCell_heap {w:World} {b o:Nat} {v:Value} {c:Array Value} {t:TypeId} {fz:Nat × Nat} (h:w.heap[b]?=some (.cells c t fz)):(w.setCell ⟨b,o,none⟩ v).heap[b]?=some (.cells (c.setIfInBounds o v) t fz):=by
 unfold World.setCell
 show (w.heap.modify b _)[b]?=_
 rw [Array.getElem?_modify,if_pos rfl,h]; rfl
theorem setCells_heap:∀ (l:List Value) {w:World} {b o:Nat} {c:Array Value} {t:TypeId} {fz:Nat × Nat},w.heap[b]?=some (.cells c t fz) → (w.setCells b o l).heap[b]?=some (.cells (putA c o l) t fz)
 | [],w,b,o,c,t,fz,h=>h
 | v :: r,w,b,o,c,t,fz,h=>by rw [World.setCells,putA]; exact setCells_heap r (setCell_heap h)
theorem setCells_same:∀ (l:List Value) (w:World) (b o:Nat),(w.setCells b o l).os=w.os ∧ (w.setCells b o l).tape=w.tape ∧ (w.setCells b o l).output=w.output ∧ (w.setCells b o l).heap.size=w.heap.size ∧ ∀ i,i ≠ b → (w.setCells b o l).heap[i]?=w.heap[i]?
 | [],w,b,o=>⟨rfl,rfl,rfl,rfl,fun _ _=>rfl⟩
 | v :: r,w,b,o=>by
  obtain ⟨h1,h2,h3,h4,h5⟩:=setCells_same r (w.setCell ⟨b,o,none⟩ v) b (o + 1)
  rw [World.setCells]
  refine ⟨h1,h2,h3,by rw [h4]; simp [World.setCell],fun i hi=>?_⟩
  rw [h5 i hi]
  unfold World.setCell
  show (w.heap.modify b _)[i]?=_
  rw [Array.getElem?_modify,if_neg (Ne.symm hi)]
section
variable {Z S:Nat → Prop} {F:Nat → Option Obj} {w0 w w':World} {ρ:Rho} {H:T Ob} {nx:Nat}
theorem WR.room (h:WR Z S F w0 ρ H nx w) {id:Nat} {p:Pl} (hp:ρ id=some p) {cs:Row} {z:Nat} (ho:H.at id=some (.cells cs true z)) {off n:Nat} (hn:p.o + off + n ≤ p.n) :
  (∀ j,j < n → (w.cell? ⟨p.b,p.o + off + j,none⟩).isSome=true) ∧ (∀ j,j < n → w.frozen? ⟨p.b,p.o + off + j,none⟩=false):=by
 obtain ⟨c,t,fz,h1,h2,h2',h3,h4,h5⟩:=h.ob id p _ hp ho
 constructor
 ·intro j hj
  rw [cell_cells h1,Array.getElem?_eq_getElem (by omega)]; rfl
 ·intro j hj
  rw [frozen_cells h1]
  rcases (h3 rfl).2 with e | e
  ·have:¬ (fz.1 ≤ p.o + off + j ∧ p.o + off + j < fz.2):=by omega
   simp only [Bool.and_eq_false_iff,decide_eq_false_iff_not]; omega
  ·simp only [Bool.and_eq_false_iff,decide_eq_false_iff_not]; omega
theorem gets_room {cs:Row} {off n:Nat} {l:List CV} (hg:cs.gets off n=some l) (h:WR Z S F w0 ρ H nx w) {id:Nat} {p:Pl} (hp:ρ id=some p) {own:Bool} {z:Nat} (ho:H.at id=some (.cells cs own z)) (hn:0 < n):p.o + off + n ≤ p.n:=by
 obtain ⟨h1,h2⟩:=Row.gets_ok _ _ _ _ hg
 obtain ⟨c,t,fz,g1,g2,g2',g3,g4,g5⟩:=h.ob id p _ hp ho
 have hl:n - 1 < l.length:=by omega
 obtain ⟨v,k1,_⟩:=g5 (off + (n - 1)) _ (h2 _ _ (List.getElem?_eq_getElem hl))
 have:=(Array.getElem?_eq_some_iff.1 k1).1
 omega
theorem WR.store (h:WR Z S F w0 ρ H nx w) {id:Nat} {p:Pl} (hp:ρ id=some p) {cs:Row} {z:Nat} (ho:H.at id=some (.cells cs true z)) {off:Nat} {l:List CV} {vs:List Value} (hr:CRs ρ l vs) (hn:p.o + off + l.length ≤ p.n) :
  WR Z S F w0 ρ (H.put id (.cells (cs.puts off l) true z)) nx (w.setCells p.b (p.o + off) vs):=by
 obtain ⟨c,t,fz,h1,h2,h2',h3,h4,h5⟩:=h.ob id p _ hp ho
 obtain ⟨g1,g2,g3,g4,g5⟩:=setCells_same vs w p.b (p.o + off)
 have hl:=hr.length
 refine h.upd hp ho rfl (h3 rfl).1 g1 g2 g3 g4 g5 ⟨_,t,fz,setCells_heap vs h1,by rw [putA_size]; exact h2,h2',fun _=>⟨(h3 rfl).1,by rw [putA_size]; exact (h3 rfl).2⟩,fun e=>(by cases e),fun i cv hi=>?_⟩
 rw [putA_get _ _ _ _ (by omega)]
 rcases Row.at_puts _ _ _ _ _ hi with ⟨k1,k2⟩ | ⟨k1,k2⟩
 ·have hlt:=(List.getElem?_eq_some_iff.1 k2).1
  rw [if_pos (by omega)]
  obtain ⟨v,e1,e2⟩:=hr.get _ _ k2
  exact ⟨v,by rw [show p.o + i - (p.o + off)=i - off by omega]; exact e1,e2⟩
 ·have hlt:=(Row.at_lt k1).1
  rw [if_neg (by omega)]
  exact h5 i cv k1
end
theorem intEq_ok (a b:Int):intEq a b=(a == b):=by
 cases a <;> cases b <;> simp only [intEq,Nat.beq_eq_true_eq] <;> rw [Bool.eq_iff_iff] <;> simp <;> omega
theorem strEq_ok:∀ (a b:List Nat),strEq a b=(a == b)
 | [],[]=>rfl
 | [],_ :: _=>rfl
 | _ :: _,[]=>rfl
 | a :: x,b :: y=>by
  simp only [strEq,strEq_ok x y]
  rw [Bool.eq_iff_iff]; simp
theorem strOf_inj {a b:ByteArray} (h:strOf a=strOf b):a.data.toList=b.data.toList:=by
 unfold strOf at h
 exact (List.map_inj_right (fun x y h=>UInt8.toNat.inj h)).1 h
theorem str_beq (a b:ByteArray):(a.toList == b.toList)=strEq (strOf a) (strOf b):=by
 rw [strEq_ok,ByteArray.toList_eq,ByteArray.toList_eq,Bool.eq_iff_iff,beq_iff_eq,beq_iff_eq]
 exact ⟨fun h=>by unfold strOf; rw [h],strOf_inj⟩
theorem str_beq' (a b:ByteArray):(a == b)=strEq (strOf a) (strOf b):=by
 rw [beq_toListBytes,str_beq]
section
variable {P:Program} {ρ:Rho}
def EqAt (P:Program) (ρ:Rho) (d:Nat) (t:TypeId) (f:List CV → List CV → Option (Bool × List CV × List CV)):Prop :=
 ∀ xs ys b xs' ys',f xs ys=some (b,xs',ys') → ∀ vx vy,CRs ρ xs vx → CRs ρ ys vy →
  ∃ s ds,P.underlying t=some ds ∧ szOf P t=some s ∧ (isAggB ds=false → s=1) ∧ s ≤ vx.length ∧ s ≤ vy.length ∧ CRs ρ xs' (vx.drop s) ∧ CRs ρ ys' (vy.drop s) ∧
   ∀ n,d ≤ n → ∀ w,(Go.Op.equalIn n t (tval ds (vx.take s)) (tval ds (vy.take s))).run P w=.ok b w
theorem eqNs_ok {d:Nat} {e:TypeId} {f:List CV → List CV → Option (Bool × List CV × List CV)} (hf:EqAt P ρ d e f) {s:Nat} {de:TypeDesc} (hs:szOf P e=some s) (hde:P.underlying e=some de) :
  ∀ (n:Nat) (xs ys:List CV) b xs' ys',eqNs f n xs ys=some (b,xs',ys') → ∀ (VX VY:List Value) (k:Nat) (N:Nat),(k + n) * s ≤ N → CRs ρ xs (VX.drop (k * s)) → CRs ρ ys (VY.drop (k * s)) →
   (n ≠ 0 → (k + n) * s ≤ VX.length ∧ (k + n) * s ≤ VY.length) ∧ CRs ρ xs' (VX.drop ((k + n) * s)) ∧ CRs ρ ys' (VY.drop ((k + n) * s)) ∧
   ∀ D,d ≤ D → ∀ w,(Sx.Op.eqItems P D e s (VX.take N).toArray (VY.take N).toArray (List.range' k n)).run P w=.ok b w:=by
 intro n
 induction n with
 | zero =>
  intro xs ys b xs' ys' h VX VY k N _ hx hy
  simp [eqNs] at h
  obtain ⟨rfl,rfl,rfl⟩:=h
  exact ⟨fun h=>absurd rfl h,by simpa using hx,by simpa using hy,fun D _ w=>by simp [Sx.Op.eqItems]⟩
 | succ n ih =>
  intro xs ys b xs' ys' h VX VY k N hN hx hy
  unfold eqNs at h
  split at h
  ·cases h
  ·rename_i r hr
   obtain ⟨b1,xs1,ys1⟩:=r
   simp only at h
   split at h
   ·cases h
   ·rename_i q hq
    obtain ⟨b2,xs2,ys2⟩:=q
    simp at h
    obtain ⟨rfl,rfl,rfl⟩:=h
    obtain ⟨s',ds,h1,h2,h3,h4,h5,h6,h7,h8⟩:=hf _ _ _ _ _ hr _ _ hx hy
    rw [hs] at h2; cases h2
    rw [hde] at h1; cases h1
    have e1:k * s + s=(k + 1) * s:=by rw [Nat.add_mul,Nat.one_mul]
    have e2:(k + 1 + n) * s=(k + (n + 1)) * s:=by congr 1; omega
    rw [List.drop_drop,e1] at h6 h7
    obtain ⟨g1,g2,g3,g4⟩:=ih _ _ _ _ _ hq VX VY (k + 1) N (by rw [e2]; exact hN) h6 h7
    rw [e2] at g1 g2 g3
    have hb:(k + 1) * s ≤ (k + (n + 1)) * s:=Nat.mul_le_mul_right _ (by omega)
    rw [List.length_drop] at h4 h5
    refine ⟨fun _=>?_,g2,g3,fun D hD w=>?_⟩
    ·by_cases h0:n=0
     ·subst h0
      by_cases hs0:s=0
      ·subst hs0; simp
      ·rw [← e2]; simp only [Nat.add_zero]; omega
     ·exact g1 h0
    ·rw [List.range'_succ]
     simp only [Sx.Op.eqItems,Sem.run_bind]
     have p1:(part e (VX.take N).toArray (k * s)).run P w=.ok (tval de ((VX.drop (k * s)).take s)) w:=by
      rw [run_part hde hs,drop_take_part (by omega)]
      intro ha
      have:=h3 ha
      subst this
      refine ⟨?_,rfl⟩
      rw [List.length_take]; omega
     have p2:(part e (VY.take N).toArray (k * s)).run P w=.ok (tval de ((VY.drop (k * s)).take s)) w:=by
      rw [run_part hde hs,drop_take_part (by omega)]
      intro ha
      have:=h3 ha
      subst this
      refine ⟨?_,rfl⟩
      rw [List.length_take]; omega
     simp only [p1,p2,Result.andThen_ok,h8 D hD w,Sem.run_ite,g4 D hD w,Sem.run_pure]
     cases b1 <;> simp
theorem eqFs_ok {d:Nat} {f:TypeId → List CV → List CV → Option (Bool × List CV × List CV)} (hf:∀ t,EqAt P ρ d t (f t)) :
  ∀ (fs:List Field) (n:Nat) (xs ys:List CV) b n' xs' ys',eqFs f (szOf P) fs n xs ys=some (b,n',xs',ys') → n ≤ n' ∧ ∀ (VX VY:List Value) (N:Nat),n' ≤ N → CRs ρ xs (VX.drop n) → CRs ρ ys (VY.drop n) →
   (n'=n ∨ (n' ≤ VX.length ∧ n' ≤ VY.length)) ∧ CRs ρ xs' (VX.drop n') ∧ CRs ρ ys' (VY.drop n') ∧
   ∀ D,d ≤ D → ∀ w,(Go.Op.eqFields D (VX.take N).toArray (VY.take N).toArray fs).run P w=.ok b w:=by
 intro fs
 induction fs with
 | nil =>
  intro n xs ys b n' xs' ys' h
  simp [eqFs] at h
  obtain ⟨rfl,rfl,rfl,rfl⟩:=h
  exact ⟨Nat.le_refl _,fun VX VY N _ hx hy=>⟨.inl rfl,hx,hy,fun D _ w=>by simp [Go.Op.eqFields]⟩⟩
 | cons fd fs ih =>
  intro n xs ys b n' xs' ys' h
  unfold eqFs at h
  split at h
  ·cases h
  ·rename_i hname
   simp at hname
   split at h
   ·rename_i r s hr hs
    obtain ⟨b1,xs1,ys1⟩:=r
    simp only at h
    split at h
    ·cases h
    ·rename_i q hq
     obtain ⟨b2,n2,xs2,ys2⟩:=q
     simp at h
     obtain ⟨rfl,rfl,rfl,rfl⟩:=h
     obtain ⟨hle,hrest⟩:=ih _ _ _ _ _ _ _ hq
     refine ⟨by omega,fun VX VY N hN hx hy=>?_⟩
     obtain ⟨s',ds,h1,h2,h3,h4,h5,h6,h7,h8⟩:=hf _ _ _ _ _ _ hr _ _ hx hy
     rw [hs] at h2; cases h2
     rw [List.drop_drop] at h6 h7
     obtain ⟨g1,g2,g3,g4⟩:=hrest VX VY N hN h6 h7
     rw [List.length_drop] at h4 h5
     refine ⟨?_,g2,g3,fun D hD w=>?_⟩
     ·omega
     ·simp only [Go.Op.eqFields,hname.1,ne_eq,not_false_eq_true,if_true,Sem.run_bind,hname.2]
      have p1:(part fd.type (VX.take N).toArray n).run P w=.ok (tval ds ((VX.drop n).take s)) w:=by
       rw [run_part h1 hs,drop_take_part (by omega)]
       intro ha
       have:=h3 ha
       subst this
       refine ⟨?_,rfl⟩
       rw [List.length_take]; omega
      have p2:(part fd.type (VY.take N).toArray n).run P w=.ok (tval ds ((VY.drop n).take s)) w:=by
       rw [run_part h1 hs,drop_take_part (by omega)]
       intro ha
       have:=h3 ha
       subst this
       refine ⟨?_,rfl⟩
       rw [List.length_take]; omega
      simp only [p1,p2,Result.andThen_ok,h8 D hD w,Sem.run_ite,g4 D hD w,Sem.run_pure]
      cases b1 <;> simp
   ·cases h
theorem eqW_ok:∀ (d:Nat) (t:TypeId),EqAt P ρ d t (eqW P d t):=by
 intro d
 induction d with
 | zero=>intro t xs ys b xs' ys' h; simp [eqW] at h
 | succ d ih =>
  intro t xs ys b xs' ys' h vx vy hx hy
  unfold eqW at h
  split at h
  ·rename_i k0 hu
   split at h
   ·rename_i k a xs1 k' b1 ys1
    split at h
    ·rename_i hk
     simp at hk h
     obtain ⟨rfl,hs⟩:=hk
     obtain ⟨rfl,rfl,rfl⟩:=h
     match vx,vy,hx,hy with
     | u :: vx,v :: vy,hx,hy =>
      obtain ⟨rfl,hx⟩:=hx
      obtain ⟨rfl,hy⟩:=hy
      refine ⟨1,_,hu,hs,fun _=>rfl,by simp,by simp,hx,hy,fun n hn w=>?_⟩
      obtain ⟨n',rfl⟩:∃ n',n=n' + 1:=⟨n - 1,by omega⟩
      simp [tval,isAggB,run_equalIn_int w n' t k k0 _ _ hu,intEq_ok]
    ·cases h
   ·cases h
  ·rename_i hu
   split at h
   ·rename_i a xs1 b1 ys1
    split at h
    ·rename_i hs
     simp at hs h
     obtain ⟨rfl,rfl,rfl⟩:=h
     match vx,vy,hx,hy with
     | u :: vx,v :: vy,hx,hy =>
      obtain ⟨rfl,hx⟩:=hx
      obtain ⟨rfl,hy⟩:=hy
      refine ⟨1,_,hu,hs,fun _=>rfl,by simp,by simp,hx,hy,fun n hn w=>?_⟩
      obtain ⟨n',rfl⟩:∃ n',n=n' + 1:=⟨n - 1,by omega⟩
      have:=run_equalIn_bool' (P:=P) w n' t a b1 hu
      simpa [tval,isAggB] using this
    ·cases h
   ·cases h
  ·rename_i hu
   split at h
   ·rename_i a xs1 b1 ys1
    split at h
    ·rename_i hs
     simp at hs h
     obtain ⟨rfl,rfl,rfl⟩:=h
     match vx,vy,hx,hy with
     | u :: vx,v :: vy,hx,hy =>
      obtain ⟨⟨s1,e1,e2⟩,hx'⟩:=hx
      obtain ⟨⟨s2,e3,e4⟩,hy'⟩:=hy
      subst e1; subst e2; subst e3; subst e4
      refine ⟨1,_,hu,hs,fun _=>rfl,by simp,by simp,hx',hy',fun n hn w=>?_⟩
      obtain ⟨n',rfl⟩:∃ n',n=n' + 1:=⟨n - 1,by omega⟩
      simp [tval,isAggB,Go.Op.equalIn,run_underlying hu,str_beq']
    ·cases h
   ·cases h
  ·rename_i len e hu
   split at h
   ·rename_i hs
    simp at hs
    cases he:szOf P e with
    | none =>
     simp [he] at hs
     unfold szOf at hs
     cases hi:P.info? t with
     | none=>unfold Program.underlying at hu; simp [hi] at hu
     | some i=>simp [hi] at hs
    | some s =>
     rw [he] at hs
     simp at hs
     cases hde:P.underlying e with
     | none =>
      unfold szOf at he
      unfold Program.underlying at hde
      cases hi:P.info? e with
      | none=>simp [hi] at he
      | some i =>
       cases len with
       | zero =>
        simp [eqNs] at h
        obtain ⟨rfl,rfl,rfl⟩:=h
        simp at hs
        refine ⟨0,_,hu,hs,fun ha=>by simp [isAggB] at ha,by simp,by simp,hx,hy,fun n hn w=>?_⟩
        obtain ⟨n',rfl⟩:∃ n',n=n' + 1:=⟨n - 1,by omega⟩
        have hs':szOf P e=some s:=by unfold szOf; exact he
        simp [tval,isAggB,Sx.run_equalIn_array w n' t e 0 s _ _ hu hs',Sx.Op.eqItems]
       | succ len =>
        unfold eqNs at h
        split at h
        ·cases h
        ·rename_i r hr
         obtain ⟨r1,r2,r3⟩:=r
         obtain ⟨s',ds,h1,_⟩:=ih e _ _ _ _ _ hr _ _ hx hy
         unfold Program.underlying at h1
         rw [hde] at h1; cases h1
     | some de =>
      have h0:=eqNs_ok (ih e) he hde len xs ys b xs' ys' h vx vy 0 (len * s) (by simp) (by simpa using hx) (by simpa using hy)
      simp only [Nat.zero_add] at h0
      obtain ⟨g1,g2,g3,g4⟩:=h0
      refine ⟨len * s,_,hu,hs,fun ha=>by simp [isAggB] at ha,?_,?_,g2,g3,fun n hn w=>?_⟩
      ·by_cases h0:len=0
       ·subst h0; simp
       ·exact (g1 h0).1
      ·by_cases h0:len=0
       ·subst h0; simp
       ·exact (g1 h0).2
      ·obtain ⟨n',rfl⟩:∃ n',n=n' + 1:=⟨n - 1,by omega⟩
       simp only [tval,isAggB,if_true,Sx.run_equalIn_array w n' t e len s _ _ hu he]
       exact g4 n' (by omega) w
   ·cases h
  ·rename_i fs hu
   split at h
   ·cases h
   ·rename_i hst
    split at h
    ·rename_i r hr
     obtain ⟨r1,r2,r3,r4⟩:=r
     split at h
     ·rename_i hs
      simp at hs h
      obtain ⟨rfl,rfl,rfl⟩:=h
      obtain ⟨hle,hrest⟩:=eqFs_ok (d:=d) ih fs.toList 0 _ _ _ _ _ _ hr
      obtain ⟨g1,g2,g3,g4⟩:=hrest vx vy r2 (Nat.le_refl _) (by simpa using hx) (by simpa using hy)
      refine ⟨r2,_,hu,hs,fun ha=>by simp [isAggB] at ha,by omega,by omega,g2,g3,fun n hn w=>?_⟩
      obtain ⟨n',rfl⟩:∃ n',n=n' + 1:=⟨n - 1,by omega⟩
      have hf:P.fieldsOf t=fs:=by simp [Program.fieldsOf,hu]
      have:=run_equalIn_agg w n' t (vx.take r2).toArray (vy.take r2).toArray (by rw [hf]; exact hu) (by simpa using hst)
      simp only [tval,isAggB,if_true,this,hf]
      exact g4 n' (by omega) w
     ·cases h
    ·cases h
  ·cases h
end
def HV (ρ:Rho) (σ:St) (a:Act) (o:Oper):Prop:=∀ x ∈ o.op.operands.toList,∀ s,σ.val x=some s → s.R ρ (a.eval x)
def LOk (P:Program) (ρ:Rho) (a:Act) (w:World) (o:Oper) (s:SV):Prop:=∃ v,(execOp a.eval o).run P w=.ok (.value v) w ∧ s.R ρ v
section
variable {P:Program} {Z S:Nat → Prop} {F:Nat → Option Obj} {w0 w:World} {ρ:Rho} {σ:St} {a:Act} {o:Oper} {s:SV}
theorem v_val {x:Operand} {v:V} (h:σ.v x=some v):σ.val x=some (.vl v):=by
 unfold St.v at h
 split at h
 ·cases h; assumption
 ·cases h
theorem c_val {x:Operand} {c:CV} (h:σ.c x=some c):σ.val x=some (.vl (.one c)):=by
 unfold St.c at h
 split at h
 ·cases h; assumption
 ·cases h
theorem HV.v (hv:HV ρ σ a o) {x:Operand} (hx:x ∈ o.op.operands.toList) {v:V} (h:σ.v x=some v):v.R ρ (a.eval x):=hv x hx _ (v_val h)
theorem HV.c (hv:HV ρ σ a o) {x:Operand} (hx:x ∈ o.op.operands.toList) {c:CV} (h:σ.c x=some c):c.R ρ (a.eval x):=hv x hx _ (c_val h)
theorem HV.nat (hv:HV ρ σ a o) {x:Operand} (hx:x ∈ o.op.operands.toList) {n:Nat} (h:natOf σ x=some n):∃ k,a.eval x=.int k (n:Int):=by
 unfold natOf at h
 split at h
 ·rename_i k i hc
  split at h
  ·rename_i hz
   cases h
   exact ⟨k,by rw [show a.eval x=.int k i from hv.c hx hc,Int.toNat_of_nonneg hz]⟩
  ·cases h
 ·cases h
theorem HV.int (hv:HV ρ σ a o) {x:Operand} (hx:x ∈ o.op.operands.toList) {n:Int} (h:σ.int x=some n):∃ k,a.eval x=.int k n:=by
 unfold St.int at h
 split at h
 ·rename_i k i hc
  cases h
  exact ⟨k,hv.c hx hc⟩
 ·cases h
theorem HV.bool (hv:HV ρ σ a o) {x:Operand} (hx:x ∈ o.op.operands.toList) {b:Bool} (h:boolOf σ x=some b):a.eval x=.bool b:=by
 unfold boolOf at h
 split at h
 ·rename_i c hc
  cases h
  exact hv.c hx hc
 ·cases h
theorem l_move {x:Operand} (hv:HV ρ σ a o) (ho:o.op=.move x ∨ o.op=.assign x) (hp:light P σ o=some s):LOk P ρ a w o s:=by
 rcases ho with ho | ho <;> unfold light at hp <;> rw [ho] at hp <;> simp only at hp <;>
  exact ⟨a.eval x,by simp [execOp,ho],hv x (by simp [ho,Op.operands]) s hp⟩
theorem l_pick {c x y:Operand} (hv:HV ρ σ a o) (ho:o.op=.pick c x y) (hp:light P σ o=some s):LOk P ρ a w o s:=by
 unfold light at hp; rw [ho] at hp; simp only at hp
 split at hp
 ·rename_i hb
  have:=hv.bool (by simp [ho,Op.operands]) hb
  exact ⟨a.eval x,by simp [execOp,ho,this,asBool],hv x (by simp [ho,Op.operands]) s hp⟩
 ·rename_i hb
  have:=hv.bool (by simp [ho,Op.operands]) hb
  exact ⟨a.eval y,by simp [execOp,ho,this,asBool],hv y (by simp [ho,Op.operands]) s hp⟩
 ·cases hp
theorem readAt_ok (h:WR Z S F w0 ρ σ.heap σ.next w) {t:TypeId} {id off:Nat} {p:Pl} (hr:ρ id=some p) {v:V} (hp:readAt P σ t id off=some v):∃ u,(loadVar t (p.at off)).run P w=.ok u w ∧ v.R ρ u:=by
 unfold readAt at hp
 split at hp
 ·rename_i cs own z d n hob hd hn
  split at hp
  ·rename_i ha
   cases hg:cs.gets off n with
   | none=>rw [hg] at hp; cases hp
   | some l =>
    rw [hg] at hp; cases hp
    obtain ⟨vs,h1,h2,h3⟩:=h.reads hr hob hg
    exact ⟨.agg vs.toArray,run_loadVar_agg hd ha (by rw [hn,h1]) h3,vs,rfl,h2⟩
  ·rename_i ha
   cases hg:cs.at off with
   | none=>rw [hg] at hp; cases hp
   | some c =>
    rw [hg] at hp; cases hp
    obtain ⟨u,h1,h2⟩:=h.read hr hob hg
    exact ⟨u,run_loadVar_one hd (by simpa using ha) h1,h2⟩
 ·cases hp
theorem l_load {t:TypeId} {x:Operand} (h:WR Z S F w0 ρ σ.heap σ.next w) (hv:HV ρ σ a o) (ho:o.op=.load t x) (hp:light P σ o=some s):LOk P ρ a w o s:=by
 unfold light at hp; rw [ho] at hp; simp only at hp
 split at hp
 ·rename_i id off hx
  obtain ⟨p,h1,h2⟩:=hv.c (by simp [ho,Op.operands]) hx
  cases hr:readAt P σ t id off with
  | none=>rw [hr] at hp; cases hp
  | some v =>
   rw [hr] at hp; cases hp
   obtain ⟨u,k1,k2⟩:=readAt_ok h h1 hr
   refine ⟨u,?_,k2⟩
   simp only [execOp,ho,h2,Instr.loadAt,Instr.sureAddr]
   simp [k1]
 ·cases hp
theorem l_nilCheck {x:Operand} (hv:HV ρ σ a o) (ho:o.op=.nilCheck x) (hp:light P σ o=some s):LOk P ρ a w o s:=by
 unfold light at hp; rw [ho] at hp; simp only at hp
 split at hp
 ·rename_i id off hx
  cases hp
  obtain ⟨p,h1,h2⟩:=hv.c (by simp [ho,Op.operands]) hx
  exact ⟨_,by simp [execOp,ho,h2],p,h1,rfl⟩
 ·rename_i f l hx
  cases hp
  obtain ⟨vs,h1,h2⟩:=hv.c (by simp [ho,Op.operands]) hx
  exact ⟨_,by simp [execOp,ho,h1],vs,rfl,h2⟩
 ·rename_i t c hx
  cases hp
  obtain ⟨u,h1,h2⟩:=hv.c (by simp [ho,Op.operands]) hx
  exact ⟨_,by simp [execOp,ho,h1],u,rfl,h2⟩
 ·rename_i id off n cap hx
  cases hp
  have h1:=hv.c (by simp [ho,Op.operands]) hx
  refine ⟨a.eval x,?_,h1⟩
  cases cap with
  | none=>obtain ⟨p,ad,c,_,e,_⟩:=h1; simp [execOp,ho,e]
  | some c=>obtain ⟨p,_,e⟩:=h1; simp [execOp,ho,e]
 ·cases hp
theorem run_guard_int (op:BinOp) (t:TypeId) (x y:Operand) (k k':IntKind) (u v:Int) (r:Value) (hr:(binOp op t (.int k u) (.int k' v)).run P w=.ok r w) :
  (do eqGuard op t x y (.int k u) (.int k' v); binOp op t (.int k u) (.int k' v):Sem Value).run P w=.ok r w:=by
 simp [run_eqGuard_int,hr]
theorem bytesLess_ok:∀ x y:List UInt8,Op.bytesLess x y=strLt (x.map (·.toNat)) (y.map (·.toNat))
 | [],[]=>rfl
 | [],_ :: _=>rfl
 | _ :: _,[]=>rfl
 | a :: x,b :: y=>by
  simp only [Op.bytesLess,List.map_cons,strLt,bytesLess_ok x y]
  congr 1
  ·rw [Bool.eq_iff_iff]; simp [UInt8.lt_iff_toNat_lt]
  ·congr 1
   rw [Bool.eq_iff_iff]; simp [UInt8.toNat_inj]
theorem sl_form {id off len:Nat} {cap:Option Nat} {v:Value} (h:(CV.sl id off len cap).R ρ v):∃ a c,v=.slice (some a) len c:=by
 cases cap with
 | none=>obtain ⟨p,a,c,_,e,_⟩:=h; exact ⟨a,c,e⟩
 | some c=>obtain ⟨p,_,e⟩:=h; exact ⟨_,_,e⟩
theorem ptr_form {id off:Nat} {v:Value} (h:(CV.ptr id off).R ρ v):∃ a,v=.pointer (some a):=by
 obtain ⟨p,_,e⟩:=h; exact ⟨_,e⟩
theorem map_form {id:Nat} {v:Value} (h:(CV.map id).R ρ v):∃ a,v=.map (some a):=by
 obtain ⟨p,_,e⟩:=h; exact ⟨_,e⟩
theorem fn_form {f:FuncId} {caps:List (Nat × Nat)} {v:Value} (h:(CV.fn f caps).R ρ v):∃ vs:List Value,v=.func (.func f) #[] vs.toArray:=by
 obtain ⟨vs,e,_⟩:=h; exact ⟨_,e⟩
def OtherV (v:Value):Prop:=(∀ k n,v ≠ .int k n) ∧ (∀ k n,v ≠ .float k n) ∧ (∀ k n r,v ≠ .complex k n r) ∧ (∀ s,v ≠ .string s)
def EqSays (P:Program) (w:World) (t:TypeId) (x y:Operand) (vx vy:Value) (b:Bool):Prop :=
 (Go.Op.equal t vx vy).run P w=.ok b w ∧ (∀ op,(eqGuard op t x y vx vy).run P w=.ok () w) ∧ OtherV vx
theorem eqNil_ok {d:TypeDesc} {t:TypeId} {c e:CV} {b:Bool} {vx vy:Value} (hu:P.underlying t=some d) (hb:eqNil d c e=some b) (h1:c.R ρ vx) (h2:e.R ρ vy) (x y:Operand):EqSays P w t x y vx vy b:=by
 have fin:∀ {vx vy:Value} {b:Bool},(∀ n,(Go.Op.equalIn (n + 1) t vx vy).run P w=.ok b w) → (∀ op,(eqGuard op t x y vx vy).run P w=.ok () w) → OtherV vx → EqSays P w t x y vx vy b:=fun h1 h2 h3=>⟨h1 9999,h2,h3⟩
 unfold eqNil at hb
 split at hb <;> cases hb
 case h_1=>obtain rfl:vx=_:=h1; obtain rfl:vy=_:=h2; exact fin (fun n=>by simp only [Go.Op.equalIn,Sem.run_bind,run_underlying hu,Result.andThen_ok]; rfl) (fun op=>by cases op <;> simp [eqGuard]) (by simp [OtherV])
 case h_2=>obtain rfl:vx=_:=h1; obtain ⟨a,rfl⟩:=ptr_form h2; exact fin (fun n=>by simp only [Go.Op.equalIn,Sem.run_bind,run_underlying hu,Result.andThen_ok]; rfl) (fun op=>by cases op <;> simp [eqGuard]) (by simp [OtherV])
 case h_3=>obtain ⟨a,rfl⟩:=ptr_form h1; obtain rfl:vy=_:=h2; exact fin (fun n=>by simp only [Go.Op.equalIn,Sem.run_bind,run_underlying hu,Result.andThen_ok]; rfl) (fun op=>by cases op <;> simp [eqGuard]) (by simp [OtherV])
 case h_4=>obtain rfl:vx=_:=h1; obtain rfl:vy=_:=h2; exact fin (fun n=>by simp only [Go.Op.equalIn,Sem.run_bind,run_underlying hu,Result.andThen_ok]; rfl) (fun op=>by cases op <;> simp [eqGuard]) (by simp [OtherV])
 case h_5=>obtain rfl:vx=_:=h1; obtain ⟨a,c,rfl⟩:=sl_form h2; exact fin (fun n=>by simp only [Go.Op.equalIn,Sem.run_bind,run_underlying hu,Result.andThen_ok]; rfl) (fun op=>by cases op <;> simp [eqGuard]) (by simp [OtherV])
 case h_6=>obtain ⟨a,c,rfl⟩:=sl_form h1; obtain rfl:vy=_:=h2; exact fin (fun n=>by simp only [Go.Op.equalIn,Sem.run_bind,run_underlying hu,Result.andThen_ok]; rfl) (fun op=>by cases op <;> simp [eqGuard]) (by simp [OtherV])
 case h_7=>obtain rfl:vx=_:=h1; obtain rfl:vy=_:=h2; exact fin (fun n=>by simp only [Go.Op.equalIn,Sem.run_bind,run_underlying hu,Result.andThen_ok]; rfl) (fun op=>by cases op <;> simp [eqGuard]) (by simp [OtherV])
 case h_8=>obtain rfl:vx=_:=h1; obtain ⟨a,rfl⟩:=fn_form h2; exact fin (fun n=>by simp only [Go.Op.equalIn,Sem.run_bind,run_underlying hu,Result.andThen_ok]; rfl) (fun op=>by cases op <;> simp [eqGuard]) (by simp [OtherV])
 case h_9=>obtain ⟨a,rfl⟩:=fn_form h1; obtain rfl:vy=_:=h2; exact fin (fun n=>by simp only [Go.Op.equalIn,Sem.run_bind,run_underlying hu,Result.andThen_ok]; rfl) (fun op=>by cases op <;> simp [eqGuard]) (by simp [OtherV])
 case h_10=>obtain rfl:vx=_:=h1; obtain rfl:vy=_:=h2; exact fin (fun n=>by simp only [Go.Op.equalIn,Sem.run_bind,run_underlying hu,Result.andThen_ok]; rfl) (fun op=>by cases op <;> simp [eqGuard]) (by simp [OtherV])
 case h_11=>obtain rfl:vx=_:=h1; obtain ⟨a,rfl⟩:=map_form h2; exact fin (fun n=>by simp only [Go.Op.equalIn,Sem.run_bind,run_underlying hu,Result.andThen_ok]; rfl) (fun op=>by cases op <;> simp [eqGuard]) (by simp [OtherV])
 case h_12=>obtain ⟨a,rfl⟩:=map_form h1; obtain rfl:vy=_:=h2; exact fin (fun n=>by simp only [Go.Op.equalIn,Sem.run_bind,run_underlying hu,Result.andThen_ok]; rfl) (fun op=>by cases op <;> simp [eqGuard]) (by simp [OtherV])
theorem eqIface_ok {t:TypeId} {ms:Array (String × TypeId)} {c e:CV} {b:Bool} {vx vy:Value} (hu:P.underlying t=some (.interface ms)) {x y:Operand} (hb:eqIface x y c e=some b) (h1:c.R ρ vx) (h2:e.R ρ vy):EqSays P w t x y vx vy b:=by
 have fin:∀ {vx vy:Value} {b:Bool},(∀ n,(Go.Op.equalIn (n + 1) t vx vy).run P w=.ok b w) → (∀ op,(eqGuard op t x y vx vy).run P w=.ok () w) → OtherV vx → EqSays P w t x y vx vy b:=fun h1 h2 h3=>⟨h1 9999,h2,h3⟩
 unfold eqIface at hb
 split at hb
 ·split at hb
  ·rename_i hc
   cases hb
   obtain rfl:vx=_:=h1
   obtain rfl:vy=_:=h2
   refine fin (fun n=>by simp only [Go.Op.equalIn,Sem.run_bind,run_underlying hu,Result.andThen_ok]; rfl) (fun op=>?_) (by simp [OtherV])
   unfold isConstO at hc
   cases op <;> simp only [eqGuard] <;> (try (simp; done))
   all_goals (cases x <;> cases y <;> simp at hc ⊢)
  ·cases hb
 ·cases hb
  obtain rfl:vx=_:=h1
  obtain ⟨z,rfl,_⟩:=h2
  exact fin (fun n=>by simp only [Go.Op.equalIn,Sem.run_bind,run_underlying hu,Result.andThen_ok]; rfl) (fun op=>by cases op <;> simp [eqGuard]) (by simp [OtherV])
 ·cases hb
  obtain ⟨z,rfl,_⟩:=h1
  obtain rfl:vy=_:=h2
  exact fin (fun n=>by simp only [Go.Op.equalIn,Sem.run_bind,run_underlying hu,Result.andThen_ok]; rfl) (fun op=>by cases op <;> simp [eqGuard]) (by simp [OtherV])
 ·cases hb
theorem eqAgg_ok {t:TypeId} {xs ys:List CV} {b:Bool} {vx vy:Value} (hg:¬ (P.eqGuardType P.depth t || !((P.underlying t).any isAggB))=true) (hr:eqW P 20 t xs ys=some (b,[],[])) (h1:V.R ρ (.agg xs) vx) (h2:V.R ρ (.agg ys) vy) (x y:Operand):EqSays P w t x y vx vy b:=by
 obtain ⟨lx,rfl,rx⟩:=h1
 obtain ⟨ly,rfl,ry⟩:=h2
 have hgt:P.eqGuardType P.depth t=false:=by simp at hg; exact hg.1
 obtain ⟨s0,ds,g1,g2,g3,g4,g5,g6,g7,g8⟩:=eqW_ok (ρ:=ρ) 20 t _ _ _ _ _ hr _ _ rx ry
 have ha:isAggB ds=true:=by simp [g1] at hg; exact hg.2
 have l1:lx.take s0=lx:=List.take_of_length_le (by have:=CRs.length g6; simp at this; omega)
 have l2:ly.take s0=ly:=List.take_of_length_le (by have:=CRs.length g7; simp at this; omega)
 have h8:=g8 10000 (by decide) w
 rw [l1,l2] at h8
 simp only [tval,ha,if_true] at h8
 exact ⟨h8,fun op=>run_eqGuard_agg w op t x y _ _ hgt,by simp [OtherV]⟩
theorem cmp_fin {op:BinOp} {t:TypeId} {x y:Operand} {vx vy:Value} {b:Bool} (h:EqSays P w t x y vx vy b) (hop:op=.eql ∨ op=.neq):(do eqGuard op t x y vx vy; binOp op t vx vy:Sem Value).run P w=.ok (.bool (eqRes op b)) w:=by
 obtain ⟨k1,k2,k3,k4,k5,k6⟩:=h
 have h3:=run_bin_other (P:=P) (w:=w) (op:=op) (t:=t) (vx:=vx) (vy:=vy) (b:=b) (G:=eqGuard op t x y vx vy) hop k1 (k2 op) k3 k4 k5 k6
 generalize (do eqGuard op t x y vx vy; binOp op t vx vy:Sem Value)=G at h3 ⊢
 simp only [Sem.run_bind] at h3
 cases hG:G.run P w with
 | ok z w1 =>
  rw [hG] at h3
  simp at h3
  rw [h3.1,h3.2]
 | halt z w1=>rw [hG] at h3; simp [Result.andThen] at h3
theorem eqV_ok {op:BinOp} {t:TypeId} {x y:Operand} {u v:V} {vx vy:Value} {b:Bool} (hb:eqV P t x y u v=some b) (h1:u.R ρ vx) (h2:v.R ρ vy) (hop:op=.eql ∨ op=.neq):(do eqGuard op t x y vx vy; binOp op t vx vy:Sem Value).run P w=.ok (.bool (eqRes op b)) w:=by
 unfold eqV at hb
 split at hb
 ·split at hb
  ·cases hb
  ·rename_i hg
   split at hb
   ·rename_i r hr
    cases hb
    exact cmp_fin (eqAgg_ok hg hr h1 h2 x y) hop
   ·cases hb
 ·split at hb
  ·rename_i hk
   cases hb
   have:=kind_ok hk
   subst this
   obtain rfl:vx=_:=h1
   obtain rfl:vy=_:=h2
   rcases hop with rfl | rfl
   ·simp [run_eqGuard_int,run_bin_cmp (P:=P) (w:=w) (op:=.eql) rfl,cmpE,eqRes,intEq_ok]
   ·simp only [Sem.run_bind,run_eqGuard_int,Result.andThen_ok]
    rw [run_bin_cmp (op:=.neq) rfl]
    simp only [cmpE,eqRes,intEq_ok]; rfl
  ·cases hb
 ·cases hb
  obtain ⟨si,rfl,rfl⟩:=h1
  obtain ⟨sj,rfl,rfl⟩:=h2
  rcases hop with rfl | rfl
  ·simp [run_eqGuard_str,binOp,Op.stringOp,eqRes,str_beq]
  ·simp [run_eqGuard_str,binOp,Op.stringOp,eqRes,str_beq]
 ·split at hb
  ·rename_i ht
   cases hb
   obtain rfl:vx=_:=h1
   obtain rfl:vy=_:=h2
   rcases hop with rfl | rfl
   ·simp [run_eqGuard_bool,run_bin_bool ht (.inl rfl),eqRes]
   ·simp only [Sem.run_bind,run_eqGuard_bool,Result.andThen_ok]
    rw [run_bin_bool ht (.inr rfl)]
    simp [eqRes,bne]
  ·cases hb
 ·split at hb
  ·rename_i ms ht
   exact cmp_fin (eqIface_ok ht hb h1 h2) hop
  ·rename_i d hif hd
   exact cmp_fin (eqNil_ok hd hb h1 h2 x y) hop
  ·cases hb
 ·cases hb
theorem l_binOp {op:BinOp} {t yt:TypeId} {x y:Operand} (hv:HV ρ σ a o) (ho:o.op=.binOp op t x y yt) (hp:light P σ o=some s):LOk P ρ a w o s:=by
  unfold light at hp; rw [ho] at hp; simp only at hp
  split at hp
  · rename_i u v hu hw
    have hu':=hv.v (x:=x) (by simp [ho,Op.operands]) hu
    have hw':=hv.v (x:=y) (by simp [ho,Op.operands]) hw
    have fin:∀ {r:Value},(do eqGuard op t x y (a.eval x) (a.eval y); binOp op t (a.eval x) (a.eval y):Sem Value).run P w=.ok r w → (execOp a.eval o).run P w=.ok (.value r) w:=by
      intro r hr
      simp only [execOp,ho]
      show Sem.run P ((do eqGuard op t x y (a.eval x) (a.eval y); binOp op t (a.eval x) (a.eval y):Sem Value) >>= fun z=>pure (Next.value z)) w=_
      generalize (do eqGuard op t x y (a.eval x) (a.eval y); binOp op t (a.eval x) (a.eval y):Sem Value)=G at hr ⊢
      simp [hr]
    generalize a.eval x=vx at hu' fin
    generalize a.eval y=vy at hw' fin
    cases hb:binC P op t x y u v with
    | none=>rw [hb] at hp; cases hp
    | some c =>
      rw [hb] at hp; cases hp
      have ints:∀ {k k':IntKind} {i j:Int} {r:Value},u=.one (.int k i) → v=.one (.int k' j) → (binOp op t (.int k i) (.int k' j)).run P w=.ok r w → (execOp a.eval o).run P w=.ok (.value r) w:=by
        intro k k' i j r e1 e2 hr
        subst e1; subst e2
        obtain rfl:vx=_:=hu'
        obtain rfl:vy=_:=hw'
        exact fin (run_guard_int op t x y k k' i j r hr)
      unfold binC at hb
      split at hb
      · cases hb2:eqV P t x y u v with
        | none=>rw [hb2] at hb; cases hb
        | some b=>rw [hb2] at hb; cases hb; exact ⟨_,fin (eqV_ok hb2 hu' hw' (.inl rfl)),rfl⟩
      · cases hb2:eqV P t x y u v with
        | none=>rw [hb2] at hb; cases hb
        | some b=>rw [hb2] at hb; cases hb; exact ⟨_,fin (eqV_ok hb2 hu' hw' (.inr rfl)),rfl⟩
      · split at hb
        · split at hb
          all_goals first
            | (cases hb; done)
            | (split at hb
               · first
                 | (cases hb; exact ⟨_,ints rfl rfl (run_bin_shift rfl ‹_›),rfl⟩)
                 | (have hk':=kind_ok ‹_›; subst hk'; cases hb; exact ⟨_,ints rfl rfl (run_bin_same rfl),rfl⟩)
                 | (have hk':=kind_ok ‹_›; subst hk'; cases hb; exact ⟨_,ints rfl rfl (run_bin_cmp rfl),rfl⟩)
                 | (rename_i hk
                    simp only [Bool.and_eq_true,Bool.not_eq_true'] at hk
                    have hk':=kind_ok hk.1; subst hk'
                    have hz:=hk.2
                    rw [intEq_ok] at hz
                    cases hb; exact ⟨_,ints rfl rfl (run_bin_same (by simp at hz; simp [hz])),rfl⟩)
               · cases hb)
        · rename_i i j
          obtain ⟨si,rfl,h2⟩:=(show CV.R ρ (.str _) _ from hu')
          obtain ⟨sj,rfl,h4⟩:=(show CV.R ρ (.str _) _ from hw')
          subst h2; subst h4
          have sfin:∀ {r:Value},(binOp op t (.string si) (.string sj)).run P w=.ok r w → (execOp a.eval o).run P w=.ok (.value r) w:=fun hr=>fin (by simp [run_eqGuard_str,hr])
          unfold cmpS at hb
          split at hb
          · split at hb
            · rename_i hl
              cases hb
              have hl':(strOf si).length + (strOf sj).length < 65536:=by simpa using hl
              have e1:si.size=(strOf si).length:=by simp [strOf]
              have e2:sj.size=(strOf sj).length:=by simp [strOf]
              refine ⟨.string (si ++ sj),sfin ?_,si ++ sj,rfl,by simp [strOf]⟩
              have:¬ ((si.size:Int) + (sj.size:Int) > 9223372036854775807):=by omega
              have h63:IntKind.max .i64=9223372036854775807:=rfl
              simp only [binOp,Op.stringOp,h63]
              rw [if_neg (by push_cast; omega)]
              rfl
            · cases hb
          all_goals first
            | (cases hb; done)
            | (cases hb
               refine ⟨_,sfin (r:=_) ?_,rfl⟩
               simp only [binOp,Op.stringOp,str_beq]
               simp only [ByteArray.toList_eq,bytesLess_ok]
               rfl)
        · cases hb
  · cases hp
end
end Go.Cx
