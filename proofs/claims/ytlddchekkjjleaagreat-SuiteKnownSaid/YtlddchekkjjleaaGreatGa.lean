/- The engine Sx, part A: its words (symbolic cells, states, expressions) and what they mean. -/
import Derived.WalkKit
import Derived.KernelRfl
import Derived.Deep.AppendLies
import Derived.Laws.BytesArg
set_option linter.unusedVariables false
set_option linter.unusedSimpArgs false
namespace Go.Sx
open Go Go.RowKit

/-! ### Lists, quick in the kernel -/
noncomputable def lget? {α : Type} (l : List α) : Nat → Option α :=
  List.rec (motive := fun _ => Nat → Option α) (fun _ => none) (fun a _ ih d => Nat.rec (motive := fun _ => Option α) (some a) (fun d' _ => ih d') d) l
noncomputable def lset {α : Type} (l : List α) : Nat → α → List α :=
  List.rec (motive := fun _ => Nat → α → List α) (fun _ _ => []) (fun a as ih d s => Nat.rec (motive := fun _ => List α) (s :: as) (fun d' _ => a :: ih d' s) d) l
theorem lget?_eq {α : Type} : ∀ (l : List α) (d : Nat), lget? l d = l[d]?
  | [], d => by simp [lget?]
  | a :: as, 0 => rfl
  | a :: as, d + 1 => by
    show lget? as d = _
    rw [lget?_eq as d]; simp
theorem lset_eq {α : Type} : ∀ (l : List α) (d : Nat) (s : α), lset l d s = l.set d s
  | [], d, s => rfl
  | a :: as, 0, s => rfl
  | a :: as, d + 1, s => by
    show a :: lset as d s = _
    rw [lset_eq as d s]; rfl

/-! ### Integers -/
def lo : IntKind → Int
  | .i8 => -128 | .i16 => -32768 | .i32 => -2147483648 | .i64 => -9223372036854775808 | _ => 0
def hi : IntKind → Int
  | .i8 => 127 | .i16 => 32767 | .i32 => 2147483647 | .i64 => 9223372036854775807
  | .u8 => 255 | .u16 => 65535 | .u32 => 4294967295 | .u64 => 18446744073709551615
def has (k : IntKind) (n : Int) : Prop := lo k ≤ n ∧ n ≤ hi k
instance (k : IntKind) (n : Int) : Decidable (has k n) := inferInstanceAs (Decidable (_ ∧ _))
def pw : IntKind → Int
  | .i8 | .u8 => 256 | .i16 | .u16 => 65536 | .i32 | .u32 => 4294967296 | _ => 18446744073709551616
def wr (k : IntKind) (n : Int) : Int :=
  match k with
  | .u8 => n % 256 | .u16 => n % 65536 | .u32 => n % 4294967296 | .u64 => n % 18446744073709551616
  | .i8 => (n + 128) % 256 - 128 | .i16 => (n + 32768) % 65536 - 32768 | .i32 => (n + 2147483648) % 4294967296 - 2147483648
  | .i64 => (n + 9223372036854775808) % 18446744073709551616 - 9223372036854775808
theorem wr_eq (k : IntKind) (n : Int) : wr k n = k.wrap n := by
  cases k <;> simp only [wr, IntKind.wrap, IntKind.bits, IntKind.signed, Bool.false_and, Bool.true_and] <;> simp <;> (try split) <;> omega
theorem wr_has (k : IntKind) (n : Int) : has k (wr k n) := by
  cases k <;> simp only [wr, has, lo, hi] <;> omega
theorem wr_id {k : IntKind} {n : Int} (h : has k n) : wr k n = n := by
  cases k <;> simp only [wr, has, lo, hi] at * <;> omega

/-! ### Lists as numbers -/
theorem pow_odd_inj : ∀ (x y a b : Nat), 2 ^ x * (2 * a + 1) = 2 ^ y * (2 * b + 1) → x = y ∧ a = b
  | 0, 0, a, b, h => by omega
  | 0, y + 1, a, b, h => by
    exfalso
    rw [Nat.pow_succ, Nat.mul_comm (2 ^ y) 2, Nat.mul_assoc] at h
    generalize 2 ^ y * (2 * b + 1) = z at h
    omega
  | x + 1, 0, a, b, h => by
    exfalso
    rw [Nat.pow_succ, Nat.mul_comm (2 ^ x) 2, Nat.mul_assoc] at h
    generalize 2 ^ x * (2 * a + 1) = z at h
    omega
  | x + 1, y + 1, a, b, h => by
    rw [Nat.pow_succ, Nat.pow_succ, Nat.mul_comm (2 ^ x) 2, Nat.mul_comm (2 ^ y) 2, Nat.mul_assoc, Nat.mul_assoc] at h
    have := pow_odd_inj x y a b (Nat.eq_of_mul_eq_mul_left (by omega) h)
    omega
def encN : List Nat → Nat
  | [] => 0
  | x :: l => 2 ^ x * (2 * encN l + 1)
theorem encN_pos (x : Nat) (l : List Nat) : 0 < encN (x :: l) := Nat.mul_pos (Nat.two_pow_pos _) (by omega)
theorem encN_inj : ∀ (l k : List Nat), encN l = encN k → l = k
  | [], [], _ => rfl
  | [], x :: k, h => by have := encN_pos x k; rw [← h] at this; exact absurd this (Nat.lt_irrefl _)
  | x :: l, [], h => by have := encN_pos x l; rw [h] at this; exact absurd this (Nat.lt_irrefl _)
  | x :: l, y :: k, h => by
    obtain ⟨h1, h2⟩ := pow_odd_inj _ _ _ _ h
    rw [h1, encN_inj l k h2]
def zig (z : Int) : Nat := if 0 ≤ z then 2 * z.toNat else 2 * (-z).toNat - 1
theorem zig_inj (a b : Int) (h : zig a = zig b) : a = b := by
  unfold zig at h; split at h <;> split at h <;> omega
def enc (l : List Int) : Int := (encN (l.map zig) : Nat)
theorem enc_inj {l k : List Int} (h : enc l = enc k) : l = k := by
  have := encN_inj _ _ (Int.ofNat_inj.1 h)
  exact List.map_inj_right (fun a b h => zig_inj a b h) |>.1 this
open Classical in
noncomputable def dec (x : Int) : List Int := if h : ∃ l, enc l = x then h.choose else []
theorem dec_enc (l : List Int) : dec (enc l) = l := by
  have h : ∃ k, enc k = enc l := ⟨l, rfl⟩
  rw [dec, dif_pos h]
  exact enc_inj h.choose_spec
theorem dec_zero : dec 0 = [] := dec_enc []
inductive LL where | num | int (k : IntKind) | bit
  deriving Repr, Inhabited
def LL.sz : LL → Nat | .num => 6 | _ => 1
def LL.eq : LL → LL → Bool
  | .num, .num => true
  | .int k, .int k' => k == k'
  | .bit, .bit => true
  | _, _ => false
def llSz : List LL → Nat
  | [] => 0
  | l :: ls => l.sz + llSz ls
def llEq : List LL → List LL → Bool
  | [], [] => true
  | a :: as, b :: bs => a.eq b && llEq as bs
  | _, _ => false
/-- what a list's element is: a number, an int, or several of them -/
inductive LK where | num | int (k : IntKind) | tup (l : LL) (ls : List LL)
  deriving Repr, Inhabited
def LK.sz : LK → Nat | .num => 6 | .int _ => 1 | .tup l ls => l.sz + llSz ls
def LK.eq : LK → LK → Bool
  | .num, .num => true
  | .int k, .int k' => k == k'
  | .tup a as, .tup b bs => a.eq b && llEq as bs
  | _, _ => false

/-! ### Words -/
def p64 (j : Nat) : Int := ((2 ^ (64 * j) : Nat) : Int)
def N384 : Int := 39402006196394479212279040100143613805079739270465446667948293404245721771497210611414266254884915640806627990306816
inductive A where
  | lit (n : Int) | var (n : Nat) | limb (n j : Nat)
  deriving DecidableEq, Inhabited, Repr
def A.ev (e : Nat → Int) : A → Int
  | .lit n => n
  | .var n => e n
  | .limb n j => e n / p64 j % 18446744073709551616
def A.ok (nv : Nat) : A → Prop
  | .lit _ => True
  | .var n => n < nv
  | .limb n _ => n < nv
def A.good (e : Nat → Int) : A → Prop
  | .limb n _ => 0 ≤ e n ∧ e n < N384
  | _ => True
def A.wf (nv : Nat) (e : Nat → Int) (a : A) : Prop := a.ok nv ∧ a.good e
inductive C where
  | int (k : IntKind) (a : A) | bool (a : A) | ptr (id off : Nat) | nil
  | slice (id off len cap : Nat) | nilslice | fn (f : FuncId) (caps : List (Nat × Nat)) | nilfn
  | str (s : ByteArray) | nilmap | niliface | ext (n : Nat) | top
  | ptrS (id off : Nat) (i : A) (n : Nat)
  | sl (id : Nat) | lp (id : Nat) (i : A) (k : LK) | slv (id : Nat) (lo hi : A) (k : LK)
  | sv (a : A)
  deriving Inhabited
inductive V where | one (c : C) | agg (cs : List C)
  deriving Inhabited
inductive SV where | vl (x : V) | tup (l : List V)
  deriving Inhabited
/-- a row: the list that a slice holds; x0: a list of the same length that no store turns; full: there is no room behind it -/
structure Row where
  x : A
  x0 : A
  k : LK
  elem : TypeId
  own : Bool
  full : Bool
structure Box where
  cells : List C
  elem : TypeId
  own : Bool
  row : Option Row := none
structure St where
  tmps : List SV
  boxes : List (Option Box)
  nv : Nat
  kn : List (Nat × Bool)
  gl : List (Nat × Nat)
  lvl : Nat
def St.al (σ : St) (id : Nat) : Bool := match σ.boxes[id]? with | some (some _) => true | _ => false

/-! ### Expressions -/
inductive KK where | int (k : IntKind) | bit | num | lst (k : LK) | any
  deriving Repr, Inhabited
def LL.has : LL → Int → Prop
  | .num, x => 0 ≤ x ∧ x < N384
  | .int k, x => Sx.has k x
  | .bit, x => 0 ≤ x ∧ x ≤ 1
def llHas : List LL → List Int → Prop
  | [], [] => True
  | l :: ls, x :: xs => l.has x ∧ llHas ls xs
  | _, _ => False
def LK.has : LK → Int → Prop
  | .num, x => 0 ≤ x ∧ x < N384
  | .int k, x => Sx.has k x
  | .tup l ls, x => llHas (l :: ls) (dec x)
def LK.hasL (k : LK) (l : List Int) : Prop := l.length ≤ 9223372036854775807 ∧ ∀ z ∈ l, k.has z
def KK.has : KK → Int → Prop
  | .int k, x => Sx.has k x
  | .bit, x => 0 ≤ x ∧ x ≤ 1
  | .num, x => 0 ≤ x ∧ x < N384
  | .lst k, x => k.hasL (dec x)
  | .any, _ => True
inductive D where
  | bin (op : BinOp) (k : IntKind) (a b : A)
  | cmp (op : BinOp) (a b : A)
  | conv (k : IntKind) (a : A)
  | not (a : A)
  | app (g j : Nat) (args : List A)
  | join (as : List A)
  | eqs (l : List (A × A))
  | sel (i : A) (as : List A)
  | put (i : A) (j : Nat) (x y : A)
  | llen (x : A)
  | lget (x i : A)
  | lapp (x : A) (ys : List A)
  | lsub (x lo hi : A)
  | lput (x i y : A)
  | lrep (n y : A)
  | lcpy (x y : A)
  | lcat (x y : A)
  | lsame (x y : A)
  deriving Inhabited
def binE (op : BinOp) (k : IntKind) (a b : Int) : Int :=
  match op with
  | .add => wr k (a + b) | .sub => wr k (a - b) | .mul => wr k (a * b)
  | .quo => wr k (a.tdiv b) | .rem => a.tmod b
  | .and => wr k ((BitVec.ofInt k.bits a &&& BitVec.ofInt k.bits b).toNat : Int)
  | .or => wr k ((BitVec.ofInt k.bits a ||| BitVec.ofInt k.bits b).toNat : Int)
  | .xor => wr k ((BitVec.ofInt k.bits a ^^^ BitVec.ofInt k.bits b).toNat : Int)
  | .andNot => wr k ((BitVec.ofInt k.bits a &&& ~~~ (BitVec.ofInt k.bits b)).toNat : Int)
  | .shl => wr k (a * ((2 ^ (min b.toNat k.bits) : Nat) : Int))
  | .shr => a.fdiv ((2 ^ (min b.toNat k.bits) : Nat) : Int)
  | _ => 0
def cmpE (op : BinOp) (a b : Int) : Bool :=
  match op with
  | .eql => a == b | .neq => a != b | .lss => decide (a < b) | .leq => decide (a ≤ b) | .gtr => decide (a > b) | .geq => decide (a ≥ b)
  | _ => false
def joinE : List Int → Int
  | [] => 0
  | x :: r => x + 18446744073709551616 * joinE r
def b2i (b : Bool) : Int := if b then 1 else 0

/-! ### Contracts -/
inductive L where | int (k : IntKind) | bool | num | cst (c : C) | lst (k : LK)
def L.n : L → Nat | .cst _ => 0 | _ => 1
/-- lent: a whole list, and how much of it is seen -/
inductive Sh where | one (l : L) | agg (ls : List L) | ptr (ls : List L) | lst (k : LK) | lent (k : LK)
inductive Oh where | one (l : L) | agg (ls : List L) | box (elem : TypeId) (ls : List L) | lst (elem : TypeId) (k : LK) | lent (elem : TypeId) (k : LK)
structure K where
  fn : FuncId
  ext : Bool
  ins : List Sh
  outs : List Oh
  pre : List Int → Prop
  sem : List Int → List Int
  fold : Bool := false

noncomputable def D.ev (T : List K) (e : Nat → Int) : D → Int
  | .bin op k a b => binE op k (a.ev e) (b.ev e)
  | .cmp op a b => b2i (cmpE op (a.ev e) (b.ev e))
  | .conv k a => wr k (a.ev e)
  | .not a => if a.ev e = 0 then 1 else 0
  | .app g j args => match T[g]? with | some κ => (κ.sem (args.map (·.ev e))).getD j 0 | none => 0
  | .join as => joinE (as.map (·.ev e))
  | .eqs l => b2i (l.all fun p => p.1.ev e == p.2.ev e)
  | .sel i as => (as.map (·.ev e)).getD (i.ev e).toNat 0
  | .put i j x y => if i.ev e = (j : Int) then x.ev e else y.ev e
  | .llen x => ((dec (x.ev e)).length : Int)
  | .lget x i => (dec (x.ev e)).getD (i.ev e).toNat 0
  | .lapp x ys => enc (dec (x.ev e) ++ ys.map (·.ev e))
  | .lsub x lo hi => enc (((dec (x.ev e)).take (hi.ev e).toNat).drop (lo.ev e).toNat)
  | .lput x i y => enc ((dec (x.ev e)).set (i.ev e).toNat (y.ev e))
  | .lrep n y => enc (List.replicate (n.ev e).toNat (y.ev e))
  | .lcpy x y => enc ((dec (y.ev e)).take (dec (x.ev e)).length ++ (dec (x.ev e)).drop (dec (y.ev e)).length)
  | .lcat x y => enc (dec (x.ev e) ++ dec (y.ev e))
  | .lsame x y => b2i (dec (x.ev e) == dec (y.ev e))

/-! ### What the words mean -/
structure M where
  env : Nat → Int
  rho : Nat → Nat × Nat
  ext : Nat → Value
  sv : Nat → Value := fun _ => .nilFunc
def slAt : Value → Addr
  | .slice (some a) _ _ => a
  | _ => ⟨0, 0, none⟩
def lenV : Value → Nat
  | .slice _ n _ => n
  | _ => 0
def subV (s : Nat) : Value → Nat → Nat → Value
  | .slice a _ c, lo, hi => .slice (if c = lo then a else a.map (·.add (lo * s))) (hi - lo) (c - lo)
  | v, _, _ => v
def fullV : Value → Prop
  | .slice _ n c => n = c
  | _ => True
def M.at (m : M) (id off : Nat) : Addr := ⟨(m.rho id).1, (m.rho id).2 + off, none⟩
def C.rel (m : M) (nv : Nat) (al : Nat → Bool) (c : C) (v : Value) : Prop :=
  match c with
  | .int k a => a.wf nv m.env ∧ has k (a.ev m.env) ∧ v = .int k (a.ev m.env)
  | .bool a => a.wf nv m.env ∧ (0 ≤ a.ev m.env ∧ a.ev m.env ≤ 1) ∧ v = .bool (decide (a.ev m.env ≠ 0))
  | .ptr id off => al id = true ∧ v = .pointer (some (m.at id off))
  | .nil => v = .pointer none
  | .slice id off len cap => al id = true ∧ v = .slice (some (m.at id off)) len cap
  | .nilslice => v = .slice none 0 0
  | .fn f caps => (∀ p ∈ caps, al p.1 = true) ∧ v = .func (.func f) #[] (caps.map fun p => Value.pointer (some (m.at p.1 p.2))).toArray
  | .nilfn => v = .nilFunc
  | .str s => v = .string s
  | .nilmap => v = .map none
  | .niliface => v = .nilIface
  | .ext n => v = m.ext n ∧ v.oneCell' = true
  | .top => True
  | .ptrS id off i n => al id = true ∧ i.wf nv m.env ∧ (0 ≤ i.ev m.env ∧ i.ev m.env < (n : Int)) ∧ v = .pointer (some (m.at id (off + (i.ev m.env).toNat)))
  | .sl id => al id = true ∧ v = m.sv id ∧ v.oneCell' = true
  | .lp id i k => al id = true ∧ i.wf nv m.env ∧ (0 ≤ i.ev m.env ∧ i.ev m.env < (lenV (m.sv id) : Int)) ∧ v = .pointer (some ((slAt (m.sv id)).add ((i.ev m.env).toNat * k.sz)))
  | .slv id lo hi k => al id = true ∧ lo.wf nv m.env ∧ hi.wf nv m.env ∧ (0 ≤ lo.ev m.env ∧ lo.ev m.env ≤ hi.ev m.env ∧ hi.ev m.env ≤ (lenV (m.sv id) : Int) ∧ hi.ev m.env ≤ 9223372036854775807) ∧
    v = subV k.sz (m.sv id) (lo.ev m.env).toNat (hi.ev m.env).toNat ∧ v.oneCell' = true
  | .sv a => a.wf nv m.env ∧ (LK.int .u8).hasL (dec (a.ev m.env)) ∧ v = .string (Go.strOfNums (dec (a.ev m.env)))
def Rels (m : M) (nv : Nat) (al : Nat → Bool) : List C → List Value → Prop
  | [], [] => True
  | c :: cs, v :: vs => c.rel m nv al v ∧ Rels m nv al cs vs
  | _, _ => False
def V.rel (m : M) (nv : Nat) (al : Nat → Bool) : V → Value → Prop
  | .one c, v => c.rel m nv al v
  | .agg cs, v => ∃ vs : List Value, v = .agg vs.toArray ∧ Rels m nv al cs vs
def VRels (m : M) (nv : Nat) (al : Nat → Bool) : List V → List Value → Prop
  | [], [] => True
  | c :: cs, v :: vs => c.rel m nv al v ∧ VRels m nv al cs vs
  | _, _ => False
def SV.rel (m : M) (nv : Nat) (al : Nat → Bool) : SV → Value → Prop
  | .vl x, v => x.rel m nv al v
  | .tup l, v => ∃ vs : List Value, v = .tuple vs.toArray ∧ VRels m nv al l vs

def limbs (x : Int) : List Value := (List.range 6).map fun j => .int .u64 (x / p64 j % 18446744073709551616)
def LL.vals : LL → Int → List Value
  | .num, x => limbs x
  | .int k, x => [.int k x]
  | .bit, x => [.bool (decide (x ≠ 0))]
def llVals : List LL → List Int → List Value
  | [], _ => []
  | l :: ls, xs => l.vals (xs.headD 0) ++ llVals ls xs.tail
noncomputable def LK.vals : LK → Int → List Value
  | .num, x => limbs x
  | .int k, x => [.int k x]
  | .tup l ls, x => llVals (l :: ls) (dec x)
noncomputable def flat (k : LK) (l : List Int) : List Value := l.flatMap k.vals
/-- a list that a slice of the caller's holds -/
def RoRow (w0 w : World) (k : LK) (v : Value) (l : List Int) : Prop :=
  (v = .slice none 0 0 ∧ l = []) ∨ ∃ ad cap, v = .slice (some ad) l.length cap ∧ ad.block < w0.heap.size ∧ l.length ≤ cap ∧ ∀ (j : Nat) u, (flat k l)[j]? = some u → w.cell? (ad.add j) = some u
def RowAt (w0 w : World) (r : Row) (v : Value) (l : List Int) : Prop :=
  r.k.hasL l ∧ (if r.own then w.ownsRow w0.heap.size r.elem r.k.sz v l.length (flat r.k l) else RoRow w0 w r.k v l) ∧ (r.full = true → fullV v)
structure Rep (w0 : World) (m : M) (σ : St) (a : Act) (w : World) : Prop where
  defers : a.defers = []
  size : a.tmps.size = σ.tmps.length
  tmp : ∀ (i : Nat) (s : SV), σ.tmps[i]? = some s → ∃ v, a.tmps[i]? = some v ∧ s.rel m σ.nv σ.al v
  below : Below w0.heap.size w0 w
  own : ∀ (id : Nat) (b : Box), σ.boxes[id]? = some (some b) → b.own = true →
    (m.rho id).2 = 0 ∧ w0.heap.size ≤ (m.rho id).1 ∧ ∃ vs : List Value, w.heap[(m.rho id).1]? = some (.cells vs.toArray b.elem (0, 0)) ∧ Rels m σ.nv σ.al b.cells vs
  ro : ∀ (id : Nat) (b : Box), σ.boxes[id]? = some (some b) → b.own = false →
    b.cells = [] ∨ (m.rho id).1 < w0.heap.size ∧ ∀ j c, b.cells[j]? = some c → ∃ v, w.cell? (m.at id j) = some v ∧ c.rel m σ.nv σ.al v
  inj : ∀ (id id' : Nat) (b b' : Box), σ.boxes[id]? = some (some b) → σ.boxes[id']? = some (some b') → b.own = true → b'.own = true → id ≠ id' → (m.rho id).1 ≠ (m.rho id').1
  kn : ∀ p ∈ σ.kn, p.1 < σ.nv ∧ decide (m.env p.1 ≠ 0) = p.2
  gl : ∀ p ∈ σ.gl, σ.al p.2 = true ∧ m.rho p.2 = (p.1, 0)
  rows : ∀ (id : Nat) (b : Box) (r : Row), σ.boxes[id]? = some (some b) → b.row = some r →
    r.x.wf σ.nv m.env ∧ r.x0.wf σ.nv m.env ∧ (dec (r.x0.ev m.env)).length = (dec (r.x.ev m.env)).length ∧ RowAt w0 w r (m.sv id) (dec (r.x.ev m.env))
  rbox : ∀ (id : Nat) (b : Box) (r : Row), σ.boxes[id]? = some (some b) → b.row = some r → r.own = true → ∀ (id' : Nat) (b' : Box), σ.boxes[id']? = some (some b') → b'.own = true → (m.sv id).ownBlock ≠ some (m.rho id').1
  rsep : ∀ (id : Nat) (b : Box) (r : Row) (id' : Nat) (b' : Box) (r' : Row), σ.boxes[id]? = some (some b) → b.row = some r → σ.boxes[id']? = some (some b') → b'.row = some r' → r.own = true → r'.own = true → id ≠ id' →
    (m.sv id).ownBlock = none ∨ (m.sv id').ownBlock ≠ (m.sv id).ownBlock

/-! ### How contracts are spelt in values -/
def cstV : C → Value
  | .int k (.lit n) => .int k n
  | .bool (.lit n) => .bool (decide (n ≠ 0))
  | .fn f _ => .func (.func f) #[] #[]
  | .str s => .string s
  | .nilslice => .slice none 0 0
  | .nilfn => .nilFunc
  | .nilmap => .map none
  | .niliface => .nilIface
  | _ => .pointer none
def lvals : List L → List Int → List Value
  | [], _ => []
  | .cst c :: ls, xs => cstV c :: lvals ls xs
  | .int k :: ls, x :: xs => .int k x :: lvals ls xs
  | .bool :: ls, x :: xs => .bool (decide (x ≠ 0)) :: lvals ls xs
  | .num :: ls, x :: xs => limbs x ++ lvals ls xs
  | .lst _ :: ls, _ :: xs => lvals ls xs
  | _ :: _, [] => []
def lhas : List L → List Int → Prop
  | [], [] => True
  | .cst _ :: ls, xs => lhas ls xs
  | .int k :: ls, x :: xs => has k x ∧ lhas ls xs
  | .bool :: ls, x :: xs => (0 ≤ x ∧ x ≤ 1) ∧ lhas ls xs
  | .num :: ls, x :: xs => (0 ≤ x ∧ x < N384) ∧ lhas ls xs
  | .lst k :: ls, x :: xs => k.hasL (dec x) ∧ lhas ls xs
  | _, _ => False
def lcount : List L → Nat
  | [] => 0
  | l :: ls => l.n + lcount ls
def Sh.leaves : Sh → List L | .one l => [l] | .agg ls => ls | .ptr ls => ls | .lst k => [.lst k] | .lent k => [.lst k, .int .i64]
def Oh.leaves : Oh → List L | .one l => [l] | .agg ls => ls | .box _ ls => ls | .lst _ k => [.lst k] | .lent _ k => [.lst k, .int .i64]
/-- a value that shows the first n of a whole list -/
def lentAt (k : LK) (Q : Value → Prop) (l : List Int) (n : Int) (v : Value) : Prop := ∃ v', Q v' ∧ fullV v' ∧ (0 ≤ n ∧ n ≤ (l.length : Int)) ∧ v = subV k.sz v' 0 n.toNat
def Sh.rel (w : World) (xs : List Int) : Sh → Value → Prop
  | .one l, v => [v] = lvals [l] xs
  | .agg ls, v => v = .agg (lvals ls xs).toArray
  | .ptr ls, v => ∃ b off, v = .pointer (some ⟨b, off, none⟩) ∧ ∀ j u, (lvals ls xs)[j]? = some u → w.cell? ⟨b, off + j, none⟩ = some u
  | .lst k, v => RoRow w w k v (dec (xs.headD 0))
  | .lent k, v => lentAt k (fun v' => RoRow w w k v' (dec (xs.headD 0))) (dec (xs.headD 0)) (xs.getD 1 0) v
def insRel (w : World) : List Sh → List Int → List Value → Prop
  | [], xs, vs => xs = [] ∧ vs = []
  | s :: ss, xs, v :: vs => lhas s.leaves (xs.take (lcount s.leaves)) ∧ s.rel w (xs.take (lcount s.leaves)) v ∧ insRel w ss (xs.drop (lcount s.leaves)) vs
  | _ :: _, _, [] => False
def Oh.rel (n0 : Nat) (w : World) (xs : List Int) : Oh → Value → Prop
  | .one l, v => [v] = lvals [l] xs
  | .agg ls, v => v = .agg (lvals ls xs).toArray
  | .box e ls, v => ∃ b, n0 ≤ b ∧ v = .pointer (some ⟨b, 0, none⟩) ∧ w.heap[b]? = some (.cells (lvals ls xs).toArray e (0, 0))
  | .lst e k, v => w.ownsRow n0 e k.sz v (dec (xs.headD 0)).length (flat k (dec (xs.headD 0)))
  | .lent e k, v => lentAt k (fun v' => w.ownsRow n0 e k.sz v' (dec (xs.headD 0)).length (flat k (dec (xs.headD 0)))) (dec (xs.headD 0)) (xs.getD 1 0) v
def outsRel (n0 : Nat) (w : World) : List Oh → List Int → List Value → Prop
  | [], xs, vs => xs = [] ∧ vs = []
  | s :: ss, xs, v :: vs => lhas s.leaves (xs.take (lcount s.leaves)) ∧ s.rel n0 w (xs.take (lcount s.leaves)) v ∧ outsRel n0 w ss (xs.drop (lcount s.leaves)) vs
  | _ :: _, _, [] => False
def retV : List Value → Value
  | [v] => v
  | vs => .tuple vs.toArray
/-- What a contract says. -/
def K.ok (P : Program) (κ : K) : Prop :=
  ∀ (w : World) (args : List Value) (xs : List Int), insRel w κ.ins xs args → κ.pre xs →
    if κ.ext then ∃ vs, (callFunc κ.fn args.toArray).run P w = .ok (.value (retV vs)) w ∧ outsRel w.heap.size w κ.outs (κ.sem xs) vs
    else (callFunc κ.fn args.toArray).run P w = .ok (.enter κ.fn args.toArray) w ∧
      Calls P κ.fn args.toArray w fun e w' => ∃ vs, e = .returned (retV vs) ∧ outsRel w.heap.size w' κ.outs (κ.sem xs) vs ∧ Below w.heap.size w w'
end Go.Sx

/- The engine Sx, part B: the runner: a function that walks a function's code over symbolic states and leaves a tree of plain conditions. -/
namespace Go.Sx
open Go
noncomputable section

def hasB (k : IntKind) (n : Int) : Bool := decide (lo k ≤ n) && decide (n ≤ hi k)
def cOf : Value → Option C
  | .int k n => if hasB k n then some (.int k (.lit n)) else none
  | .bool b => some (.bool (.lit (b2i b)))
  | .string s => some (.str s)
  | .pointer none => some .nil
  | .slice none 0 0 => some .nilslice
  | .nilFunc => some .nilfn
  | .nilIface => some .niliface
  | .map none => some .nilmap
  | _ => none
def mapO {α β : Type} (f : α → Option β) : List α → Option (List β)
  | [] => some []
  | x :: xs => match f x with
    | none => none
    | some y => match mapO f xs with
      | none => none
      | some ys => some (y :: ys)
def vOf : Value → Option V
  | .agg cs => (mapO cOf cs.toList).map .agg
  | v => (cOf v).map .one
def look (l : List (Nat × Nat)) (n : Nat) : Option Nat :=
  match l with
  | [] => none
  | p :: r => if p.1 == n then some p.2 else look r n
def lookB (l : List (Nat × Bool)) (n : Nat) : Option Bool :=
  match l with
  | [] => none
  | p :: r => if p.1 == n then some p.2 else lookB r n
def St.get (σ : St) (t : Nat) : SV := (lget? σ.tmps t).getD (.tup [])
theorem St.get_def (σ : St) (t : Nat) : σ.get t = σ.tmps.getD t (.tup []) := by rw [St.get, lget?_eq, List.getD_eq_getElem?_getD]
def St.val (σ : St) : Operand → Option SV
  | .tmp t => some (σ.get t)
  | .const v => (vOf v).map .vl
  | .func f => some (.vl (.one (.fn f [])))
  | .global g => (look σ.gl g).map fun id => .vl (.one (.ptr id 0))
def St.box (σ : St) (id : Nat) : Option Box := match lget? σ.boxes id with | some (some b) => some b | _ => none
theorem St.box_def (σ : St) (id : Nat) : σ.box id = match σ.boxes[id]? with | some (some b) => some b | _ => none := by rw [St.box, lget?_eq]
/-- one cell out of an operand -/
def St.cell (σ : St) (x : Operand) : Option C := match σ.val x with | some (.vl (.one c)) => some c | _ => none
def St.v (σ : St) (x : Operand) : Option V := match σ.val x with | some (.vl c) => some c | _ => none
def C.solid : C → Bool | .top => false | _ => true
def V.cells : V → List C | .one c => [c] | .agg cs => cs
def A.lit? : A → Option Int | .lit n => some n | _ => none

def szOf (P : Program) (t : TypeId) : Option Nat := (P.info? t).map (·.size)
def isAggB (d : TypeDesc) : Bool := match d with | .struct _ | .array _ _ => true | _ => false

/-- a value that the operation reckons: a literal if all is known, else a new name -/
structure Val where
  kk : KK
  d : D
def litD (d : D) : Option Int :=
  match d with
  | .bin op k (.lit a) (.lit b) => some (binE op k a b)
  | .cmp op (.lit a) (.lit b) => some (b2i (cmpE op a b))
  | .conv k (.lit a) => some (wr k a)
  | .not (.lit a) => some (if a = 0 then 1 else 0)
  | .eqs l => match mapO (fun p : A × A => match p with | (.lit a, .lit b) => some (a == b) | _ => none) l with
    | some bs => some (b2i (bs.all id))
    | none => none
  | _ => none
abbrev Defs := List (KK × D)
def mk (nn : Nat) (kk : KK) (d : D) : Defs × A :=
  match litD d with
  | some n => ([], .lit n)
  | none => ([(kk, d)], .var nn)

/-- what a store turns in a box -/
inductive Upd where
  | cells (off : Nat) (cs : List C)
  | row (x : A)
def Box.upd (b : Box) : Upd → Box
  | .cells off cs => { b with cells := b.cells.take off ++ cs ++ b.cells.drop (off + cs.length) }
  | .row x => match b.row with
    | some r => { b with row := some { r with x := x } }
    | none => b
def rowBox (r : Row) : Box := { cells := [], elem := r.elem, own := false, row := some r }
inductive Eff where
  | none
  | new (b : Box)
  | wr (id : Nat) (u : Upd)
  | extv
  | grow (old : Option Nat) (b : Box)
structure Plan where
  val : SV
  defs : Defs := []
  eff : Eff := .none
  reqs : List (Nat × List A) := []
  post : Defs := []
  nz : List A := []
inductive Pl where
  | ok (p : Plan)
  | call (f : FuncId) (args : List V)
  | need (n : Nat)
  | bad (why : Nat)

/-! ### contracts: from cells to numbers and back -/
def sixA (cs : List C) : Option (List A) :=
  match cs with
  | [.int .u64 a, .int .u64 b, .int .u64 c, .int .u64 d, .int .u64 e, .int .u64 f] => some [a, b, c, d, e, f]
  | _ => none
def uni (as : List A) : Option Nat :=
  match as with
  | [.limb n 0, .limb n1 1, .limb n2 2, .limb n3 3, .limb n4 4, .limb n5 5] =>
    if n == n1 && n == n2 && n == n3 && n == n4 && n == n5 then some n else none
  | _ => none
def litsJ (as : List A) : Option Int := (mapO A.lit? as).map joinE
/-- six cells as one number -/
def numA (nn : Nat) (as : List A) : Defs × A :=
  match uni as with
  | some n => ([], .var n)
  | none => match litsJ as with
    | some n => ([], .lit n)
    | none => ([(.num, .join as)], .var nn)
def cEq : C → C → Bool
  | .int k (.lit a), .int k' (.lit b) => k == k' && a == b
  | .bool (.lit a), .bool (.lit b) => a == b
  | .fn f [], .fn g [] => f == g
  | .str a, .str b => decide (a = b)
  | .nil, .nil => true
  | .nilslice, .nilslice => true
  | .nilfn, .nilfn => true
  | .nilmap, .nilmap => true
  | .niliface, .niliface => true
  | _, _ => false
def takeLs (nn : Nat) : List L → List C → Option (Defs × List A)
  | [], [] => some ([], [])
  | .cst c :: ls, c' :: cs => if cEq c c' then takeLs nn ls cs else none
  | .int k :: ls, .int k' a :: cs => if k == k' then (takeLs nn ls cs).map fun r => (r.1, a :: r.2) else none
  | .bool :: ls, .bool a :: cs => match a with
    | .lit n => if n == 0 || n == 1 then (takeLs nn ls cs).map fun r => (r.1, a :: r.2) else none
    | _ => (takeLs nn ls cs).map fun r => (r.1, a :: r.2)
  | .num :: ls, a :: b :: c :: d :: e :: f :: cs => match sixA [a, b, c, d, e, f] with
    | none => none
    | some as => match takeLs (nn + (numA nn as).1.length) ls cs with
      | none => none
      | some r => some ((numA nn as).1 ++ r.1, (numA nn as).2 :: r.2)
  | _, _ => none
def St.row (σ : St) (id : Nat) : Option Row := match σ.box id with | some b => b.row | none => none
def isZ : A → Bool | .lit n => n == 0 | _ => false
theorem isZ_ok {a : A} (h : isZ a = true) : a = .lit 0 := by
  cases a <;> simp [isZ] at h <;> simp [h]
def LK.leaf : LK → L | .num => .num | .int k => .int k | .tup _ _ => .bool
def LL.leaf : LL → L | .num => .num | .int k => .int k | .bit => .bool
def oneA (r : Option (Defs × List A)) : Option (Defs × A) := match r with | some (ds, [y]) => some (ds, y) | _ => none
/-- an element's cells as one number -/
def takeK (nn : Nat) (k : LK) (cs : List C) : Option (Defs × A) :=
  match k with
  | .num => oneA (takeLs nn [.num] cs)
  | .int k => oneA (takeLs nn [.int k] cs)
  | .tup l ls => match takeLs nn ((l :: ls).map LL.leaf) cs with
    | some (ds, as) => some (ds ++ [(.any, .lapp (.lit 0) as)], .var (nn + ds.length))
    | none => none
def takeNK (k : LK) : Nat → Nat → List C → Option (Defs × List A)
  | _, 0, cs => match cs with | [] => some ([], []) | _ => none
  | nn, n + 1, cs => match takeK nn k (cs.take k.sz) with
    | none => none
    | some d => match takeNK k (nn + d.1.length) n (cs.drop k.sz) with
      | none => none
      | some r => some (d.1 ++ r.1, d.2 :: r.2)
def takeSh (σ : St) (nn : Nat) : Sh → V → Option (Defs × List A)
  | .one l, .one c => takeLs nn [l] [c]
  | .agg ls, .agg cs => takeLs nn ls cs
  | .ptr ls, .one (.ptr id off) => match σ.box id with
    | none => none
    | some b => takeLs nn ls ((b.cells.drop off).take (ls.foldl (fun n l => n + (match l with | .num => 6 | .lst _ => 0 | _ => 1)) 0))
  | .lst k, .one (.sl id) => match σ.row id with
    | some r => if r.k.eq k then some ([], [r.x]) else none
    | none => none
  | .lst _, .one .nilslice => some ([], [.lit 0])
  | .lst k, .one (.slv id lo hi k') => match σ.row id with
    | some r => if r.k.eq k && k'.eq k then some ([(.lst k, .lsub r.x lo hi)], [.var nn]) else none
    | none => none
  | .lent k, .one (.sl id) => match σ.row id with
    | some r => if r.k.eq k && r.full then some ([(.int .i64, .llen r.x0)], [r.x, .var nn]) else none
    | none => none
  | .lent k, .one (.slv id lo hi k') => match σ.row id with
    | some r => if r.k.eq k && k'.eq k && r.full && isZ lo then some ([], [r.x, hi]) else none
    | none => none
  | .lent _, .one .nilslice => some ([], [.lit 0, .lit 0])
  | .lst k, .one (.slice id off n c) => match σ.box id with
    | none => none
    | some b => if decide (0 < n) && decide (n ≤ c) && decide (n ≤ 1024) && decide (n * k.sz ≤ (b.cells.drop off).length) then
        match takeNK k nn n ((b.cells.drop off).take (n * k.sz)) with
        | some (ds, as) => some (ds ++ [(.lst k, .lapp (.lit 0) as)], [.var (nn + ds.length)])
        | none => none
      else none
  | _, _ => none
def takeIns (σ : St) (nn : Nat) : List Sh → List V → Option (Defs × List A)
  | [], [] => some ([], [])
  | s :: ss, v :: vs => match takeSh σ nn s v with
    | none => none
    | some d => match takeIns σ (nn + d.1.length) ss vs with
      | none => none
      | some r => some (d.1 ++ r.1, d.2 ++ r.2)
  | _, _ => none
def kkOf : L → KK | .int k => .int k | .num => .num | .lst k => .lst k | _ => .bit
/-- the results of a contract: names from nn on, cells over them -/
def cstB : C → Bool
  | .nil | .nilslice | .nilfn | .nilmap | .niliface | .str _ => true
  | .fn _ [] => true
  | .int k (.lit n) => hasB k n
  | .bool (.lit n) => n == 0 || n == 1
  | _ => false
def putLs (g : Nat) (args : List A) (nn j : Nat) : List L → Defs × List C
  | [] => ([], [])
  | .cst c :: ls => let r := putLs g args nn j ls; (r.1, (if cstB c then c else .top) :: r.2)
  | .int k :: ls => let r := putLs g args (nn + 1) (j + 1) ls; ((.int k, .app g j args) :: r.1, .int k (.var nn) :: r.2)
  | .bool :: ls => let r := putLs g args (nn + 1) (j + 1) ls; ((.bit, .app g j args) :: r.1, .bool (.var nn) :: r.2)
  | .lst k :: ls => let r := putLs g args (nn + 1) (j + 1) ls; ((.lst k, .app g j args) :: r.1, r.2)
  | .num :: ls => let r := putLs g args (nn + 1) (j + 1) ls
    ((.num, .app g j args) :: r.1, [C.int .u64 (.limb nn 0), .int .u64 (.limb nn 1), .int .u64 (.limb nn 2), .int .u64 (.limb nn 3), .int .u64 (.limb nn 4), .int .u64 (.limb nn 5)] ++ r.2)
/-- at most one new box, and it the only boxed result -/
def putOuts (g : Nat) (args : List A) (nn j nid : Nat) : List Oh → Option (Defs × List V × Option Box)
  | [] => some ([], [], none)
  | .one l :: os =>
    let r := putLs g args nn j [l]
    match putOuts g args (nn + lcount [l]) (j + lcount [l]) nid os with
    | none => none
    | some q => match r.2 with
      | [c] => some (r.1 ++ q.1, .one c :: q.2.1, q.2.2)
      | _ => none
  | .agg ls :: os =>
    let r := putLs g args nn j ls
    match putOuts g args (nn + lcount ls) (j + lcount ls) nid os with
    | none => none
    | some q => some (r.1 ++ q.1, .agg r.2 :: q.2.1, q.2.2)
  | .box e ls :: os =>
    let r := putLs g args nn j ls
    match putOuts g args (nn + lcount ls) (j + lcount ls) nid os with
    | none => none
    | some q => match q.2.2 with
      | none => some (r.1 ++ q.1, .one (.ptr nid 0) :: q.2.1, some { cells := r.2, elem := e, own := true })
      | some _ => none
  | .lst e k :: os =>
    let r := putLs g args nn j [.lst k]
    match putOuts g args (nn + 1) (j + 1) nid os with
    | none => none
    | some q => match q.2.2 with
      | none => some (r.1 ++ q.1, .one (.sl nid) :: q.2.1, some (rowBox { x := .var nn, x0 := .var nn, k := k, elem := e, own := true, full := false }))
      | some _ => none
  | .lent e k :: os =>
    let r := putLs g args nn j [.lst k, .int .i64]
    match putOuts g args (nn + 2) (j + 2) nid os with
    | none => none
    | some q => match q.2.2 with
      | none => some (r.1 ++ q.1, .one (.slv nid (.lit 0) (.var (nn + 1)) k) :: q.2.1, some (rowBox { x := .var nn, x0 := .var nn, k := k, elem := e, own := true, full := true }))
      | some _ => none
/-- a contract whose one number is reckoned at once where all arguments are known; else as ever -/
def putK (κ : K) (g : Nat) (args : List A) (nn nid : Nat) : Option (Defs × List V × Option Box) :=
  match κ.fold, κ.outs, mapO A.lit? args with
  | true, [.one (.int k)], some xs => if hasB k ((κ.sem xs).getD 0 0) then some ([], [V.one (.int k (.lit ((κ.sem xs).getD 0 0)))], none) else putOuts g args nn 0 nid κ.outs
  | _, _, _ => putOuts g args nn 0 nid κ.outs
def retS : List V → SV
  | [v] => .vl v
  | vs => .tup vs
def findK (T : List K) (f : FuncId) : Nat → Option (Nat × K)
  | g => match T with
    | [] => none
    | κ :: r => if κ.fn == f then some (g, κ) else findK r f (g + 1)

/-! ### one operation -/
/-- what is known of a bool -/
inductive Tr where | yes | no | need (n : Nat) | bad
def okP (v : C) : Pl := .ok { val := .vl (.one v) }
def mkP (nn : Nat) (kk : KK) (d : D) (c : A → C) : Pl := let r := mk nn kk d; .ok { val := .vl (.one (c r.2)), defs := r.1 }
def truth (σ : St) : A → Tr
  | .lit n => if n = 0 then .no else .yes
  | .var n => match lookB σ.kn n with | some true => .yes | some false => .no | none => .need n
  | .limb _ _ => .bad
def idx (σ : St) (x : Operand) : Option Nat :=
  match σ.cell x with
  | some (.int _ (.lit n)) => if 0 ≤ n then some n.toNat else none
  | _ => none
def sl2 (lo hi mx : Option (Option Nat)) (len cap : Nat) (isSlice : Bool) : Option (Nat × Nat × Nat) :=
  match lo, hi, mx with
  | some l, some h, none =>
    let h' := h.getD len
    let l' := l.getD 0
    if h' ≤ cap && l' ≤ h' && (isSlice || len == cap) then some (l', h', cap) else none
  | _, _, _ => none
def fillC (place : Nat → Option (Nat × Nat)) (cells : List C) : List (Nat × List C) → Option (List C)
  | [] => some cells
  | (i, v) :: rest => match place i with
    | none => none
    | some (off, size) => if v.length ≠ size || cells.length < off + v.length then none
      else fillC place (cells.take off ++ v ++ cells.drop (off + v.length)) rest
def subKind : IntKind → IntKind → Bool
  | .u8, .i64 | .u8, .u64 | .u8, .u32 | .u8, .u16 | .u8, .i32 | .u8, .i16 | .u16, .u32 | .u16, .i32 | .u16, .i64 | .u16, .u64 | .u32, .i64 | .u32, .u64 | .i32, .i64 | .i8, .i64 => true
  | a, b => a == b
end
end Go.Sx

/- The engine Sx, part C: one operation; the tree; the runner. -/
namespace Go.Sx
open Go
noncomputable section

def eqN (f : List C → List C → Option (List (A × A) × List C × List C)) : Nat → List C → List C → Option (List (A × A) × List C × List C)
  | 0, xs, ys => some ([], xs, ys)
  | n + 1, xs, ys => match f xs ys with
    | none => none
    | some r => match eqN f n r.2.1 r.2.2 with
      | none => none
      | some q => some (r.1 ++ q.1, q.2)
def eqFs (f : TypeId → List C → List C → Option (List (A × A) × List C × List C)) (sz : TypeId → Option Nat) : List Field → Nat → List C → List C → Option (List (A × A) × Nat × List C × List C)
  | [], n, xs, ys => some ([], n, xs, ys)
  | fd :: fs, n, xs, ys => if fd.name == "_" || fd.offset != n then none else match f fd.type xs ys, sz fd.type with
    | some r, some s => match eqFs f sz fs (n + s) r.2.1 r.2.2 with
      | none => none
      | some q => some (r.1 ++ q.1, q.2)
    | _, _ => none
/-- the numbers that '==' at a flat type compares, pair by pair; and the cells that are left -/
def eqW (P : Program) : Nat → TypeId → List C → List C → Option (List (A × A) × List C × List C)
  | 0, _, _, _ => none
  | d + 1, t, xs, ys => match P.underlying t with
    | some (.int _) => match xs, ys with
      | .int k a :: xs', .int k' b :: ys' => if k == k' && szOf P t == some 1 then some ([(a, b)], xs', ys') else none
      | _, _ => none
    | some .bool => match xs, ys with
      | .bool a :: xs', .bool b :: ys' => if szOf P t == some 1 then some ([(a, b)], xs', ys') else none
      | _, _ => none
    | some (.array n e) => if szOf P t == (szOf P e).map (n * ·) then eqN (eqW P d e) n xs ys else none
    | some (.struct fs) => if P.stoodInHeld t then none else match eqFs (eqW P d) (szOf P) fs.toList 0 xs ys with
      | some r => if szOf P t == some r.2.1 then some (r.1, r.2.2) else none
      | none => none
    | _ => none
def binInt (op : BinOp) (k : IntKind) (k' : IntKind) (a b : A) (nn : Nat) : Pl :=
  match op with
  | .shl | .shr => match b with
    | .lit n => if 0 ≤ n then mkP nn (.int k) (.bin op k a b) (.int k) else .bad 1
    | _ => if lo k' == 0 then mkP nn (.int k) (.bin op k a b) (.int k) else
      .ok { val := .vl (.one (.int k (.var (nn + 1)))), defs := [(.bit, .cmp .leq (.lit 0) b), (.int k, .bin op k a b)], nz := [.var nn] }
  | .add | .sub | .mul | .and | .or | .xor | .andNot => if k == k' then mkP nn (.int k) (.bin op k a b) (.int k) else .bad 3
  | .quo | .rem => if k == k' then
      match b with
      | .lit n => if n != 0 then mkP nn (.int k) (.bin op k a b) (.int k) else .bad 4
      | _ => let r := mk nn (.int k) (.bin op k a b); .ok { val := .vl (.one (.int k r.2)), defs := r.1, nz := [b] }
    else .bad 5
  | .eql | .neq | .lss | .leq | .gtr | .geq => if k == k' then mkP nn .bit (.cmp op a b) .bool else .bad 6
  
/-- '==' where one side is nil -/
def eqNil (d : TypeDesc) (x y : C) : Option Bool :=
  match d, x, y with
  | .pointer _, .nil, .nil => some true
  | .pointer _, .nil, .ptr .. => some false
  | .pointer _, .ptr .., .nil => some false
  | .slice _, .nilslice, .nilslice => some true
  | .slice _, .nilslice, .slice .. => some false
  | .slice _, .slice .., .nilslice => some false
  | .func .., .nilfn, .nilfn => some true
  | .func .., .nilfn, .fn .. => some false
  | .func .., .fn .., .nilfn => some false
  | .map .., .nilmap, .nilmap => some true
  | _, _, _ => none
/-- cells that are all numbers of one kind -/
def intA (k : IntKind) : C → Option A | .int k' a => if k == k' then some a else none | _ => none
def intsOf (cs : List C) : Option (IntKind × List A) :=
  match cs with
  | .int k _ :: _ => (mapO (intA k) cs).map fun as => (k, as)
  | _ => none
def bytesA (s : ByteArray) : List A := s.data.toList.map fun b => .lit b.toNat
def inRange (a : A) (len : Nat) : Defs := [(.bit, .cmp .leq (.lit 0) a), (.bit, .cmp .lss a (.lit len))]
def putDs (k : IntKind) (i x : A) : List A → Nat → Defs
  | [], _ => []
  | a :: as, j => (.int k, .put i j x a) :: putDs k i x as (j + 1)
def putCs (k : IntKind) (nn : Nat) : Nat → List C
  | 0 => []
  | n + 1 => .int k (.var nn) :: putCs k (nn + 1) n
def planBin (P : Program) (op : BinOp) (t : TypeId) (x y : V) (nn : Nat) : Pl :=
  match x, y with
  | .one (.int k a), .one (.int k' b) => binInt op k k' a b nn
  | .one (.bool a), .one (.bool b) => match op, P.underlying t with
    | .eql, some .bool => mkP nn .bit (.cmp .eql a b) .bool
    | .neq, some .bool => mkP nn .bit (.cmp .neq a b) .bool
    | _, _ => .bad 13
  | .one (.sv a), .one (.sv b) => match op with
    | .eql => mkP nn .bit (.lsame a b) .bool
    | .neq => .ok { val := .vl (.one (.bool (.var (nn + 1)))), defs := [(.bit, .lsame a b), (.bit, .not (.var nn))] }
    | _ => .bad 128
  | .one (.str a), .one (.str b) => match op with
    | .eql => okP (.bool (.lit (b2i (a.data.toList == b.data.toList))))
    | .neq => okP (.bool (.lit (b2i (!(a.data.toList == b.data.toList)))))
    | _ => .bad 131
  | .agg xs, .agg ys => if P.eqGuardType P.depth t || !((P.underlying t).any isAggB) then .bad 15 else match eqW P 20 t xs ys with
    | some (l, [], []) => match op with
        | .eql => mkP nn .bit (.eqs l) .bool
        | .neq => match litD (.eqs l) with
          | some n => .ok { val := .vl (.one (.bool (.lit (if n = 0 then 1 else 0)))) }
          | none => .ok { val := .vl (.one (.bool (.var (nn + 1)))), defs := [(.bit, .eqs l), (.bit, .not (.var nn))] }
        | _ => .bad 14
    | _ => .bad 16
  | .one x, .one y => match P.underlying t with
    | some d => match eqNil d x y with
      | some b => match op with
        | .eql => okP (.bool (.lit (b2i b)))
        | .neq => okP (.bool (.lit (b2i (!b))))
        | _ => .bad 17
      | none => .bad 18
    | none => .bad 19
  | _, _ => .bad 18

def partC (d : TypeDesc) (size : Nat) (cs : List C) (off : Nat) : Pl :=
  if isAggB d then .ok { val := .vl (.agg ((cs.drop off).take size)) }
  else match cs[off]? with
    | some c => okP c
    | none => .bad 20

def bndOf (σ : St) (b : Option Operand) : Option (Option Nat) := match b with | some o => (idx σ o).map some | none => some none
def capOf (σ : St) (x : Operand) : Option (Nat × Nat) := match σ.cell x with | some (.ptr id off) => some (id, off) | _ => none
def partOf (σ : St) (p : Nat × Operand) : Option (Nat × List C) := match σ.v p.2 with | some v => some (p.1, v.cells) | none => none
def eqA : A → A → Bool
  | .lit a, .lit b => a == b
  | .var a, .var b => a == b
  | .limb a i, .limb b j => a == b && i == j
  | _, _ => false
/-- is the index one of the row's? -/
def inRow (nn : Nat) (x a : A) : Defs := [(.int .i64, .llen x), (.bit, .cmp .leq (.lit 0) a), (.bit, .cmp .lss a (.var nn))]
/-- is the index one of the view's? -/
def inView (a hi : A) : Defs := [(.bit, .cmp .leq (.lit 0) a), (.bit, .cmp .lss a hi)]
/-- a part of a row -/
def partP (nn id : Nat) (r : Row) (lo hi : A) : Pl :=
  .ok { val := .vl (.one (.slv id lo hi r.k)), defs := [(.int .i64, .llen r.x0), (.bit, .cmp .leq (.lit 0) lo), (.bit, .cmp .leq lo hi), (.bit, .cmp .leq hi (.var nn))], nz := [.var (nn + 1), .var (nn + 2), .var (nn + 3)] }
def bndA (σ : St) (b : Option Operand) : Option (Option A) :=
  match b with
  | some o => match σ.cell o with | some (.int _ a) => some (some a) | _ => none
  | none => some none
def LL.kk : LL → KK | .num => .num | .int k => .int k | .bit => .bit
/-- the leaves of an element that is one number -/
def tupDs (z : A) (j : Nat) : List LL → Defs
  | [] => []
  | l :: ls => (l.kk, .lget z (.lit j)) :: tupDs z (j + 1) ls
def LL.cells (nn : Nat) : LL → List C
  | .num => [C.int .u64 (.limb nn 0), .int .u64 (.limb nn 1), .int .u64 (.limb nn 2), .int .u64 (.limb nn 3), .int .u64 (.limb nn 4), .int .u64 (.limb nn 5)]
  | .int k => [.int k (.var nn)]
  | .bit => [.bool (.var nn)]
def tupCs (nn : Nat) : List LL → List C
  | [] => []
  | l :: ls => l.cells nn ++ tupCs (nn + 1) ls
def loadRow (nn : Nat) (d : TypeDesc) (n : Nat) (k : LK) (x i : A) : Pl :=
  match k with
  | .num => if isAggB d && n == 6 then
      .ok { val := .vl (.agg [C.int .u64 (.limb nn 0), .int .u64 (.limb nn 1), .int .u64 (.limb nn 2), .int .u64 (.limb nn 3), .int .u64 (.limb nn 4), .int .u64 (.limb nn 5)]), defs := [(.num, .lget x i)] } else .bad 110
  | .int k => if isAggB d then .bad 111 else .ok { val := .vl (.one (.int k (.var nn))), defs := [(.int k, .lget x i)] }
  | .tup l ls => if isAggB d && n == l.sz + llSz ls then .ok { val := .vl (.agg (tupCs (nn + 1) (l :: ls))), defs := (.any, .lget x i) :: tupDs (.var nn) 0 (l :: ls) } else .bad 126
/-! ### a list behind a list; the empty list -/
structure Grow where
  old : Option Nat
  x0 : A
  k : LK
  elem : TypeId
  defs : Defs
  a : A
/-- a type's leaves -/
def llFs (f : TypeId → Option (List LL)) : List Field → Option (List LL)
  | [] => some []
  | fd :: fs => match f fd.type with
    | none => none
    | some l => match llFs f fs with
      | none => none
      | some r => some (l ++ r)
def llN (l : List LL) : Nat → List LL
  | 0 => []
  | n + 1 => l ++ llN l n
def llOf (P : Program) : Nat → TypeId → Option (List LL)
  | 0, _ => none
  | d + 1, t => match P.underlying t with
    | some (.int k) => some [.int k]
    | some .bool => some [.bit]
    | some (.array n u) => match P.underlying u, n == 6 with
      | some (.int .u64), true => some [.num]
      | _, _ => match llOf P d u with
        | some l => if n ≤ 16 then some (llN l n) else none
        | none => none
    | some (.struct fs) => llFs (llOf P d) fs.toList
    | _ => none
def elemK (P : Program) (e : TypeId) : Option LK :=
  match P.underlying e with
  | some (.int k) => some (.int k)
  | some (.array 6 u) => match P.underlying u with
    | some (.int .u64) => some .num
    | _ => none
  | some (.struct _) => match llOf P 20 e with
    | some (l :: ls) => some (.tup l ls)
    | _ => none
  | _ => none
def srcK (σ : St) (nn : Nat) (k : LK) (s : Operand) : Option (Defs × A) :=
  match σ.v s with
  | some v => match takeSh σ nn (.lst k) v with
    | some (ds, [y]) => some (ds, y)
    | _ => none
  | none => none
/-- a list behind a list: the old row, the list, the other list -/
def catP (P : Program) (σ : St) (nn : Nat) (op : Op) : Option Grow :=
  match op with
  | .call c => match c.callee, c.argTypes.toList, c.args.toList with
    | .builtin .append, [t, t'], [s, x] => if t == t' then match P.underlying t with
      | some (.slice e) => match P.info? e, elemK P e with
        | some i, some k => match i.zero with
          | some z => if z.cells.size == i.size && i.size == k.sz && decide (i.bytes ≤ 16384) then
              match srcK σ nn k x with
              | some (ds, y) => match σ.cell s with
                | some .nilslice => some ⟨none, .lit 0, k, e, ds, y⟩
                | some (.sl id') => match σ.row id' with
                  | some r => if r.own && r.elem == e && r.k.eq k then some ⟨some id', r.x, k, e, ds, y⟩ else none
                  | none => none
                | _ => none
              | none => none
            else none
          | none => none
        | _, _ => none
      | _ => none
      else none
    | _, _, _ => none
  | _ => none
def catD (nn : Nat) (g : Grow) : Defs := g.defs ++ [(.int .i64, .llen g.x0), (.bit, .cmp .lss (.var (nn + g.defs.length)) (.lit 2147483648)), (.int .i64, .llen g.a), (.bit, .cmp .lss (.var (nn + (g.defs.length + 2))) (.lit 2147483648))]
def catPl (nn nid : Nat) (g : Grow) : Plan :=
  { val := .vl (.one (.sl nid)), defs := catD nn g, nz := [.var (nn + (g.defs.length + 1)), .var (nn + (g.defs.length + 3))], post := [(.lst g.k, .lcat g.x0 g.a)]
    eff := .grow g.old (rowBox { x := .var (nn + (g.defs.length + 4)), x0 := .var (nn + (g.defs.length + 4)), k := g.k, elem := g.elem, own := true, full := false }) }
def emptyP (P : Program) (nid : Nat) (t : TypeId) (len : Nat) (ps : Array (Nat × Operand)) : Option Plan :=
  if len == 0 && ps.toList.isEmpty then match P.underlying t with
    | some (.slice e) => match P.info? e, elemK P e with
      | some i, some k => if i.size == k.sz then
          some { val := .vl (.one (.sl nid)), eff := .new (rowBox { x := .lit 0, x0 := .lit 0, k := k, elem := e, own := true, full := true }) } else none
      | _, _ => none
    | _ => none
  else none
def plan (P : Program) (T : List K) (σ : St) (nn nid : Nat) (op : Op) : Pl :=
  match op with
  | .move x | .assign x => match σ.val x with | some s => .ok { val := s } | none => .bad 30
  | .pick c a b => match σ.cell c with
    | some (.bool t) => match truth σ t with
      | .yes => match σ.val a with | some s => .ok { val := s } | none => .bad 31
      | .no => match σ.val b with | some s => .ok { val := s } | none => .bad 31
      | .need n => .need n
      | .bad => .bad 31
    | _ => .bad 32
  | .alloc e => match P.info? e with
    | some i => match i.zero with
      | some z => match vOf z with
        | some v => .ok { val := .vl (.one (.ptr nid 0)), eff := .new { cells := v.cells, elem := e, own := true } }
        | none => .bad 33
      | none => .bad 34
    | none => .bad 35
  | .box e x => match σ.v x with
    | some v => if v.cells.all C.solid then .ok { val := .vl (.one (.ptr nid 0)), eff := .new { cells := v.cells, elem := e, own := true } } else .bad 36
    | none => .bad 37
  | .load t x => match σ.cell x with
    | some (.ptr id off) => match σ.box id, P.underlying t, szOf P t with
      | some b, some d, some n => if isAggB d then
          if (b.cells.drop off).length < n then .bad 38 else .ok { val := .vl (.agg ((b.cells.drop off).take n)) }
        else match b.cells[off]? with
          | some c => okP c
          | none => .bad 39
      | _, _, _ => .bad 40
    | some (.ptrS id off i n) => match σ.box id, P.underlying t with
      | some b, some d => if isAggB d then .bad 40 else match intsOf ((b.cells.drop off).take n) with
        | some r => if r.2.length == n then .ok { val := .vl (.one (.int r.1 (.var nn))), defs := [(.int r.1, .sel i r.2)] } else .bad 39
        | none => .bad 39
      | _, _ => .bad 40
    | some (.lp id i k) => match σ.row id, P.underlying t, szOf P t with
      | some r, some d, some n => if r.k.eq k then loadRow nn d n k r.x i else .bad 112
      | _, _, _ => .bad 113
    | _ => .bad 41
  | .store t x y => match σ.cell x, σ.v y with
    | some (.ptr id off), some v => match σ.box id, szOf P t with
      | some b, some n =>
        if b.own && v.cells.length == n && v.cells.all C.solid && decide (off + n ≤ b.cells.length) then .ok { val := .tup [], eff := .wr id (.cells off v.cells) } else .bad 42
      | _, _ => .bad 43
    | some (.ptrS id off i n), some (.one (.int k x)) => match σ.box id, szOf P t with
      | some b, some 1 => match intsOf ((b.cells.drop off).take n) with
        | some r => if b.own && r.2.length == n && r.1 == k then .ok { val := .tup [], defs := putDs k i x r.2 0, eff := .wr id (.cells off (putCs k nn n)) } else .bad 42
        | none => .bad 42
      | _, _ => .bad 43
    | some (.lp id i k), some v => match σ.row id, szOf P t with
      | some r, some s => if r.own && r.k.eq k && s == k.sz && v.cells.all C.solid then match takeK nn k v.cells with
          | some (ds, y) => .ok { val := .tup [], defs := ds ++ [(.lst k, .lput r.x i y)], eff := .wr id (.row (.var (nn + ds.length))) }
          | _ => .bad 117
        else .bad 118
      | _, _ => .bad 119
    | _, _ => .bad 44
  | .nilCheck x => match σ.cell x with
    | some (.ptr id off) => okP (.ptr id off)
    | _ => .bad 45
  | .binOp op t x y _ => match σ.v x, σ.v y with
    | some a, some b => planBin P op t a b nn
    | _, _ => .bad 46
  | .unOp op _ x => match op, σ.cell x with
    | .not, some (.bool a) => mkP nn .bit (.not a) .bool
    | .neg, some (.int k a) => mkP nn (.int k) (.bin .sub k (.lit 0) a) (.int k)
    | .xor, some (.int k a) => mkP nn (.int k) (.bin .xor k (.lit (if lo k = 0 then hi k else -1)) a) (.int k)
    | _, _ => .bad 47
  | .convert src dst x => match P.underlying src, P.underlying dst, σ.cell x with
    | some _, some (.int k), some (.int k' a) => if subKind k' k then okP (.int k a) else mkP nn (.int k) (.conv k a) (.int k)
    | some (.slice e), some .string, some c => match P.underlying e, takeSh σ nn (.lst (.int .u8)) (.one c) with
      | some (.int .u8), some (ds, [y]) => .ok { val := .vl (.one (.sv y)), defs := ds }
      | _, _ => .bad 127
    | _, _, _ => .bad 48
  | .fieldAddr s x f => match P.underlying s, σ.cell x with
    | some (.struct fs), some (.ptr id off) => match fs[f]? with
      | some fd => match szOf P fd.type with
        | some (_ + 1) => okP (.ptr id (off + fd.offset))
        | _ => .bad 49
      | none => .bad 50
    | _, _ => .bad 51
  | .indexAddr t x i => match P.underlying t, σ.cell x, idx σ i with
    | some (.array len e), some (.ptr id off), some n => match szOf P e with
      | some s => if n < len then okP (.ptr id (off + n * s)) else .bad 52
      | none => .bad 53
    | some (.slice e), some (.slice id off len _), some n => match szOf P e with
      | some s => if n < len then okP (.ptr id (off + n * s)) else .bad 54
      | none => .bad 55
    | some (.array len e), some (.ptr id off), none => match σ.cell i, szOf P e with
      | some (.int _ a), some 1 => .ok { val := .vl (.one (.ptrS id off a len)), defs := inRange a len, nz := [.var nn, .var (nn + 1)] }
      | _, _ => .bad 56
    | some (.slice e), some (.slice id off len _), none => match σ.cell i, szOf P e with
      | some (.int _ a), some 1 => .ok { val := .vl (.one (.ptrS id off a len)), defs := inRange a len, nz := [.var nn, .var (nn + 1)] }
      | _, _ => .bad 56
    | some (.slice e), some (.sl id), _ => match σ.row id, σ.cell i, szOf P e with
      | some r, some (.int _ a), some s => if s == r.k.sz then .ok { val := .vl (.one (.lp id a r.k)), defs := inRow nn r.x0 a, nz := [.var (nn + 1), .var (nn + 2)] } else .bad 114
      | _, _, _ => .bad 115
    | some (.slice e), some (.slv id lo hi k), _ => match σ.row id, σ.cell i, szOf P e with
      | some _, some (.int _ a), some s => if s == k.sz && isZ lo then .ok { val := .vl (.one (.lp id a k)), defs := inView a hi, nz := [.var nn, .var (nn + 1)] } else .bad 120
      | _, _, _ => .bad 121
    | _, _, _ => .bad 56
  | .index t x i => match P.underlying t, σ.v x, idx σ i with
    | some (.array len e), some (.agg cs), some n => match P.underlying e, szOf P e with
      | some d, some s => if n < len then partC d s cs (n * s) else .bad 57
      | _, _ => .bad 58
    | some (.array len e), some (.agg cs), none => match σ.cell i, P.underlying e, szOf P e, intsOf cs with
      | some (.int _ a), some d, some 1, some r => if isAggB d || r.2.length != len then .bad 58 else
        .ok { val := .vl (.one (.int r.1 (.var (nn + 2)))), defs := inRange a len ++ [(.int r.1, .sel a r.2)], nz := [.var nn, .var (nn + 1)] }
      | _, _, _, _ => .bad 58
    | some .string, some (.one (.str s)), some n => if hb : n < s.size then okP (.int .u8 (.lit (s[n].toNat : Int))) else .bad 58
    | some .string, some (.one (.str s)), none => match σ.cell i with
      | some (.int _ a) => .ok { val := .vl (.one (.int .u8 (.var (nn + 2)))), defs := inRange a s.size ++ [(.int .u8, .sel a (bytesA s))], nz := [.var nn, .var (nn + 1)] }
      | _ => .bad 58
    | _, _, _ => .bad 59
  | .field t x f => match P.underlying t, σ.v x with
    | some (.struct fs), some (.agg cs) => match fs[f]? with
      | some fd => match P.underlying fd.type, szOf P fd.type with
        | some d, some s => partC d s cs fd.offset
        | _, _ => .bad 60
      | none => .bad 61
    | _, _ => .bad 62
  | .extract x i => match σ.val x with
    | some (.tup l) => match l[i]? with
      | some v => .ok { val := .vl v }
      | none => .bad 63
    | _ => .bad 64
  | .makeFunc fn first caps => match fn with
   | .func f => if first.size != 0 then .bad 89 else match mapO (capOf σ) caps.toList with
    | some l => okP (.fn f l)
    | none => .bad 65
   | _ => .bad 89
  | .build t ps => match P.info? t, P.underlying t, mapO (partOf σ) ps.toList with
    | some i, some (.struct fs), some l => match i.zero, fs.toList.mapM (fun f => (P.info? f.type).map fun i => (f.offset, i.size)) with
      | some z, some places => match vOf z with
        | some zv => match fillC (places[·]?) zv.cells l with
          | some cs => if l.all (fun p => p.2.all C.solid) then .ok { val := .vl (.agg cs) } else .bad 66
          | none => .bad 67
        | none => .bad 68
      | _, _ => .bad 69
    | some i, some (.array _ e), some l => match i.zero, szOf P e with
      | some z, some s => match vOf z with
        | some zv => match fillC (fun j => some (j * s, s)) zv.cells l with
          | some cs => if l.all (fun p => p.2.all C.solid) then .ok { val := .vl (.agg cs) } else .bad 70
          | none => .bad 71
        | none => .bad 72
      | _, _ => .bad 73
    | _, _, _ => .bad 74
  | .buildSlice t len ps => match emptyP P nid t len ps with
   | some p => .ok p
   | none => match P.underlying t, mapO (partOf σ) ps.toList with
    | some (.slice e), some l => match P.info? e with
      | some i => match i.zero with
        | some z => match vOf z with
          | some zv => if zv.cells.length == i.size && decide (0 < i.size) && decide (len * i.size ≤ 10000) then
              match fillC (fun j => some (j * i.size, i.size)) ((List.replicate len zv.cells).flatten) l with
              | some cs => if l.all (fun p => p.2.all C.solid) then .ok { val := .vl (.one (.slice nid 0 len len)), eff := .new { cells := cs, elem := e, own := true } } else .bad 75
              | none => .bad 76
            else .bad 77
          | none => .bad 78
        | none => .bad 79
      | none => .bad 80
    | _, _ => .bad 81
  | .sliceToArrayPointer t x => match P.underlying t, σ.cell x with
    | some (.array n _), some (.slice id off len _) => if n ≤ len then okP (.ptr id off) else .bad 82
    | _, _ => .bad 83
  | .slice t x lo hi mx => if mx.isSome then .bad 98 else match P.underlying t, σ.cell x with
    | some (.array n e), some (.ptr id off) =>
      match bndOf σ lo, bndOf σ hi, szOf P e with
      | some l, some h, some s => let h' := h.getD n; let l' := l.getD 0
        if h' ≤ n && l' ≤ h' then okP (.slice id (if n = l' then off else off + l' * s) (h' - l') (n - l')) else .bad 84
      | _, _, _ => .bad 85
    | some (.slice e), some (.slice id off len cap) =>
      match bndOf σ lo, bndOf σ hi, szOf P e with
      | some l, some h, some s => let h' := h.getD len; let l' := l.getD 0
        if h' ≤ cap && l' ≤ h' then okP (.slice id (if cap = l' then off else off + l' * s) (h' - l') (cap - l')) else .bad 86
      | _, _, _ => .bad 87
    | some (.slice e), some (.sl id) => match σ.row id, bndA σ lo, bndA σ hi, szOf P e with
      | some r, some l, some h, some s => if s == r.k.sz then partP nn id r (l.getD (.lit 0)) (h.getD (.var nn)) else .bad 122
      | _, _, _, _ => .bad 123
    | some (.slice e), some (.slv id lo' hi' k) => match σ.row id, bndA σ lo, bndA σ hi, szOf P e with
      | some r, some l, some h, some s => if s == r.k.sz && r.k.eq k && isZ lo' then partP nn id r (l.getD (.lit 0)) (h.getD hi') else .bad 124
      | _, _, _, _ => .bad 125
    | _, _ => .bad 88
  | .call c => match mapO σ.v c.args.toList with
    | none => .bad 90
    | some args => match c.callee with
      | .builtin .len => match c.argTypes[0]? with
        | none => .bad 91
        | some t => match P.underlying t, args with
          | some (.slice _), [.one (.slice _ _ n _)] => if n ≤ 9223372036854775807 then okP (.int .i64 (.lit n)) else .bad 91
          | some (.slice _), [.one .nilslice] => okP (.int .i64 (.lit 0))
          | some (.slice _), [.one (.sl id)] => match σ.row id with
            | some r => .ok { val := .vl (.one (.int .i64 (.var nn))), defs := [(.int .i64, .llen r.x0)] }
            | none => .bad 116
          | some (.slice _), [.one (.slv id lo hi _)] => match σ.row id with
            | some _ => if isZ lo then okP (.int .i64 hi) else .bad 126
            | none => .bad 126
          | some (.array n _), [_] => if n ≤ 9223372036854775807 then okP (.int .i64 (.lit n)) else .bad 91
          | some .string, [.one (.str s)] => if s.size ≤ 9223372036854775807 then okP (.int .i64 (.lit s.size)) else .bad 91
          | _, _ => .bad 92
      | .builtin .cap => match c.argTypes[0]? with
        | none => .bad 91
        | some t => match P.underlying t, args with
          | some (.slice _), [.one (.sl id)] => match σ.row id with
            | some r => if r.full then .ok { val := .vl (.one (.int .i64 (.var nn))), defs := [(.int .i64, .llen r.x0)] } else .bad 127
            | none => .bad 128
          | some (.slice _), [.one (.slv id lo _ _)] => match σ.row id with
            | some r => if r.full && isZ lo then .ok { val := .vl (.one (.int .i64 (.var nn))), defs := [(.int .i64, .llen r.x0)] } else .bad 127
            | none => .bad 128
          | _, _ => .bad 129
      | .builtin .max => match args with
        | [.one (.int k a), .one (.int k' b)] => if k == k' then .ok { val := .vl (.one (.int k (.var (nn + 1)))), defs := [(.bit, .cmp .lss a b), (.int k, .put (.var nn) 1 b a)] } else .bad 130
        | _ => .bad 130
      | .builtin .min => match args with
        | [.one (.int k a), .one (.int k' b)] => if k == k' then .ok { val := .vl (.one (.int k (.var (nn + 1)))), defs := [(.bit, .cmp .lss b a), (.int k, .put (.var nn) 1 b a)] } else .bad 130
        | _ => .bad 130
      | .builtin .append => match catP P σ nn (.call c) with
        | some g => .ok (catPl nn nid g)
        | none => .bad 93
      | .builtin _ => .bad 93
      | .invoke _ _ => .bad 94
      | .value x => match σ.cell x with
        | some (.fn f caps) => 
          let all := args ++ caps.map fun p => V.one (.ptr p.1 p.2)
          match findK T f 0 with
          | some (g, κ) => match takeIns σ nn κ.ins all with
            | none => .bad 95
            | some d => match putK κ g d.2 (nn + d.1.length) nid with
              | none => .bad 96
              | some q => .ok { val := retS q.2.1, defs := d.1, post := q.1, eff := (match q.2.2 with | some b => .new b | none => .none), reqs := [(g, d.2)] }
          | none => .call f all
        | _ => .bad 97
  | _ => .bad 99

/-! ### the tree -/
inductive Tree where
  | ret (as : List A)
  | split (n : Nat) (t f : Tree)
  | lett (n : Nat) (kk : KK) (d : D) (t : Tree)
  | req (g : Nat) (as : List A) (t : Tree)
  | nz (a : A) (t : Tree)
  | loop (inits : List A) (kks : List KK) (n0 : Nat) (body : Tree)
  | back (lvl : Nat) (as : List A)
  | bad (why : Nat) (pos : String)
  deriving Inhabited
def upd (e : Nat → Int) (n : Nat) (v : Int) : Nat → Int := fun i => if i = n then v else e i
def updL (e : Nat → Int) (n : Nat) : List Int → Nat → Int
  | [] => e
  | v :: vs => updL (upd e n v) (n + 1) vs
/-- the goal at the end; and what the loops round about ask at their rounds' ends -/
structure Gl where
  goal : List Int → Prop
  stk : List (List Int → Prop)
def kkHas : List KK → List Int → Prop
  | [], [] => True
  | k :: ks, v :: vs => k.has v ∧ kkHas ks vs
  | _, _ => False
def Tree.holds (T : List K) : Tree → Gl → (Nat → Int) → Prop
  | .ret as, goal, e => goal.goal (as.map (·.ev e))
  | .split n t f, goal, e => (e n ≠ 0 → t.holds T goal e) ∧ (e n = 0 → f.holds T goal e)
  | .lett n kk d t, goal, e => ∀ v, v = d.ev T e → kk.has v → t.holds T goal (upd e n v)
  | .req g as t, goal, e => (match T[g]? with | some κ => κ.pre (as.map (·.ev e)) | none => False) ∧ t.holds T goal e
  | .nz a t, goal, e => a.ev e ≠ 0 ∧ t.holds T goal e
  | .loop inits kks n0 t, goal, e => ∃ (I : List Int → Prop) (μ : List Int → Nat), I (inits.map (·.ev e)) ∧
      ∀ vs, kkHas kks vs → I vs → t.holds T { goal with stk := goal.stk ++ [fun us => I us ∧ μ us < μ vs] } (updL e n0 vs)
  | .back lvl as, goal, e => match goal.stk[lvl]? with | some R => R (as.map (·.ev e)) | none => False
  | .bad _ _, _, _ => False
def letts (nn : Nat) : Defs → Tree → Tree
  | [], t => t
  | (kk, d) :: ds, t => .lett nn kk d (letts (nn + 1) ds t)
def nzs : List A → Tree → Tree
  | [], t => t
  | a :: as, t => .nz a (nzs as t)
def reqs : List (Nat × List A) → Tree → Tree
  | [], t => t
  | (g, as) :: r, t => .req g as (reqs r t)
end
end Go.Sx

/- The engine Sx, part D: the runner. -/
namespace Go.Sx
open Go
noncomputable section

inductive Ex where | normal | exit (id : Nat) | ret
inductive Job where
  | code (c : Code)
  | rounds (c : Code)
  | ops (all : Array Oper) (l : List Oper)
def St.put (σ : St) (dst : Option Nat) (s : SV) : St :=
  match dst with
  | some d => { σ with tmps := lset σ.tmps d s }
  | none => σ
theorem St.put_def (σ : St) (dst : Option Nat) (s : SV) : σ.put dst s = match dst with
  | some d => { σ with tmps := σ.tmps.set d s }
  | none => σ := by
  unfold St.put; split <;> simp only [lset_eq]
def St.know (σ : St) (n : Nat) (b : Bool) : St := { σ with kn := (n, b) :: σ.kn }
def undefS : SV := .tup []
/-- does the guard let the operation by? -/
inductive Gd where | yes | no | need (n : Nat) | bad
def guardG (all : Array Oper) (σ : St) (o : Oper) : Gd :=
  match o.guard with
  | none => .yes
  | some (j, want) => match (all[j]?).bind (·.dst) with
    | none => .no
    | some t => match lget? σ.tmps t with
      | none => .no
      | some (.vl (.one (.bool a))) => match truth σ a with
        | .yes => if want then .yes else .no
        | .no => if want then .no else .yes
        | .need n => .need n
        | .bad => .bad
      | some (.tup _) => .no
      | _ => .bad
theorem guardG_def (all : Array Oper) (σ : St) (o : Oper) : guardG all σ o =
  match o.guard with
  | none => .yes
  | some (j, want) => match (all[j]?).bind (·.dst) with
    | none => .no
    | some t => match σ.tmps[t]? with
      | none => .no
      | some (.vl (.one (.bool a))) => match truth σ a with
        | .yes => if want then .yes else .no
        | .no => if want then .no else .yes
        | .need n => .need n
        | .bad => .bad
      | some (.tup _) => .no
      | _ => .bad := by
  unfold guardG; simp only [lget?_eq]
def noRow (bs : List (Option Box)) (id : Nat) : List (Option Box) :=
  match lget? bs id with
  | some (some b) => lset bs id (some { b with row := none })
  | _ => bs
theorem noRow_def (bs : List (Option Box)) (id : Nat) : noRow bs id = match bs[id]? with
  | some (some b) => bs.set id (some { b with row := none })
  | _ => bs := by
  unfold noRow; simp only [lget?_eq, lset_eq]
def noRows (bs : List (Option Box)) : List Nat → List (Option Box)
  | [] => bs
  | id :: r => noRows (noRow bs id) r
/-- the state behind an operation: the new box stands at 'nid', whose place is there already -/
def applyP (σ : St) (p : Plan) (nid : Nat) (dst : Option Nat) : St :=
  (match p.eff with
   | .new b => { σ with boxes := lset σ.boxes nid (some b) }
   | .wr id u => match lget? σ.boxes id with
     | some (some b) => { σ with boxes := lset σ.boxes id (some (b.upd u)) }
     | _ => σ
   | .grow old b => { σ with boxes := lset (noRows σ.boxes old.toList) nid (some b) }
   | _ => σ).put dst p.val
theorem applyP_def (σ : St) (p : Plan) (nid : Nat) (dst : Option Nat) : applyP σ p nid dst =
  (match p.eff with
   | .new b => { σ with boxes := σ.boxes.set nid (some b) }
   | .wr id u => match σ.boxes[id]? with
     | some (some b) => { σ with boxes := σ.boxes.set id (some (b.upd u)) }
     | _ => σ
   | .grow old b => { σ with boxes := (noRows σ.boxes old.toList).set nid (some b) }
   | _ => σ).put dst p.val := by
  unfold applyP; simp only [lget?_eq, lset_eq]
/-- a place for a box that the operation may make -/
def mayNew : Op → Bool | .alloc _ | .box .. | .buildSlice .. | .call _ | .makeSlice .. => true | _ => false
def room (σ : St) (op : Op) : St := if mayNew op then { σ with boxes := σ.boxes ++ [none] } else σ
def isNew : Eff → Bool | .new .. => true | .grow .. => true | _ => false
def planT (nn : Nat) (p : Plan) (t : Tree) : Tree :=
  letts nn p.defs (reqs p.reqs (nzs p.nz (letts (nn + p.defs.length) p.post t)))
def resOne (P : Program) (σ : St) : ResultVar → Option V
  | .tmp t => match σ.get t with | .vl v => some v | _ => none
  | .cell t ty => match σ.get t with
    | .vl (.one (.ptr id off)) => match σ.box id, P.underlying ty, szOf P ty with
      | some b, some d, some n => if isAggB d then
          if (b.cells.drop off).length < n then none else some (.agg ((b.cells.drop off).take n))
        else match b.cells[off]? with
          | some c => some (.one c)
          | none => none
      | _, _, _ => none
    | _ => none
def resS (P : Program) (σ : St) (fn : Func) : Option (List V) := mapO (resOne P σ) fn.results.toList

/-! ### regions that draw their order: the lexical walk, names and boxes by place -/
def stride : Nat := 48
def quietOp : Op → Bool
  | .alloc _ | .box .. | .buildSlice .. | .call _ | .store .. => false
  | _ => true
def lexK (P : Program) (T : List K) (all : Array Oper) (nv0 len0 : Nat) : Nat → List Oper → Nat → St → (St → Tree) → Tree
  | 0, _, _, _, _ => .bad 204 ""
  | fuel + 1, l, i, σ, k => match l with
    | [] => k σ
    | o :: rest => match guardG all σ o with
      | .bad => .bad 200 o.pos
      | .need v => if decide (v < nv0 + i * stride) && (lookB σ.kn v).isNone then .split v (lexK P T all nv0 len0 fuel (o :: rest) i (σ.know v true) k) (lexK P T all nv0 len0 fuel (o :: rest) i (σ.know v false) k) else .bad 202 o.pos
      | .no => lexK P T all nv0 len0 fuel rest (i + 1) (σ.put o.dst undefS) k
      | .yes => match plan P T σ (nv0 + i * stride) (len0 + i) o.op with
        | .ok p => if p.defs.length + p.post.length ≤ stride then planT (nv0 + i * stride) p (lexK P T all nv0 len0 fuel rest (i + 1) (applyP σ p (len0 + i) o.dst) k) else .bad 201 o.pos
        | .need v => if decide (v < nv0 + i * stride) && (lookB σ.kn v).isNone then .split v (lexK P T all nv0 len0 fuel (o :: rest) i (σ.know v true) k) (lexK P T all nv0 len0 fuel (o :: rest) i (σ.know v false) k) else .bad 202 o.pos
        | .call f _ => .bad (1000 + f) o.pos
        | .bad why => .bad why o.pos
/-- what an operation does to the boxes: 0 nothing, 1 reads, 2 makes, 3 writes, 4 takes a row away -/
def touch : Op → Nat
  | .load .. => 1
  | .call c => match c.callee with
    | .builtin .append => 4
    | _ => 1
  | .store .. => 3
  | .convert .. => 1
  | _ => 0
/-- is it no matter which of the two comes first? -/
def calm (x y : Oper) : Bool := !((touch x.op == 3 && touch y.op != 0) || (touch y.op == 3 && touch x.op != 0) || touch x.op == 4 || touch y.op == 4)
def ordered (x : Nat) (y : Oper) : Bool := y.after.any fun e => Region.binds .any e && e.on == x
def calmAll (ops : List Oper) : Bool :=
  let l := ops.zipIdx
  l.all fun p => l.all fun q => p.2 == q.2 || ordered p.2 q.1 || ordered q.2 p.1 || calm p.1 q.1
/-- a region whose last operation, a call that is walked into, comes behind all others in every order: it stands aside for a harmless one -/
def tailOp (o : Oper) : Oper := { o with op := .move (.const (.bool false)) }
def backOnly (ops : Array Oper) : Bool := ops.toList.zipIdx.all fun p => p.1.after.all fun e => !Region.binds .any e || decide (e.on < p.2)
/-- what is not planned as one step: a call that is walked into, append, make, copy -/
def bigOp (T : List K) (o : Oper) : Bool :=
  match o.op with
  | .makeSlice _ _ _ => true
  | .call c => match c.callee with
    | .builtin .append => true
    | .builtin .copy => true
    | .value (.func f) => (findK T f 0).isNone
    | _ => false
  | _ => false
def firstBig (T : List K) : List Oper → Nat → Option Nat
  | [], _ => none
  | o :: r, i => if bigOp T o then some i else firstBig T r (i + 1)
/-- the operations from a place on, stood aside -/
def tailsL : List Oper → Nat → List Oper
  | [], _ => []
  | o :: r, 0 => tailOp o :: tailsL r 0
  | o :: r, s + 1 => o :: tailsL r s
def tails (ops : Array Oper) (s : Nat) : Array Oper := (tailsL ops.toList s).toArray
/-- the i-th comes behind all that stand ahead of it, in every order -/
def behindAll (ops : Array Oper) (i : Nat) : Bool := (List.range i).all fun j => (List.range (i + 1)).any fun x => decide (j < x) && (ops[x]?).any (ordered j)
def tailOk (ops : Array Oper) (s : Nat) : Bool := (List.range ops.size).all (fun i => decide (i < s) || (behindAll ops i && (ops[i]?).all (fun o => o.guard.isNone))) && backOnly ops
/-- a region whose last operations, from a great one on, come behind all others in every order: they stand aside for harmless ones -/
def tailOf (T : List K) (ops : Array Oper) : Option (List Oper × Array Oper) :=
  match firstBig T ops.toList 0 with
  | some s => if tailOk ops s then some (ops.toList.drop s, tails ops s) else none
  | none => none
def C.ids : C → List Nat
  | .ptr id _ => [id]
  | .slice id _ _ _ => [id]
  | .ptrS id _ _ _ => [id]
  | .fn _ caps => caps.map (·.1)
  | .sl id => [id]
  | .lp id _ _ => [id]
  | .slv id _ _ _ => [id]
  | _ => []
def V.ids (v : V) : List Nat := v.cells.flatMap C.ids
def SV.ids : SV → List Nat
  | .vl v => v.ids
  | .tup l => l.flatMap V.ids
def idsOf (σ : St) (z : Operand) : List Nat := match σ.val z with | some s => s.ids | none => []
/-- what the one touches, the other does not -/
def sepB (σ : St) (x y : Oper) : Bool := x.op.operands.all fun zx => (idsOf σ zx).all fun id => y.op.operands.all fun zy => !(idsOf σ zy).contains id
/-- does the one come first, over at most so many others? -/
def before (ops : List Oper) : Nat → Nat → Oper → Bool
  | 0, x, y => ordered x y
  | n + 1, x, y => ordered x y || y.after.any fun e => Region.binds .any e && match ops[e.on]? with | some o => before ops n x o | none => false
def pairsOk (σ : St) (ops : List Oper) : Bool :=
  let l := ops.zipIdx
  l.all fun p => l.all fun q => p.2 == q.2 || ordered p.2 q.1 || ordered q.2 p.1 || calm p.1 q.1 || sepB σ p.1 q.1 || before ops 3 p.2 q.1 || before ops 3 q.2 p.1
def isTmp (t : Nat) : Operand → Bool | .tmp u => u == t | _ => false
/-- who reads a slot that another one of the region writes comes behind it -/
def tidy (ops : List Oper) : Bool :=
  let l := ops.zipIdx
  l.all fun p => match p.1.dst with | none => true | some t => l.all fun q => !(q.1.op.operands.any (isTmp t)) || ordered p.2 q.1
def allOk (σ : St) (ops : Array Oper) : Bool := calmAll ops.toList || (tidy ops.toList && pairsOk σ ops.toList)
def drawOk (ops : Array Oper) : Bool := Region.lexB .any ops

/-! ### loops with an invariant: places whose numbers are taken for new ones at every round's head -/
inductive Hp where
  | slot (t : Nat)
  | box (t : Nat)
/-- a slot whose list a loop makes longer -/
structure LH where
  slot : Nat
  k : LK
  elem : TypeId
  full : Bool := false
structure Ann where
  pos : String
  hav : List (Hp × List L)
  lsts : List LH := []
def Code.firstPos : Code → String
  | .region _ ops _ => match ops[0]? with | some o => o.pos | none => ""
  | .seq a b => let s := Code.firstPos a; if s == "" then Code.firstPos b else s
  | .block _ b => Code.firstPos b
  | .cond _ a _ => Code.firstPos a
  | .loop a => Code.firstPos a
  | _ => ""
def Code.dsts : Code → List Nat
  | .region _ ops _ => ops.toList.filterMap (·.dst)
  | .seq a b => Code.dsts a ++ Code.dsts b
  | .block _ b => Code.dsts b
  | .cond _ a b => Code.dsts a ++ Code.dsts b
  | .loop a => Code.dsts a
  | _ => []
def findAnn (LA : List Ann) (s : String) : Option Ann :=
  match LA with
  | [] => none
  | a :: r => if a.pos == s then some a else findAnn r s
def getH (σ : St) : Hp → Option (List C)
  | .slot t => match σ.tmps[t]? with | some (.vl v) => some v.cells | _ => none
  | .box t => match σ.get t with
    | .vl (.one (.ptr id 0)) => match σ.box id with
      | some b => if b.own then some b.cells else none
      | none => none
    | _ => none
def setH (σ : St) (cs : List C) : Hp → St
  | .slot t => match σ.tmps[t]? with
    | some (.vl (.one _)) => { σ with tmps := σ.tmps.set t (.vl (.one (cs.headD .top))) }
    | some (.vl (.agg _)) => { σ with tmps := σ.tmps.set t (.vl (.agg cs)) }
    | _ => σ
  | .box t => match σ.get t with
    | .vl (.one (.ptr id 0)) => match σ.box id with
      | some b => { σ with boxes := σ.boxes.set id (some { b with cells := cs }) }
      | none => σ
    | _ => σ
/-- the numbers that stand in the places -/
def takeH (σ : St) (nn : Nat) : List (Hp × List L) → Option (Defs × List A)
  | [] => some ([], [])
  | (h, ls) :: r => match getH σ h with
    | none => none
    | some cs => match takeLs nn ls cs with
      | none => none
      | some d => match takeH σ (nn + d.1.length) r with
        | none => none
        | some q => some (d.1 ++ q.1, d.2 ++ q.2)
def inLs (nn : Nat) : List L → List C
  | [] => []
  | .cst c :: ls => c :: inLs nn ls
  | .int k :: ls => .int k (.var nn) :: inLs (nn + 1) ls
  | .bool :: ls => .bool (.var nn) :: inLs (nn + 1) ls
  | .lst _ :: ls => inLs (nn + 1) ls
  | .num :: ls => [C.int .u64 (.limb nn 0), .int .u64 (.limb nn 1), .int .u64 (.limb nn 2), .int .u64 (.limb nn 3), .int .u64 (.limb nn 4), .int .u64 (.limb nn 5)] ++ inLs (nn + 1) ls
def putH (σ : St) (nn : Nat) : List (Hp × List L) → St
  | [] => σ
  | (h, ls) :: r => putH (setH σ (inLs nn ls) h) (nn + lcount ls) r
def kksOf : List L → List KK
  | [] => []
  | .cst _ :: ls => kksOf ls
  | l :: ls => kkOf l :: kksOf ls
def hcount : List (Hp × List L) → Nat
  | [] => 0
  | (_, ls) :: r => lcount ls + hcount r
def hkks : List (Hp × List L) → List KK
  | [] => []
  | (_, ls) :: r => kksOf ls ++ hkks r
def noCst : L → Bool | .cst _ => false | .lst _ => false | _ => true
def topS : SV := .vl (.one .top)
def isSlot (t : Nat) : Hp → Bool | .slot u => t == u | _ => false
def dropT (σ : St) : List Nat → St
  | [] => σ
  | t :: r => dropT { σ with tmps := σ.tmps.set t topS } r
def aEq : A → A → Bool
  | .lit a, .lit b => a == b
  | .var a, .var b => a == b
  | .limb a i, .limb b j => a == b && i == j
  | _, _ => false
def cEqb : C → C → Bool
  | .int k a, .int k' b => k == k' && aEq a b
  | .bool a, .bool b => aEq a b
  | .ptr i o, .ptr j q => i == j && o == q
  | .nil, .nil => true
  | .slice i o l c, .slice j q m d => i == j && o == q && l == m && c == d
  | .nilslice, .nilslice => true
  | .fn f cs, .fn g ds => f == g && cs == ds
  | .nilfn, .nilfn => true
  | .nilmap, .nilmap => true
  | .niliface, .niliface => true
  | .ext n, .ext m => n == m
  | .sl i, .sl j => i == j
  | .lp i a k, .lp j b k' => i == j && aEq a b && k.eq k'
  | .ptrS i o a n, .ptrS j q b m => i == j && o == q && aEq a b && n == m
  | .slv i a b k, .slv j c d k' => i == j && aEq a c && aEq b d && k.eq k'
  | .sv a, .sv b => aEq a b
  | _, _ => false
def csEqb : List C → List C → Bool
  | [], [] => true
  | a :: as, b :: bs => cEqb a b && csEqb as bs
  | _, _ => false
def vEqb : V → V → Bool
  | .one a, .one b => cEqb a b
  | .agg a, .agg b => csEqb a b
  | _, _ => false
def vsEqb : List V → List V → Bool
  | [], [] => true
  | a :: as, b :: bs => vEqb a b && vsEqb as bs
  | _, _ => false
def sEqb : SV → SV → Bool
  | .vl a, .vl b => vEqb a b
  | .tup a, .tup b => vsEqb a b
  | _, _ => false
/-- is what the first state says of the temporaries said by the second one? -/
def tmpsLe : List SV → List SV → Bool
  | [], [] => true
  | a :: as, b :: bs => ((match a with | .vl (.one .top) => true | _ => false) || sEqb a b) && tmpsLe as bs
  | _, _ => false
def rowEqb (a b : Row) : Bool := eqA a.x b.x && eqA a.x0 b.x0 && a.k.eq b.k && a.elem == b.elem && a.own == b.own && a.full == b.full
def rowLe : Option Row → Option Row → Bool
  | none, none => true
  | some a, some b => rowEqb a b
  | _, _ => false
def boxLe : Option Box → Option Box → Bool
  | none, _ => true
  | some a, some b => a.own == b.own && a.elem == b.elem && csEqb a.cells b.cells && rowLe a.row b.row
  | some _, none => false
def boxesLe : List (Option Box) → List (Option Box) → Bool
  | [], _ => true
  | a :: as, b :: bs => boxLe a b && boxesLe as bs
  | a :: as, [] => (match a with | none => true | some _ => false) && boxesLe as []
/-- at a round's end: the numbers in the places; all else as at the head -/
def backH (σh σ : St) (n0 : Nat) (hav : List (Hp × List L)) : Option (Defs × List A) :=
  match takeH σ σ.nv hav with
  | none => none
  | some d =>
    let σ' := putH σ n0 hav
    if tmpsLe σh.tmps σ'.tmps && boxesLe σh.boxes σ'.boxes && hav.all (fun p => match p.1 with | .box t => sEqb (σh.get t) (σ.get t) | _ => true) then some d else none
def havOk (hav : List (Hp × List L)) : Bool := hav.all fun p => p.2.all noCst && match p.1 with | .box t => !hav.any fun q => isSlot t q.1 | _ => true

/-! ### append, outside the regions that draw their order -/
/-- one element behind a list: the old row, the list, the element -/
def growP (P : Program) (σ : St) (nn : Nat) (op : Op) : Option Grow :=
  match op with
  | .call c => match c.callee, c.argTypes.toList, c.args.toList with
    | .builtin .append, [t, t'], [s, x] => if t == t' then match P.underlying t with
      | some (.slice e) => match P.info? e, elemK P e with
        | some i, some k => match i.zero with
          | some z => if z.cells.size == i.size && i.size == k.sz && decide (i.bytes ≤ 16384) then
              match σ.cell x with
              | some (.slice id off 1 _) => match σ.box id with
                | some b => if k.sz ≤ (b.cells.drop off).length then match takeK nn k ((b.cells.drop off).take k.sz) with
                  | some (ds, a) => match σ.cell s with
                    | some .nilslice => some ⟨none, .lit 0, k, e, ds, a⟩
                    | some (.sl id') => match σ.row id' with
                      | some r => if r.own && r.elem == e && r.k.eq k then some ⟨some id', r.x, k, e, ds, a⟩ else none
                      | none => none
                    | _ => none
                  | _ => none
                  else none
                | none => none
              | _ => none
            else none
          | none => none
        | _, _ => none
      | _ => none
      else none
    | _, _, _ => none
  | _ => none
def growS (σ : St) (nid : Nat) (g : Grow) (dst : Option Nat) : St :=
  { σ with
    nv := σ.nv + (g.defs.length + 3)
    boxes := lset (noRows σ.boxes g.old.toList) nid (some (rowBox { x := .var (σ.nv + (g.defs.length + 2)), x0 := .var (σ.nv + (g.defs.length + 2)), k := g.k, elem := g.elem, own := true, full := false })) }.put dst (.vl (.one (.sl nid)))

/-! ### make and copy, outside the regions that draw their order -/
structure Made where
  k : LK
  elem : TypeId
  a : A
def zeroK (k : LK) (z : Value) : Bool :=
  match k with
  | .tup _ _ => false
  | k => match vOf z with
    | some v => match takeLs 0 [k.leaf] v.cells with
      | some ([], [.lit n]) => n == 0
      | _ => false
    | none => false
/-- a new list of zeros -/
def makeP (P : Program) (σ : St) (op : Op) : Option Made :=
  match op with
  | .makeSlice t l c => match P.underlying t with
    | some (.slice e) => match P.info? e, elemK P e with
      | some i, some k => match i.zero with
        | some z => if z.cells.size == i.size && i.size == k.sz && decide (i.bytes ≤ 16384) && zeroK k z then
            match σ.cell l, σ.cell c with
            | some (.int _ a), some (.int _ b) => if eqA a b then some ⟨k, e, a⟩ else none
            | _, _ => none
          else none
        | none => none
      | _, _ => none
    | _ => none
  | _ => none
def makeS (σ : St) (nid : Nat) (g : Made) (dst : Option Nat) : St :=
  { σ with
    nv := σ.nv + 3
    boxes := lset σ.boxes nid (some (rowBox { x := .var (σ.nv + 2), x0 := .var (σ.nv + 2), k := g.k, elem := g.elem, own := true, full := true })) }.put dst (.vl (.one (.sl nid)))
structure Copy where
  id : Nat
  r : Row
  b : Box
  defs : Defs
  y : A
/-- one list over another one's beginning -/
def copyP (P : Program) (σ : St) (nn : Nat) (op : Op) : Option Copy :=
  match op with
  | .call c => match c.callee, c.argTypes.toList, c.args.toList with
    | .builtin .copy, [t, _], [d, s] => match P.underlying t, σ.cell d with
      | some (.slice e), some (.sl id) => match σ.box id, szOf P e with
        | some b, some z => match b.row with
          | some r => if r.own && z == r.k.sz then match srcK σ nn r.k s with
              | some (ds, y) => some ⟨id, r, b, ds, y⟩
              | none => none
            else none
          | none => none
        | _, _ => none
      | _, _ => none
    | _, _, _ => none
  | _ => none
def copyS (σ : St) (g : Copy) (dst : Option Nat) : St :=
  { σ with
    nv := σ.nv + (g.defs.length + 3)
    boxes := lset σ.boxes g.id (some (g.b.upd (.row (.var (σ.nv + (g.defs.length + 2)))))) }.put dst (.vl (.one .top))

/-! ### lists that a loop makes longer -/
/-- the list in a slot, and its row -/
def takeL (σ : St) (h : LH) : Option (A × Option Nat) :=
  match σ.tmps[h.slot]? with
  | some (.vl (.one .nilslice)) => some (.lit 0, none)
  | some (.vl (.one (.sl id))) => match σ.row id with
    | some r => if r.own && r.elem == h.elem && r.k.eq h.k && (!h.full || r.full) then some (r.x, some id) else none
    | none => none
  | _ => none
def unlike : List Nat → Bool
  | [] => true
  | a :: r => !r.contains a && unlike r
def lIds (q : List (A × Option Nat)) : List Nat := q.filterMap (·.2)
/-- new rows from a place on, of names from nn on -/
def addL (σ : St) (id nn : Nat) : List LH → St
  | [] => σ
  | h :: r => addL { σ with
      boxes := σ.boxes.set id (some (rowBox { x := .var nn, x0 := .var nn, k := h.k, elem := h.elem, own := true, full := h.full }))
      tmps := σ.tmps.set h.slot (.vl (.one (.sl id))) } (id + 1) (nn + 1) r
/-- at a round's end: the lists; their rows are none of the head's -/
def backL (σh σ : St) (l : List LH) : Option (List A) :=
  match mapO (takeL σ) l with
  | none => none
  | some q => if unlike (lIds q) && (lIds q).all (fun id => (σh.row id).isNone) then some (q.map (·.1)) else none

/-- what the loop's turns leave, the lists that grow taken out -/
def loopD (σ : St) (c : Code) (ann : Ann) (q : List (A × Option Nat)) : St :=
  let σd := dropT σ (((Code.dsts c).filter fun t => !ann.hav.any fun p => isSlot t p.1) ++ ann.lsts.map (·.slot))
  { σd with boxes := noRows σd.boxes (lIds q) ++ List.replicate ann.lsts.length none }
/-- a round's head, but for the lists that grow -/
def loopH (σ σd : St) (ann : Ann) (n0 : Nat) : St := { putH σd n0 ann.hav with nv := n0 + (hcount ann.hav + ann.lsts.length), lvl := σ.lvl + 1 }
def run (P : Program) (T : List K) (LA : List Ann) : Nat → Job → St → (Ex → St → Tree) → Tree
  | 0, _, _, _ => .bad 300 ""
  | n + 1, job, σ, k => match job with
    | .code c => match c with
      | .skip => k .normal σ
      | .region _ ops draw =>
        if draw then
          match tailOf T ops with
          | some q =>
            if drawOk q.2 then lexK P T q.2 σ.nv σ.boxes.length n q.2.toList 0 { σ with nv := σ.nv + q.2.size * stride, boxes := σ.boxes ++ List.replicate q.2.size none } fun σ' => if allOk σ' q.2 then run P T LA n (.ops ops q.1) (dropT σ' (q.1.filterMap (·.dst))) k else .bad 313 ""
            else .bad 301 ""
          | none =>
            if drawOk ops then lexK P T ops σ.nv σ.boxes.length n ops.toList 0 { σ with nv := σ.nv + ops.size * stride, boxes := σ.boxes ++ List.replicate ops.size none } fun σ' => if allOk σ' ops then k .normal σ' else .bad 313 ""
            else .bad 301 ""
        else run P T LA n (.ops ops ops.toList) σ k
      | .seq a b => run P T LA n (.code a) σ fun e σ' => match e with
        | .normal => run P T LA n (.code b) σ' k
        | e => k e σ'
      | .cond c x y => match σ.cell c with
        | some (.bool a) => match truth σ a with
          | .yes => run P T LA n (.code x) σ k
          | .no => run P T LA n (.code y) σ k
          | .need v => if v < σ.nv then .split v (run P T LA n (.code x) (σ.know v true) k) (run P T LA n (.code y) (σ.know v false) k) else .bad 308 ""
          | .bad => .bad 302 ""
        | _ => .bad 302 ""
      | .block id c => run P T LA n (.code c) σ fun e σ' => match e with
        | .exit id' => if id' == id then k .normal σ' else k (.exit id') σ'
        | e => k e σ'
      | .loop c => match findAnn LA (Code.firstPos c) with
        | none => run P T LA n (.rounds c) σ k
        | some ann =>
         match mapO (takeL σ) ann.lsts with
         | none => .bad 314 ann.pos
         | some q =>
          let σd := loopD σ c ann q
          match takeH σd σ.nv ann.hav with
          | none => .bad 310 ann.pos
          | some d =>
            let n0 := σ.nv + d.1.length
            let σh := loopH σ σd ann n0
            if havOk ann.hav && unlike (lIds q) then
              letts σ.nv d.1 (.loop (d.2 ++ q.map (·.1)) (hkks ann.hav ++ ann.lsts.map fun h => .lst h.k) n0 (run P T LA n (.code c) (addL σh σ.boxes.length (n0 + hcount ann.hav) ann.lsts) fun e σ' => match e with
                | .normal => match backL σh σ' ann.lsts with
                  | none => .bad 315 ann.pos
                  | some as => match backH σh σ' n0 ann.hav with
                    | some b => letts σ'.nv b.1 (.back σ.lvl (b.2 ++ as))
                    | none => .bad 311 ann.pos
                | e => k e σ'))
            else .bad 312 ann.pos
      | .exit id => k (.exit id) σ
      | .ret => k .ret σ
      | .label _ => k .normal σ
      | _ => .bad 303 ""
    | .rounds c => run P T LA n (.code c) σ fun e σ' => match e with
        | .normal => run P T LA n (.rounds c) σ' k
        | e => k e σ'
    | .ops all l => match l with
      | [] => k .normal σ
      | o :: rest => match guardG all σ o with
        | .bad => .bad 304 o.pos
        | .need v => if v < σ.nv then .split v (run P T LA n job (σ.know v true) k) (run P T LA n job (σ.know v false) k) else .bad 308 ""
        | .no => run P T LA n (.ops all rest) (σ.put o.dst undefS) k
        | .yes => match growP P (room σ o.op) σ.nv o.op with
         | some g => letts σ.nv (g.defs ++ [(.int .i64, .llen g.x0), (.bit, .cmp .lss (.var (σ.nv + g.defs.length)) (.lit 4294967296))]) (.nz (.var (σ.nv + (g.defs.length + 1)))
             (.lett (σ.nv + (g.defs.length + 2)) (.lst g.k) (.lapp g.x0 [g.a]) (run P T LA n (.ops all rest) (growS (room σ o.op) σ.boxes.length g o.dst) k)))
         | none =>
         match makeP P (room σ o.op) o.op with
         | some g => letts σ.nv [(.bit, .cmp .leq (.lit 0) g.a), (.bit, .cmp .lss g.a (.lit 4294967296))] (.nz (.var σ.nv) (.nz (.var (σ.nv + 1))
             (.lett (σ.nv + 2) (.lst g.k) (.lrep g.a (.lit 0)) (run P T LA n (.ops all rest) (makeS (room σ o.op) σ.boxes.length g o.dst) k))))
         | none =>
         match copyP P (room σ o.op) σ.nv o.op with
         | some g => letts σ.nv (g.defs ++ [(.int .i64, .llen g.r.x0), (.bit, .cmp .lss (.lit 0) (.var (σ.nv + g.defs.length)))]) (.nz (.var (σ.nv + (g.defs.length + 1)))
             (.lett (σ.nv + (g.defs.length + 2)) (.lst g.r.k) (.lcpy g.r.x g.y) (run P T LA n (.ops all rest) (copyS (room σ o.op) g o.dst) k)))
         | none =>
         match plan P T (room σ o.op) σ.nv σ.boxes.length o.op with
          | .ok p => planT σ.nv p (run P T LA n (.ops all rest) (applyP { room σ o.op with nv := σ.nv + p.defs.length + p.post.length } p σ.boxes.length o.dst) k)
          | .need v => if v < σ.nv then .split v (run P T LA n job (σ.know v true) k) (run P T LA n job (σ.know v false) k) else .bad 308 ""
          | .bad why => .bad why o.pos
          | .call f args => match P.funcs[f]? with
            | some fn => match fn.body with
              | some c => if fn.name == "runtime.NumGoroutine" then .bad 305 o.pos else
                run P T LA n (.code c) { σ with tmps := args.map SV.vl ++ List.replicate (fn.ntmps - args.length) undefS } fun e σ' => match e with
                | .exit _ => .bad 306 o.pos
                | _ => match resS P σ' fn with
                  | some vs => run P T LA n (.ops all rest) ({ σ' with tmps := σ.tmps }.put o.dst (retS vs)) k
                  | none => .bad 307 o.pos
              | none => .bad (2000 + f) o.pos
            | none => .bad 309 o.pos
end
end Go.Sx

/- The engine Sx, part E: a function from its shapes. -/
namespace Go.Sx
open Go
noncomputable section

/-- arguments and boxes out of shapes: names from nn on, boxes from id on -/
def inSh (nn id : Nat) : List Sh → List V × List (Option Box)
  | [] => ([], [])
  | .one l :: ss => let r := inSh (nn + lcount [l]) id ss
    (V.one ((inLs nn [l]).headD .top) :: r.1, r.2)
  | .agg ls :: ss => let r := inSh (nn + lcount ls) id ss
    (V.agg (inLs nn ls) :: r.1, r.2)
  | .ptr ls :: ss => let r := inSh (nn + lcount ls) (id + 1) ss
    (V.one (.ptr id 0) :: r.1, some { cells := inLs nn ls, elem := 0, own := false } :: r.2)
  | .lst k :: ss => let r := inSh (nn + 1) (id + 1) ss
    (V.one (.sl id) :: r.1, some (rowBox { x := .var nn, x0 := .var nn, k := k, elem := 0, own := false, full := false }) :: r.2)
  | .lent k :: ss => let r := inSh (nn + 2) (id + 1) ss
    (V.one (.slv id (.lit 0) (.var (nn + 1)) k) :: r.1, some (rowBox { x := .var nn, x0 := .var nn, k := k, elem := 0, own := false, full := true }) :: r.2)
def icount : List Sh → Nat
  | [] => 0
  | s :: ss => lcount s.leaves + icount ss
def initS (fn : Func) (ins : List Sh) : St :=
  let r := inSh 0 0 ins
  { tmps := r.1.map SV.vl ++ List.replicate (fn.ntmps - r.1.length) undefS, boxes := r.2, nv := icount ins, kn := [], gl := [], lvl := 0 }
def takeOh (σ : St) (nn : Nat) : Oh → V → Option (Defs × List A)
  | .one l, .one c => takeLs nn [l] [c]
  | .agg ls, .agg cs => takeLs nn ls cs
  | .box e ls, .one (.ptr id 0) => match σ.box id with
    | some b => if b.own && b.elem == e then takeLs nn ls b.cells else none
    | none => none
  | .lst _ _, .one .nilslice => some ([], [.lit 0])
  | .lst e k, .one (.sl id) => match σ.row id with
    | some r => if r.own && r.elem == e && r.k.eq k then some ([], [r.x]) else none
    | none => none
  | .lst e k, .one (.slv id lo hi k') => match σ.row id with
    | some r => if r.own && r.elem == e && r.k.eq k && k'.eq k && isZ lo then some ([(.lst k, .lsub r.x lo hi)], [.var nn]) else none
    | none => none
  | .lent _ _, .one .nilslice => some ([], [.lit 0, .lit 0])
  | .lent e k, .one (.slv id lo hi k') => match σ.row id with
    | some r => if r.own && r.elem == e && r.k.eq k && k'.eq k && r.full && isZ lo then some ([], [r.x, hi]) else none
    | none => none
  | _, _ => none
def takeOuts (σ : St) (nn : Nat) : List Oh → List V → Option (Defs × List A)
  | [], [] => some ([], [])
  | s :: ss, v :: vs => match takeOh σ nn s v with
    | none => none
    | some d => match takeOuts σ (nn + d.1.length) ss vs with
      | none => none
      | some r => some (d.1 ++ r.1, d.2 ++ r.2)
  | _, _ => none
def fin (P : Program) (fn : Func) (outs : List Oh) (e : Ex) (σ : St) : Tree :=
  match e with
  | .exit _ => .bad 400 ""
  | _ => match resS P σ fn with
    | none => .bad 401 ""
    | some vs => match takeOuts σ σ.nv outs vs with
      | none => .bad 402 ""
      | some r => letts σ.nv r.1 (.ret r.2)
def tree (P : Program) (T : List K) (LA : List Ann) (fuel : Nat) (fn : Func) (ins : List Sh) (outs : List Oh) : Tree :=
  match fn.body with
  | some c => run P T LA fuel (.code c) (initS fn ins) (fin P fn outs)
  | none => .bad 403 ""
end
end Go.Sx

/- The engine Sx, part F: first laws: relations grow with the world; cells, values, puts. -/
namespace Go.Sx
open Go Go.RowKit

theorem A.ev_congr {a : A} {nv : Nat} {e e' : Nat → Int} (h : a.ok nv) (he : ∀ i, i < nv → e' i = e i) : a.ev e' = a.ev e := by
  cases a with
  | lit n => rfl
  | var n => exact he _ h
  | limb n j => simp only [A.ev]; rw [he _ h]
theorem A.wf_congr {a : A} {nv nv' : Nat} {e e' : Nat → Int} (h : a.wf nv e) (he : ∀ i, i < nv → e' i = e i) (hn : nv ≤ nv') : a.wf nv' e' := by
  cases a with
  | lit n => exact ⟨trivial, trivial⟩
  | var n => exact ⟨Nat.lt_of_lt_of_le h.1 hn, trivial⟩
  | limb n j => exact ⟨Nat.lt_of_lt_of_le h.1 hn, by have := h.2; simp only [A.good] at *; rw [he _ h.1]; exact this⟩
theorem A.ok_mono {a : A} {nv nv' : Nat} (h : a.ok nv) (hn : nv ≤ nv') : a.ok nv' := by
  cases a <;> simp only [A.ok] at * <;> omega

structure MExt (m : M) (nv : Nat) (al : Nat → Bool) (m' : M) (nv' : Nat) (al' : Nat → Bool) : Prop where
  env : ∀ i, i < nv → m'.env i = m.env i
  rho : ∀ id, al id = true → m'.rho id = m.rho id
  ext : m'.ext = m.ext
  sv : ∀ id, al id = true → m'.sv id = m.sv id
  nv : nv ≤ nv'
  al : ∀ id, al id = true → al' id = true
theorem MExt.refl (m : M) (nv : Nat) (al : Nat → Bool) : MExt m nv al m nv al := ⟨fun _ _ => rfl, fun _ _ => rfl, rfl, fun _ _ => rfl, Nat.le_refl _, fun _ h => h⟩
theorem MExt.trans {m m' m'' : M} {nv nv' nv'' : Nat} {al al' al'' : Nat → Bool} (h : MExt m nv al m' nv' al') (k : MExt m' nv' al' m'' nv'' al'') : MExt m nv al m'' nv'' al'' :=
  ⟨fun i hi => (k.env i (Nat.lt_of_lt_of_le hi h.nv)).trans (h.env i hi), fun id hi => (k.rho id (h.al id hi)).trans (h.rho id hi), k.ext.trans h.ext,
   fun id hi => (k.sv id (h.al id hi)).trans (h.sv id hi), Nat.le_trans h.nv k.nv, fun id hi => k.al id (h.al id hi)⟩

section
variable {m m' : M} {nv nv' : Nat} {al al' : Nat → Bool}
theorem MExt.at_ (h : MExt m nv al m' nv' al') {id : Nat} (hi : al id = true) (off : Nat) : m'.at id off = m.at id off := by
  simp only [M.at, h.rho id hi]
theorem C.rel_mono (h : MExt m nv al m' nv' al') {c : C} {v : Value} (hc : c.rel m nv al v) : c.rel m' nv' al' v := by
  cases c <;> simp only [C.rel] at hc ⊢
  case int k a => obtain ⟨h1, h2, h3⟩ := hc; rw [A.ev_congr h1.1 h.env]; exact ⟨A.wf_congr h1 h.env h.nv, h2, h3⟩
  case bool a => obtain ⟨h1, h2, h3⟩ := hc; rw [A.ev_congr h1.1 h.env]; exact ⟨A.wf_congr h1 h.env h.nv, h2, h3⟩
  case sv a => obtain ⟨h1, h2, h3⟩ := hc; rw [A.ev_congr h1.1 h.env]; exact ⟨A.wf_congr h1 h.env h.nv, h2, h3⟩
  case ptr id off => exact ⟨h.al _ hc.1, by rw [h.at_ hc.1]; exact hc.2⟩
  case slice id off len cap => exact ⟨h.al _ hc.1, by rw [h.at_ hc.1]; exact hc.2⟩
  case fn f caps =>
    refine ⟨fun p hp => h.al _ (hc.1 p hp), ?_⟩
    rw [hc.2]
    congr 2
    exact List.map_congr_left fun p hp => by rw [h.at_ (hc.1 p hp)]
  case ext n => rw [h.ext]; exact hc
  case ptrS id off i n => obtain ⟨h1, h2, h3, h4⟩ := hc; rw [A.ev_congr h2.1 h.env]; exact ⟨h.al _ h1, A.wf_congr h2 h.env h.nv, h3, by rw [h.at_ h1]; exact h4⟩
  case sl id => exact ⟨h.al _ hc.1, by rw [h.sv _ hc.1]; exact hc.2⟩
  case lp id i k => obtain ⟨h1, h2, h3, h4⟩ := hc; rw [A.ev_congr h2.1 h.env, h.sv _ h1]; exact ⟨h.al _ h1, A.wf_congr h2 h.env h.nv, h3, h4⟩
  case slv id lo hi k => obtain ⟨h1, h2, h3, h4, h5⟩ := hc; rw [A.ev_congr h2.1 h.env, A.ev_congr h3.1 h.env, h.sv _ h1]; exact ⟨h.al _ h1, A.wf_congr h2 h.env h.nv, A.wf_congr h3 h.env h.nv, h4, h5⟩
  all_goals exact hc
theorem Rels.mono (h : MExt m nv al m' nv' al') : ∀ {cs : List C} {vs : List Value}, Rels m nv al cs vs → Rels m' nv' al' cs vs
  | [], [], _ => trivial
  | _ :: _, _ :: _, hc => ⟨C.rel_mono h hc.1, Rels.mono h hc.2⟩
theorem V.rel_mono (h : MExt m nv al m' nv' al') {x : V} {v : Value} (hc : x.rel m nv al v) : x.rel m' nv' al' v := by
  cases x with
  | one c => exact C.rel_mono h hc
  | agg cs => obtain ⟨vs, rfl, hr⟩ := hc; exact ⟨vs, rfl, hr.mono h⟩
theorem VRels.mono (h : MExt m nv al m' nv' al') : ∀ {cs : List V} {vs : List Value}, VRels m nv al cs vs → VRels m' nv' al' cs vs
  | [], [], _ => trivial
  | _ :: _, _ :: _, hc => ⟨V.rel_mono h hc.1, VRels.mono h hc.2⟩
theorem SV.rel_mono (h : MExt m nv al m' nv' al') {x : SV} {v : Value} (hc : x.rel m nv al v) : x.rel m' nv' al' v := by
  cases x with
  | vl c => exact V.rel_mono h hc
  | tup cs => obtain ⟨vs, rfl, hr⟩ := hc; exact ⟨vs, rfl, hr.mono h⟩

theorem Rels.length : ∀ {cs : List C} {vs : List Value}, Rels m nv al cs vs → cs.length = vs.length
  | [], [], _ => rfl
  | _ :: _, _ :: _, h => by simp [Rels.length h.2]
theorem Rels.get : ∀ {cs : List C} {vs : List Value}, Rels m nv al cs vs → ∀ (i : Nat) (c : C), cs[i]? = some c → ∃ v, vs[i]? = some v ∧ c.rel m nv al v
  | [], [], _, i, c, hi => by simp at hi
  | _ :: _, _ :: _, h, 0, c, hi => by simp at hi; subst hi; exact ⟨_, rfl, h.1⟩
  | _ :: _, _ :: _, h, i + 1, c, hi => by simpa using Rels.get h.2 i c (by simpa using hi)
theorem Rels.take : ∀ {cs : List C} {vs : List Value}, Rels m nv al cs vs → ∀ n, Rels m nv al (cs.take n) (vs.take n)
  | [], [], _, n => by simp [Rels]
  | _ :: _, _ :: _, _, 0 => by simp [Rels]
  | _ :: _, _ :: _, h, n + 1 => ⟨h.1, Rels.take h.2 n⟩
theorem Rels.drop : ∀ {cs : List C} {vs : List Value}, Rels m nv al cs vs → ∀ n, Rels m nv al (cs.drop n) (vs.drop n)
  | [], [], _, n => by simp [Rels]
  | _ :: _, _ :: _, h, 0 => h
  | _ :: _, _ :: _, h, n + 1 => Rels.drop h.2 n
theorem Rels.append : ∀ {cs ds : List C} {vs us : List Value}, Rels m nv al cs vs → Rels m nv al ds us → Rels m nv al (cs ++ ds) (vs ++ us)
  | [], _, [], _, _, k => k
  | _ :: _, _, _ :: _, _, h, k => ⟨h.1, Rels.append h.2 k⟩
theorem Rels.of_get : ∀ {cs : List C} {vs : List Value}, cs.length = vs.length → (∀ (i : Nat) (c : C), cs[i]? = some c → ∃ v, vs[i]? = some v ∧ c.rel m nv al v) → Rels m nv al cs vs
  | [], [], _, _ => trivial
  | c :: cs, v :: vs, hl, h => ⟨by obtain ⟨u, hu, hr⟩ := h 0 c rfl; simp at hu; subst hu; exact hr, Rels.of_get (by simpa using hl) fun i c hi => by simpa using h (i + 1) c (by simpa using hi)⟩
  | [], _ :: _, hl, _ => by simp at hl
  | _ :: _, [], hl, _ => by simp at hl
theorem VRels.length : ∀ {cs : List V} {vs : List Value}, VRels m nv al cs vs → cs.length = vs.length
  | [], [], _ => rfl
  | _ :: _, _ :: _, h => by simp [VRels.length h.2]
theorem VRels.get : ∀ {cs : List V} {vs : List Value}, VRels m nv al cs vs → ∀ (i : Nat) (c : V), cs[i]? = some c → ∃ v, vs[i]? = some v ∧ c.rel m nv al v
  | [], [], _, i, c, hi => by simp at hi
  | _ :: _, _ :: _, h, 0, c, hi => by simp at hi; subst hi; exact ⟨_, rfl, h.1⟩
  | _ :: _, _ :: _, h, i + 1, c, hi => by simpa using VRels.get h.2 i c (by simpa using hi)
theorem VRels.append : ∀ {cs ds : List V} {vs us : List Value}, VRels m nv al cs vs → VRels m nv al ds us → VRels m nv al (cs ++ ds) (vs ++ us)
  | [], _, [], _, _, k => k
  | _ :: _, _, _ :: _, _, h, k => ⟨h.1, VRels.append h.2 k⟩

theorem C.rel_one {c : C} {v : Value} (hc : c.rel m nv al v) (hs : c.solid = true) : v.oneCell' = true := by
  cases c <;> simp only [C.rel] at hc <;> simp only [C.solid] at hs
  case int => rw [hc.2.2]; rfl
  case bool => rw [hc.2.2]; rfl
  case ptr => rw [hc.2]; rfl
  case slice => rw [hc.2]; rfl
  case fn => rw [hc.2]; rfl
  case ext => exact hc.2
  case top => cases hs
  case ptrS => rw [hc.2.2.2]; rfl
  case sl => exact hc.2.2
  case lp => rw [hc.2.2.2]; rfl
  case slv => exact hc.2.2.2.2.2
  case sv => rw [hc.2.2]; rfl
  all_goals (rw [hc]; rfl)
theorem Rels.one : ∀ {cs : List C} {vs : List Value}, Rels m nv al cs vs → cs.all C.solid = true → ∀ v ∈ vs, v.oneCell' = true
  | [], [], _, _, v, hv => by cases hv
  | c :: cs, u :: us, h, hs, v, hv => by
    simp only [List.all_cons, Bool.and_eq_true] at hs
    rcases List.mem_cons.1 hv with rfl | hv
    · exact C.rel_one h.1 hs.1
    · exact Rels.one h.2 hs.2 v hv
theorem V.rel_cells {x : V} {v : Value} (hc : x.rel m nv al v) (hs : x.cells.all C.solid = true) : ∃ vs : List Value, v.cells = vs.toArray ∧ Rels m nv al x.cells vs ∧ (∀ u ∈ vs, u.oneCell' = true) := by
  cases x with
  | one c =>
    have h1 : v.oneCell' = true := C.rel_one hc (by simpa [V.cells] using hs)
    refine ⟨[v], ?_, ⟨hc, trivial⟩, by simpa using h1⟩
    cases v <;> first | rfl | (simp [Value.oneCell'] at h1)
  | agg cs => obtain ⟨vs, rfl, hr⟩ := hc; exact ⟨vs, rfl, hr, hr.one hs⟩
end

theorem hasB_has {k : IntKind} {n : Int} (h : hasB k n = true) : has k n := by
  simp only [hasB, Bool.and_eq_true, decide_eq_true_eq] at h; exact h
section
variable {m : M} {nv : Nat} {al : Nat → Bool}
theorem cOf_rel {v : Value} {c : C} (h : cOf v = some c) : c.rel m nv al v ∧ c.solid = true := by
  unfold cOf at h
  split at h
  · split at h
    · cases h; exact ⟨⟨⟨trivial, trivial⟩, hasB_has ‹_›, rfl⟩, rfl⟩
    · cases h
  · rename_i b; cases h; refine ⟨⟨⟨trivial, trivial⟩, ?_⟩, rfl⟩; cases b <;> simp [A.ev, b2i]
  all_goals (cases h; try exact ⟨rfl, rfl⟩)
theorem mapO_rel {vs : List Value} : ∀ {cs : List C}, mapO cOf vs = some cs → Rels m nv al cs vs ∧ cs.all C.solid = true := by
  induction vs with
  | nil => intro cs h; simp [mapO] at h; subst h; exact ⟨trivial, rfl⟩
  | cons v vs ih =>
    intro cs h
    unfold mapO at h
    split at h
    · cases h
    · rename_i c hc
      split at h
      · cases h
      · rename_i ds hd
        cases h
        have := ih hd
        have hc' := cOf_rel (m := m) (nv := nv) (al := al) hc
        exact ⟨⟨hc'.1, this.1⟩, by simp [hc'.2, this.2]⟩
theorem vOf_rel {v : Value} {x : V} (h : vOf v = some x) : x.rel m nv al v ∧ x.cells.all C.solid = true := by
  unfold vOf at h
  split at h
  · rename_i cs
    cases hm : mapO cOf cs.toList with
    | none => simp [hm] at h
    | some ds => simp [hm] at h; subst h; have := mapO_rel (m := m) (nv := nv) (al := al) hm; exact ⟨⟨cs.toList, by simp, this.1⟩, this.2⟩
  · cases hm : cOf v with
    | none => simp [hm] at h
    | some c => simp [hm] at h; subst h; have := cOf_rel (m := m) (nv := nv) (al := al) hm; exact ⟨this.1, by simp [V.cells, this.2]⟩
end

section
variable {w0 : World} {m : M} {σ : St} {a : Act} {w : World}
theorem look_mem {l : List (Nat × Nat)} {n k : Nat} (h : look l n = some k) : (n, k) ∈ l := by
  induction l with
  | nil => simp [look] at h
  | cons p r ih =>
    unfold look at h
    split at h
    · rename_i hp; cases h; simp at hp; subst hp; exact List.mem_cons_self ..
    · exact List.mem_cons_of_mem _ (ih h)
theorem lookB_mem {l : List (Nat × Bool)} {n : Nat} {k : Bool} (h : lookB l n = some k) : (n, k) ∈ l := by
  induction l with
  | nil => simp [lookB] at h
  | cons p r ih =>
    unfold lookB at h
    split at h
    · rename_i hp; cases h; simp at hp; subst hp; exact List.mem_cons_self ..
    · exact List.mem_cons_of_mem _ (ih h)
theorem Rep.get (h : Rep w0 m σ a w) (t : Nat) : (σ.get t).rel m σ.nv σ.al (a.tmps.getD t undef) := by
  rw [St.get_def]
  cases ht : σ.tmps[t]? with
  | some s =>
    obtain ⟨v, hv, hr⟩ := h.tmp t s ht
    simp only [List.getD_eq_getElem?_getD, ht, Option.getD_some, Array.getD_eq_getD_getElem?, hv]
    exact hr
  | none =>
    have hl : σ.tmps.length ≤ t := List.getElem?_eq_none_iff.1 ht
    have : a.tmps[t]? = none := Array.getElem?_eq_none_iff.2 (by rw [h.size]; exact hl)
    simp only [List.getD_eq_getElem?_getD, ht, Option.getD_none, Array.getD_eq_getD_getElem?, this]
    exact ⟨[], rfl, trivial⟩
theorem Rep.val (h : Rep w0 m σ a w) {x : Operand} {s : SV} (hx : σ.val x = some s) : s.rel m σ.nv σ.al (a.eval x) := by
  cases x with
  | tmp t => simp only [St.val, Option.some.injEq] at hx; subst hx; exact h.get t
  | const v =>
    simp only [St.val] at hx
    cases hv : vOf v with
    | none => simp [hv] at hx
    | some c => simp [hv] at hx; subst hx; exact (vOf_rel hv).1
  | func f => simp only [St.val, Option.some.injEq] at hx; subst hx; exact ⟨by simp, by simp [Act.eval]⟩
  | global g =>
    simp only [St.val] at hx
    cases hg : look σ.gl g with
    | none => simp [hg] at hx
    | some id =>
      simp [hg] at hx; subst hx
      have := h.gl _ (look_mem hg)
      exact ⟨this.1, by simp [Act.eval, M.at, this.2]⟩
theorem Rep.v_ (h : Rep w0 m σ a w) {x : Operand} {s : V} (hx : σ.v x = some s) : s.rel m σ.nv σ.al (a.eval x) := by
  unfold St.v at hx
  split at hx
  · rename_i c hc; cases hx; exact h.val hc
  · cases hx
theorem Rep.cell (h : Rep w0 m σ a w) {x : Operand} {s : C} (hx : σ.cell x = some s) : s.rel m σ.nv σ.al (a.eval x) := by
  unfold St.cell at hx
  split at hx
  · rename_i c hc; cases hx; exact h.val hc
  · cases hx
theorem Rep.put (h : Rep w0 m σ a w) {s : SV} {v : Value} (hs : s.rel m σ.nv σ.al v) (dst : Option Nat) : Rep w0 m (σ.put dst s) (a.put dst v) w := by
  cases dst with
  | none => exact h
  | some d =>
    refine ⟨h.defers, by simp [Act.put, St.put_def, h.size], ?_, h.below, h.own, h.ro, h.inj, h.kn, h.gl, h.rows, h.rbox, h.rsep⟩
    intro i s' hi
    simp only [St.put_def] at hi
    by_cases hd : d = i
    · subst hd
      have hl : d < σ.tmps.length := by
        rcases Nat.lt_or_ge d σ.tmps.length with h1 | h1
        · exact h1
        · rw [List.getElem?_eq_none (by simpa using h1)] at hi; cases hi
      simp [hl] at hi
      subst hi
      exact ⟨v, by simp [Act.put, h.size, hl], hs⟩
    · rw [List.getElem?_set_ne hd] at hi
      obtain ⟨u, hu, hr⟩ := h.tmp i s' hi
      exact ⟨u, by simp [Act.put, Array.getElem?_setIfInBounds_ne hd, hu], hr⟩
theorem Rep.truth (h : Rep w0 m σ a w) {x : A} : (truth σ x = .yes → x.ev m.env ≠ 0) ∧ (truth σ x = .no → x.ev m.env = 0) := by
  unfold Sx.truth
  cases x with
  | lit n => by_cases h0 : n = 0 <;> simp [A.ev, h0]
  | var n =>
    simp only [A.ev]
    cases hb : lookB σ.kn n with
    | none => simp
    | some b =>
      have := (h.kn _ (lookB_mem hb)).2
      cases b <;> simp at this <;> simp [this]
  | limb n j => simp
end
end Go.Sx

/- The engine Sx, part G: what becomes of the boxes: a new one, a store, a call. -/
namespace Go.Sx
open Go Go.RowKit

section
variable {w0 : World} {m : M} {σ : St} {a : Act} {w w' : World}
theorem Rep.lt_size (h : Rep w0 m σ a w) {id : Nat} {b : Box} (hb : σ.boxes[id]? = some (some b)) (ho : b.own = true) : (m.rho id).1 < w.heap.size := by
  obtain ⟨_, _, vs, hv, _⟩ := h.own id b hb ho
  exact (Array.getElem?_eq_some_iff.1 hv).1
theorem add_block (ad : Addr) (j : Nat) : (ad.add j).block = ad.block := by
  unfold Addr.add; split
  · rfl
  · rfl
theorem ownsRow_of {w w' : World} {base : Nat} {e : TypeId} {size : Nat} {v : Value} {n : Nat} {xs : List Value} (h : w.ownsRow base e size v n xs) (hb : ∀ g, v.ownBlock = some g → w'.heap[g]? = w.heap[g]?) : w'.ownsRow base e size v n xs := by
  refine ⟨h.1, ?_⟩
  rcases h.2 with hn | ⟨g, cap, cur, rfl, h2, h3, h4⟩
  · exact .inl hn
  · exact .inr ⟨g, cap, cur, rfl, h2, by rw [hb g rfl]; exact h3, h4⟩
theorem RowAt.turn {w0 w w' : World} {r : Row} {v : Value} {l : List Int} (h : RowAt w0 w r v l) (h1 : ∀ g, r.own = true → v.ownBlock = some g → w'.heap[g]? = w.heap[g]?) (h2 : ∀ p : Addr, p.block < w0.heap.size → w'.cell? p = w.cell? p) : RowAt w0 w' r v l := by
  refine ⟨h.1, ?_, h.2.2⟩
  have h3 := h.2.1
  cases ho : r.own with
  | true =>
    rw [ho] at h3
    simp only [if_true] at h3 ⊢
    exact ownsRow_of h3 fun g hg => h1 g ho hg
  | false =>
    rw [ho] at h3
    simp only [Bool.false_eq_true, if_false] at h3 ⊢
    rcases h3 with h3 | ⟨ad, cap, k1, k2, k3, k4⟩
    · exact .inl h3
    · exact .inr ⟨ad, cap, k1, k2, k3, fun j u hj => by rw [h2 _ (by rw [add_block]; exact k2)]; exact k4 j u hj⟩
theorem RowAt.lt {w0 w : World} {r : Row} {v : Value} {l : List Int} (h : RowAt w0 w r v l) (ho : r.own = true) {g : Nat} (hg : v.ownBlock = some g) : w0.heap.size ≤ g ∧ g < w.heap.size := by
  have h3 := h.2.1
  rw [ho] at h3
  simp only [if_true] at h3
  exact h3.lt g hg
theorem RowAt.below {w0 w w' : World} {r : Row} {v : Value} {l : List Int} (h : RowAt w0 w r v l) (hs : w0.heap.size ≤ w.heap.size) (hb : Below w.heap.size w w') : RowAt w0 w' r v l :=
  h.turn (fun g ho hg => hb.block _ (h.lt ho hg).2) (fun p hp => hb.cell (p := p) (Nat.lt_of_lt_of_le hp hs))
/-- nothing that was there has turned -/
theorem Rep.world (h : Rep w0 m σ a w) (hb : Below w.heap.size w w') : Rep w0 m σ a w' := by
  refine ⟨h.defers, h.size, h.tmp, h.below.trans (hb.mono h.below.size), ?_, ?_, h.inj, h.kn, h.gl, fun id b r hi hr => ?_, h.rbox, h.rsep⟩
  · intro id b hi ho
    obtain ⟨h1, h2, vs, h3, h4⟩ := h.own id b hi ho
    exact ⟨h1, h2, vs, by rw [hb.block _ (h.lt_size hi ho)]; exact h3, h4⟩
  · intro id b hi ho
    rcases h.ro id b hi ho with h0 | ⟨h1, h2⟩
    · exact .inl h0
    refine .inr ⟨h1, fun j c hj => ?_⟩
    obtain ⟨v, h3, h4⟩ := h2 j c hj
    exact ⟨v, by rw [hb.cell (p := m.at id j) (Nat.lt_of_lt_of_le h1 h.below.size)]; exact h3, h4⟩
  · obtain ⟨r1, r2, r3, r4⟩ := h.rows id b r hi hr
    exact ⟨r1, r2, r3, r4.below h.below.size hb⟩

def M.bind (m : M) (id b : Nat) : M := { m with rho := fun i => if i = id then (b, 0) else m.rho i }
def St.setBox (σ : St) (id : Nat) (b : Box) : St := { σ with boxes := σ.boxes.set id (some b) }
theorem al_setBox (σ : St) (id : Nat) (b : Box) (i : Nat) : (σ.setBox id b).al i = (if i = id ∧ id < σ.boxes.length then true else σ.al i) := by
  unfold St.al St.setBox
  by_cases hi : id = i
  · subst hi
    by_cases hl : id < σ.boxes.length
    · simp [hl]
    · simp [hl]
  · simp [List.getElem?_set_ne hi, Ne.symm hi]
theorem al_iff {σ : St} {id : Nat} : σ.al id = true ↔ ∃ b, σ.boxes[id]? = some (some b) := by
  unfold St.al
  constructor
  · intro h; split at h
    · exact ⟨_, ‹_›⟩
    · cases h
  · rintro ⟨b, hb⟩; simp [hb]

theorem Rep.new (h : Rep w0 m σ a w) {nid : Nat} (hn : σ.boxes[nid]? = some none) (hb : Below w.heap.size w w') {b : Nat} (hbn : w.heap.size ≤ b) {e : TypeId} {cs : List C} {vs : List Value}
    (hh : w'.heap[b]? = some (.cells vs.toArray e (0, 0))) (hr : Rels m σ.nv σ.al cs vs) :
    Rep w0 (m.bind nid b) (σ.setBox nid { cells := cs, elem := e, own := true }) a w' ∧ MExt m σ.nv σ.al (m.bind nid b) σ.nv (σ.setBox nid { cells := cs, elem := e, own := true }).al := by
  have hx : MExt m σ.nv σ.al (m.bind nid b) σ.nv (σ.setBox nid { cells := cs, elem := e, own := true }).al := by
    refine ⟨fun _ _ => rfl, fun id hid => ?_, rfl, fun _ _ => rfl, Nat.le_refl _, fun id hid => ?_⟩
    · have : id ≠ nid := by rintro rfl; obtain ⟨b, hb⟩ := al_iff.1 hid; rw [hn] at hb; cases hb
      simp [M.bind, this]
    · rw [al_setBox]
      split
      · rfl
      · exact hid
  have hnl : nid < σ.boxes.length := by
    rcases Nat.lt_or_ge nid σ.boxes.length with h1 | h1
    · exact h1
    · rw [List.getElem?_eq_none (by simpa using h1)] at hn; cases hn
  have h' := h.world hb
  have old : ∀ {id : Nat} {bx : Box}, (σ.setBox nid { cells := cs, elem := e, own := true }).boxes[id]? = some (some bx) → id ≠ nid → σ.boxes[id]? = some (some bx) := by
    intro id bx hi hne
    simpa [St.setBox, List.getElem?_set_ne (Ne.symm hne)] using hi
  have new : ∀ {bx : Box}, (σ.setBox nid { cells := cs, elem := e, own := true }).boxes[nid]? = some (some bx) → bx = { cells := cs, elem := e, own := true } := by
    intro bx hi
    simp [St.setBox, hnl] at hi
    exact hi.symm
  have norow : ∀ {id : Nat} {bx : Box} {r : Row}, (σ.setBox nid { cells := cs, elem := e, own := true }).boxes[id]? = some (some bx) → bx.row = some r → id ≠ nid := by
    intro id bx r hi hr hne
    subst hne
    have := new hi; subst this; cases hr
  have hw0 : w0.heap.size ≤ w.heap.size := h.below.size
  refine ⟨⟨h.defers, h.size, fun i s hi => ?_, h'.below, ?_, ?_, ?_, h.kn, ?_, fun id bx r hi hr => ?_, fun id bx r hi hr ho id' b' hi' hbo => ?_, fun id bx r id' b' r' hi hr hi' hr' ho ho' hd => ?_⟩, hx⟩
  · obtain ⟨v, hv, hs⟩ := h.tmp i s hi; exact ⟨v, hv, SV.rel_mono hx hs⟩
  · intro id bx hi ho
    by_cases hne : id = nid
    · subst hne
      have := new hi; subst this
      exact ⟨by simp [M.bind], by simp [M.bind]; omega, vs, by simpa [M.bind] using hh, hr.mono hx⟩
    · have hi' := old hi hne
      obtain ⟨h1, h2, us, h3, h4⟩ := h'.own id bx hi' ho
      have he : (m.bind nid b).rho id = m.rho id := by simp [M.bind, hne]
      rw [he]
      exact ⟨h1, h2, us, h3, h4.mono hx⟩
  · intro id bx hi ho
    by_cases hne : id = nid
    · subst hne
      have := new hi; subst this; cases ho
    · have hi' := old hi hne
      have he : (m.bind nid b).rho id = m.rho id := by simp [M.bind, hne]
      rw [he]
      rcases h'.ro id bx hi' ho with h0 | ⟨h1, h2⟩
      · exact .inl h0
      refine .inr ⟨h1, fun j c hj => ?_⟩
      obtain ⟨v, h3, h4⟩ := h2 j c hj
      exact ⟨v, by simpa [M.at, he] using h3, C.rel_mono hx h4⟩
  · intro id id' b1 b2 hi hi' ho ho' hd
    by_cases h1 : id = nid
    · subst h1
      have h2 : id' ≠ id := Ne.symm hd
      have hlt := h.lt_size (old hi' h2) ho'
      simp [M.bind, h2]; omega
    · by_cases h2 : id' = nid
      · subst h2
        have hlt := h.lt_size (old hi h1) ho
        simp [M.bind, h1]; omega
      · simpa [M.bind, h1, h2] using h.inj id id' b1 b2 (old hi h1) (old hi' h2) ho ho' hd
  · intro p hp
    have h1 := h.gl p hp
    exact ⟨hx.al _ h1.1, by rw [hx.rho _ h1.1]; exact h1.2⟩
  · exact h'.rows id bx r (old hi (norow hi hr)) hr
  · obtain ⟨r1, r2, r3, r4⟩ := h.rows id bx r (old hi (norow hi hr)) hr
    by_cases he : id' = nid
    · subst he
      intro hc
      have := (r4.lt ho hc).2
      simp [M.bind] at this; omega
    · have he2 : (m.bind nid b).rho id' = m.rho id' := by simp [M.bind, he]
      rw [he2]
      exact h.rbox id bx r (old hi (norow hi hr)) hr ho id' b' (old hi' he) hbo
  · exact h.rsep id bx r id' b' r' (old hi (norow hi hr)) hr (old hi' (norow hi' hr')) hr' ho ho' hd

/-- room for a box that is not there yet -/
theorem Rep.room (h : Rep w0 m σ a w) (n : Nat) : Rep w0 m { σ with boxes := σ.boxes ++ List.replicate n none } a w := by
  have hal : ∀ id, ({ σ with boxes := σ.boxes ++ List.replicate n none } : St).al id = σ.al id := by
    intro id
    unfold St.al
    by_cases hl : id < σ.boxes.length
    · simp [List.getElem?_append_left hl]
    · rw [List.getElem?_append_right (by omega), List.getElem?_eq_none (show σ.boxes.length ≤ id by omega)]
      by_cases h2 : id - σ.boxes.length < n
      · simp [h2]
      · rw [List.getElem?_eq_none (by simp; omega)]
  have hfun : ({ σ with boxes := σ.boxes ++ List.replicate n none } : St).al = σ.al := funext hal
  have old : ∀ {id : Nat} {bx : Box}, (σ.boxes ++ List.replicate n none)[id]? = some (some bx) → σ.boxes[id]? = some (some bx) := by
    intro id bx hi
    have h1 : ({ σ with boxes := σ.boxes ++ List.replicate n none } : St).al id = true := al_iff.2 ⟨bx, hi⟩
    rw [hal] at h1
    obtain ⟨b', hb'⟩ := al_iff.1 h1
    have hl : id < σ.boxes.length := (List.getElem?_eq_some_iff.1 hb').1
    rw [List.getElem?_append_left hl] at hi
    exact hi
  refine ⟨h.defers, h.size, ?_, h.below, ?_, ?_, ?_, h.kn, ?_, fun id b r hi => h.rows id b r (old hi), fun id b r hi hr ho id' b' hi' => h.rbox id b r (old hi) hr ho id' b' (old hi'), fun id b r id' b' r' hi hr hi' => h.rsep id b r id' b' r' (old hi) hr (old hi')⟩
  · rw [hfun]; exact h.tmp
  · rw [hfun]; exact fun id b hi => h.own id b (old hi)
  · rw [hfun]; exact fun id b hi => h.ro id b (old hi)
  · exact fun id id' b b' hi hi' => h.inj id id' b b' (old hi) (old hi')
  · rw [hfun]; exact h.gl

/-- more names may be used -/
theorem Rep.names (h : Rep w0 m σ a w) (e' : Nat → Int) (he : ∀ i, i < σ.nv → e' i = m.env i) (nv' : Nat) (hnv : σ.nv ≤ nv') : Rep w0 { m with env := e' } { σ with nv := nv' } a w := by
  have hx : MExt m σ.nv σ.al { m with env := e' } nv' σ.al := ⟨he, fun _ _ => rfl, rfl, fun _ _ => rfl, hnv, fun _ h => h⟩
  have hal : ({ σ with nv := nv' } : St).al = σ.al := rfl
  refine ⟨h.defers, h.size, fun i s hi => ?_, h.below, fun id b hi ho => ?_, fun id b hi ho => ?_, h.inj, fun p hp => ?_, h.gl, fun id b r hi hr => ?_, h.rbox, h.rsep⟩
  · obtain ⟨v, hv, hs⟩ := h.tmp i s hi; exact ⟨v, hv, SV.rel_mono hx hs⟩
  · obtain ⟨h1, h2, vs, h3, h4⟩ := h.own id b hi ho; exact ⟨h1, h2, vs, h3, h4.mono hx⟩
  · rcases h.ro id b hi ho with h0 | ⟨h1, h2⟩
    · exact .inl h0
    refine .inr ⟨h1, fun j c hj => ?_⟩
    obtain ⟨v, h3, h4⟩ := h2 j c hj
    exact ⟨v, h3, C.rel_mono hx h4⟩
  · have h1 := h.kn p hp
    exact ⟨Nat.lt_of_lt_of_le h1.1 hnv, by rw [← h1.2]; exact congrArg (fun x : Int => decide (x ≠ 0)) (he _ h1.1)⟩
  · obtain ⟨r1, r2, r3, r4⟩ := h.rows id b r hi hr
    exact ⟨A.wf_congr r1 he hnv, A.wf_congr r2 he hnv, by rw [A.ev_congr r1.1 he, A.ev_congr r2.1 he]; exact r3, by rw [A.ev_congr r1.1 he]; exact r4⟩

/-- a store into one of the boxes -/
theorem Rep.wr (h : Rep w0 m σ a w) {id off : Nat} {b : Box} (hb : σ.boxes[id]? = some (some b)) (ho : b.own = true) {cs : List C} {vs us : List Value}
    (hc : w.heap[(m.rho id).1]? = some (.cells us.toArray b.elem (0, 0))) (hr : Rels m σ.nv σ.al cs vs) :
    Rep w0 m (σ.setBox id (b.upd (.cells off cs))) a (w.setRow (m.rho id).1 (us.take off ++ vs ++ us.drop (off + vs.length)).toArray) := by
  have hlt : id < σ.boxes.length := (List.getElem?_eq_some_iff.1 hb).1
  obtain ⟨hz, hge, us', hus, hrels⟩ := h.own id b hb ho
  have hue : us' = us := by rw [hc] at hus; simp at hus; exact hus.symm
  subst hue
  have hal : (σ.setBox id (b.upd (.cells off cs))).al = σ.al := by
    funext i
    rw [al_setBox]
    split
    · rename_i hi; rw [hi.1]; exact (al_iff.2 ⟨b, hb⟩).symm
    · rfl
  have old : ∀ {i : Nat} {bx : Box}, (σ.setBox id (b.upd (.cells off cs))).boxes[i]? = some (some bx) → i ≠ id → σ.boxes[i]? = some (some bx) := by
    intro i bx hi hne
    simpa [St.setBox, List.getElem?_set_ne (Ne.symm hne)] using hi
  have new : ∀ {bx : Box}, (σ.setBox id (b.upd (.cells off cs))).boxes[id]? = some (some bx) → bx = (b.upd (.cells off cs)) := by
    intro bx hi
    simp [St.setBox, hlt] at hi
    simp [← hi]
  have hlen := Rels.length hr
  have own' : ∀ {i : Nat} {bx : Box}, (σ.setBox id (b.upd (.cells off cs))).boxes[i]? = some (some bx) → bx.own = true → ∃ bx', σ.boxes[i]? = some (some bx') ∧ bx'.own = true := by
    intro i bx hi ho'
    by_cases hne : i = id
    · subst hne; exact ⟨b, hb, ho⟩
    · exact ⟨bx, old hi hne, ho'⟩
  have row' : ∀ {i : Nat} {bx : Box}, (σ.setBox id (b.upd (.cells off cs))).boxes[i]? = some (some bx) → ∃ bx', σ.boxes[i]? = some (some bx') ∧ bx'.row = bx.row := by
    intro i bx hi
    by_cases hne : i = id
    · subst hne
      have := new hi; subst this; exact ⟨b, hb, rfl⟩
    · exact ⟨bx, old hi hne, rfl⟩
  refine ⟨h.defers, h.size, ?_, ?_, ?_, ?_, ?_, h.kn, ?_, ?_, ?_, ?_⟩
  · rw [hal]; exact h.tmp
  · refine h.below.trans ⟨rfl, rfl, rfl, by simp, fun k hk => setRow_other _ _ _ _ (by omega)⟩
  · rw [hal]
    intro i bx hi ho'
    by_cases hne : i = id
    · subst hne
      have := new hi; subst this
      refine ⟨hz, hge, _, setRow_heap w _ _ _ _ _ hc, ?_⟩
      have h1 := (Rels.append (Rels.append (Rels.take hrels off) hr) (Rels.drop hrels (off + cs.length)))
      rw [← hlen]
      exact h1
    · have hi' := old hi hne
      obtain ⟨h1, h2, xs, h3, h4⟩ := h.own i bx hi' ho'
      refine ⟨h1, h2, xs, ?_, h4⟩
      rw [setRow_other _ _ _ _ (h.inj i id bx b hi' hb ho' ho hne)]
      exact h3
  · rw [hal]
    intro i bx hi ho'
    by_cases hne : i = id
    · subst hne
      have := new hi; subst this
      have ho' : b.own = false := ho'
      rw [ho] at ho'; cases ho'
    · have hi' := old hi hne
      rcases h.ro i bx hi' ho' with h0 | ⟨h1, h2⟩
      · exact .inl h0
      refine .inr ⟨h1, fun j c hj => ?_⟩
      obtain ⟨v, h3, h4⟩ := h2 j c hj
      refine ⟨v, ?_, h4⟩
      rw [cell_setRow_other _ _ _ _ (by simp only [M.at]; omega)]
      exact h3
  · intro i i' b1 b2 hi hi' ho1 ho2 hd
    obtain ⟨c1, hc1, hd1⟩ := own' hi ho1
    obtain ⟨c2, hc2, hd2⟩ := own' hi' ho2
    exact h.inj i i' c1 c2 hc1 hc2 hd1 hd2 hd
  · rw [hal]; exact h.gl
  · intro i bx r hi hr
    obtain ⟨bx', g1, g2⟩ := row' hi
    obtain ⟨r1, r2, r3, r4⟩ := h.rows i bx' r g1 (g2.trans hr)
    exact ⟨r1, r2, r3, r4.turn (fun g ho' hg => setRow_other _ _ _ _ fun e => h.rbox i bx' r g1 (g2.trans hr) ho' id b hb ho (by rw [hg, e])) fun q hq => cell_setRow_other _ _ _ _ (by omega)⟩
  · intro i bx r hi hr ho' i' b' hi' hbo
    obtain ⟨bx', g1, g2⟩ := row' hi
    obtain ⟨c', k1, k2⟩ := own' hi' hbo
    exact h.rbox i bx' r g1 (g2.trans hr) ho' i' c' k1 k2
  · intro i bx r i' bx' r' hi hr hi' hr' ho1 ho2 hd
    obtain ⟨c, g1, g2⟩ := row' hi
    obtain ⟨c', k1, k2⟩ := row' hi'
    exact h.rsep i c r i' c' r' g1 (g2.trans hr) k1 (k2.trans hr') ho1 ho2 hd

/-- a store into one of the rows -/
theorem Rep.wrRow (h : Rep w0 m σ a w) {id : Nat} {b : Box} {r : Row} {x : A} (hb : σ.boxes[id]? = some (some b)) (hr : b.row = some r) (ho : r.own = true) {g : Nat} (hg : (m.sv id).ownBlock = some g) {us : Array Value}
    (hx : x.wf σ.nv m.env) (hl : (dec (x.ev m.env)).length = (dec (r.x.ev m.env)).length) (hat : RowAt w0 (w.setRow g us) { r with x := x } (m.sv id) (dec (x.ev m.env))) :
    Rep w0 m (σ.setBox id (b.upd (.row x))) a (w.setRow g us) := by
  have hlt : id < σ.boxes.length := (List.getElem?_eq_some_iff.1 hb).1
  have hbu : b.upd (.row x) = { b with row := some { r with x := x } } := by simp only [Box.upd, hr]
  rw [hbu]
  obtain ⟨r1, r2, r3, r4⟩ := h.rows id b r hb hr
  have hge := (r4.lt ho hg).1
  have hal : (σ.setBox id { b with row := some { r with x := x } }).al = σ.al := by
    funext i
    rw [al_setBox]
    split
    · rename_i hi; rw [hi.1]; exact (al_iff.2 ⟨b, hb⟩).symm
    · rfl
  have old : ∀ {i : Nat} {bx : Box}, (σ.setBox id { b with row := some { r with x := x } }).boxes[i]? = some (some bx) → i ≠ id → σ.boxes[i]? = some (some bx) := by
    intro i bx hi hne
    simpa [St.setBox, List.getElem?_set_ne (Ne.symm hne)] using hi
  have new : ∀ {bx : Box}, (σ.setBox id { b with row := some { r with x := x } }).boxes[id]? = some (some bx) → bx = { b with row := some { r with x := x } } := by
    intro bx hi
    simp [St.setBox, hlt] at hi
    simp [← hi]
  have same : ∀ {i : Nat} {bx : Box}, (σ.setBox id { b with row := some { r with x := x } }).boxes[i]? = some (some bx) → ∃ bx', σ.boxes[i]? = some (some bx') ∧ bx'.own = bx.own ∧ bx'.cells = bx.cells ∧ bx'.elem = bx.elem := by
    intro i bx hi
    by_cases hne : i = id
    · subst hne
      have := new hi; subst this; exact ⟨b, hb, rfl, rfl, rfl⟩
    · exact ⟨bx, old hi hne, rfl, rfl, rfl⟩
  have row' : ∀ {i : Nat} {bx : Box} {q : Row}, (σ.setBox id { b with row := some { r with x := x } }).boxes[i]? = some (some bx) → bx.row = some q → ∃ bx' q', σ.boxes[i]? = some (some bx') ∧ bx'.row = some q' ∧ q'.own = q.own := by
    intro i bx q hi hq
    by_cases hne : i = id
    · subst hne
      have := new hi; subst this
      simp at hq; subst hq
      exact ⟨b, r, hb, hr, rfl⟩
    · exact ⟨bx, q, old hi hne, hq, rfl⟩
  refine ⟨h.defers, h.size, ?_, ?_, ?_, ?_, ?_, h.kn, ?_, ?_, ?_, ?_⟩
  · rw [hal]; exact h.tmp
  · exact h.below.trans ⟨rfl, rfl, rfl, by simp, fun k hk => setRow_other _ _ _ _ (by omega)⟩
  · rw [hal]
    intro i bx hi ho'
    obtain ⟨bx', k1, k2, k3, k4⟩ := same hi
    obtain ⟨h1, h2, xs, h3, h4⟩ := h.own i bx' k1 (k2.trans ho')
    refine ⟨h1, h2, xs, ?_, by rw [← k3]; exact h4⟩
    rw [setRow_other _ _ _ _ (fun e => h.rbox id b r hb hr ho i bx' k1 (k2.trans ho') (by rw [hg, e])), ← k4]
    exact h3
  · rw [hal]
    intro i bx hi ho'
    obtain ⟨bx', k1, k2, k3, k4⟩ := same hi
    rcases h.ro i bx' k1 (k2.trans ho') with h0 | ⟨h1, h2⟩
    · exact .inl (k3 ▸ h0)
    refine .inr ⟨h1, fun j c hj => ?_⟩
    obtain ⟨v, h3, h4⟩ := h2 j c (by rw [k3]; exact hj)
    refine ⟨v, ?_, h4⟩
    rw [cell_setRow_other _ _ _ _ (by simp only [M.at]; omega)]
    exact h3
  · intro i i' b1 b2 hi hi' ho1 ho2 hd
    obtain ⟨c1, k1, k2, _⟩ := same hi
    obtain ⟨c2, j1, j2, _⟩ := same hi'
    exact h.inj i i' c1 c2 k1 j1 (k2.trans ho1) (j2.trans ho2) hd
  · rw [hal]; exact h.gl
  · intro i bx q hi hq
    by_cases hne : i = id
    · subst hne
      have := new hi; subst this
      simp at hq; subst hq
      exact ⟨hx, r2, r3.trans hl.symm, hat⟩
    · have hi' := old hi hne
      obtain ⟨q1, q2, q3, q4⟩ := h.rows i bx q hi' hq
      refine ⟨q1, q2, q3, q4.turn (fun g' ho' hg' => setRow_other _ _ _ _ fun e => ?_) fun p hp => cell_setRow_other _ _ _ _ (by omega)⟩
      rcases h.rsep id b r i bx q hb hr hi' hq ho ho' (Ne.symm hne) with k | k
      · rw [hg] at k; cases k
      · rw [hg, hg', e] at k; exact k rfl
  · intro i bx q hi hq ho' i' b' hi' hbo
    obtain ⟨c, q', k1, k2, k3⟩ := row' hi hq
    obtain ⟨c', j1, j2, _⟩ := same hi'
    exact h.rbox i c q' k1 k2 (k3.trans ho') i' c' j1 (j2.trans hbo)
  · intro i bx q i' bx' q' hi hq hi' hq' ho1 ho2 hd
    obtain ⟨c, p, k1, k2, k3⟩ := row' hi hq
    obtain ⟨c', p', j1, j2, j3⟩ := row' hi' hq'
    exact h.rsep i c p i' c' p' k1 k2 j1 j2 (k3.trans ho1) (j3.trans ho2) hd
end
end Go.Sx

/- The engine Sx, part Ga: rows that come and rows that are left. -/
namespace Go.Sx
open Go Go.RowKit

def M.row (m : M) (id : Nat) (v : Value) : M := { m with sv := fun i => if i = id then v else m.sv i }
theorem noRow_len (bs : List (Option Box)) (id : Nat) : (noRow bs id).length = bs.length := by
  rw [noRow_def]; split <;> simp
/-- a box behind 'noRow' is one that was there, its row there or gone -/
theorem noRow_get {bs : List (Option Box)} {id i : Nat} {b : Box} (h : (noRow bs id)[i]? = some (some b)) : ∃ b', bs[i]? = some (some b') ∧ b'.cells = b.cells ∧ b'.elem = b.elem ∧ b'.own = b.own ∧ (b.row = none ∨ b'.row = b.row ∧ i ≠ id) := by
  rw [noRow_def] at h
  split at h
  · rename_i b0 hb0
    by_cases hi : id = i
    · subst hi
      have hl : id < bs.length := (List.getElem?_eq_some_iff.1 hb0).1
      simp [hl] at h
      subst h
      exact ⟨b0, hb0, rfl, rfl, rfl, .inl rfl⟩
    · rw [List.getElem?_set_ne hi] at h
      exact ⟨b, h, rfl, rfl, rfl, .inr ⟨rfl, fun e => hi e.symm⟩⟩
  · rename_i hn
    refine ⟨b, h, rfl, rfl, rfl, .inr ⟨rfl, fun e => hn b (by rw [← e]; exact h)⟩⟩
theorem noRow_al (σ : St) (id : Nat) (i : Nat) : ({ σ with boxes := noRow σ.boxes id } : St).al i = σ.al i := by
  unfold St.al
  simp only [noRow_def]
  cases hb0 : σ.boxes[id]? with
  | none => rfl
  | some ob => cases ob with
    | none => rfl
    | some b0 =>
      simp only
      by_cases hi : id = i
      · subst hi
        have hl : id < σ.boxes.length := (List.getElem?_eq_some_iff.1 hb0).1
        rw [List.getElem?_set_self hl, hb0]
      · rw [List.getElem?_set_ne hi]
theorem noRow_none {bs : List (Option Box)} {id i : Nat} (h : bs[i]? = some none) : (noRow bs id)[i]? = some none := by
  rw [noRow_def]
  split
  · rename_i b0 hb0
    by_cases hi : id = i
    · subst hi; rw [h] at hb0; cases hb0
    · rw [List.getElem?_set_ne hi]; exact h
  · exact h
theorem noRows_len : ∀ (ids : List Nat) (bs : List (Option Box)), (noRows bs ids).length = bs.length
  | [], _ => rfl
  | id :: r, bs => by unfold noRows; rw [noRows_len r, noRow_len]
theorem noRows_get : ∀ (ids : List Nat) {bs : List (Option Box)} {i : Nat} {b : Box}, (noRows bs ids)[i]? = some (some b) → ∃ b', bs[i]? = some (some b') ∧ b'.cells = b.cells ∧ b'.elem = b.elem ∧ b'.own = b.own ∧ (b.row = none ∨ b'.row = b.row ∧ i ∉ ids)
  | [], bs, i, b, h => ⟨b, h, rfl, rfl, rfl, .inr ⟨rfl, by simp⟩⟩
  | id :: r, bs, i, b, h => by
    obtain ⟨b1, h1, h2, h3, h4, h5⟩ := noRows_get r (bs := noRow bs id) h
    obtain ⟨b2, k1, k2, k3, k4, k5⟩ := noRow_get h1
    refine ⟨b2, k1, k2.trans h2, k3.trans h3, k4.trans h4, ?_⟩
    rcases h5 with h5 | ⟨h5, h6⟩
    · exact .inl h5
    · rcases k5 with k5 | ⟨k5, k6⟩
      · exact .inl (h5 ▸ k5)
      · exact .inr ⟨k5.trans h5, by simp [k6, h6]⟩
theorem noRows_al : ∀ (ids : List Nat) (σ : St), ({ σ with boxes := noRows σ.boxes ids } : St).al = σ.al
  | [], σ => rfl
  | id :: r, σ => by
    have h1 := noRows_al r { σ with boxes := noRow σ.boxes id }
    have h2 : ({ σ with boxes := noRow σ.boxes id } : St).al = σ.al := funext (noRow_al σ id)
    exact h1.trans h2
theorem noRows_none : ∀ (ids : List Nat) {bs : List (Option Box)} {i : Nat}, bs[i]? = some none → (noRows bs ids)[i]? = some none
  | [], _, _, h => h
  | id :: r, bs, i, h => noRows_none r (noRow_none h)

section
variable {w0 : World} {m : M} {σ : St} {a : Act} {w w' : World}
/-- rows that nobody asks for any more -/
theorem Rep.noRows (h : Rep w0 m σ a w) (ids : List Nat) : Rep w0 m { σ with boxes := Sx.noRows σ.boxes ids } a w := by
  have hal := noRows_al ids σ
  have row' : ∀ {i : Nat} {b : Box} {r : Row}, (Sx.noRows σ.boxes ids)[i]? = some (some b) → b.row = some r → ∃ b', σ.boxes[i]? = some (some b') ∧ b'.row = some r := by
    intro i b r hi hr
    obtain ⟨b', h1, _, _, _, h5⟩ := noRows_get ids hi
    rcases h5 with h5 | ⟨h5, _⟩
    · rw [hr] at h5; cases h5
    · exact ⟨b', h1, h5.trans hr⟩
  refine ⟨h.defers, h.size, ?_, h.below, ?_, ?_, ?_, h.kn, ?_, ?_, ?_, ?_⟩
  · rw [hal]; exact h.tmp
  · rw [hal]; intro id b hi ho
    obtain ⟨b', h1, h2, h3, h4, _⟩ := noRows_get ids hi
    obtain ⟨g1, g2, vs, g3, g4⟩ := h.own id b' h1 (h4.trans ho)
    exact ⟨g1, g2, vs, by rw [← h3]; exact g3, by rw [← h2]; exact g4⟩
  · rw [hal]; intro id b hi ho
    obtain ⟨b', h1, h2, h3, h4, _⟩ := noRows_get ids hi
    have := h.ro id b' h1 (h4.trans ho)
    rw [h2] at this
    exact this
  · intro id id' b b' hi hi' ho ho' hd
    obtain ⟨c, h1, _, _, h4, _⟩ := noRows_get ids hi
    obtain ⟨c', k1, _, _, k4, _⟩ := noRows_get ids hi'
    exact h.inj id id' c c' h1 k1 (h4.trans ho) (k4.trans ho') hd
  · rw [hal]; exact h.gl
  · intro id b r hi hr
    obtain ⟨b', h1, h2⟩ := row' hi hr
    exact h.rows id b' r h1 h2
  · intro id b r hi hr ho id' b' hi' hbo
    obtain ⟨c, h1, h2⟩ := row' hi hr
    obtain ⟨c', k1, _, _, k4, _⟩ := noRows_get ids hi'
    exact h.rbox id c r h1 h2 ho id' c' k1 (k4.trans hbo)
  · intro id b r id' b' r' hi hr hi' hr' ho ho' hd
    obtain ⟨c, h1, h2⟩ := row' hi hr
    obtain ⟨c', k1, k2⟩ := row' hi' hr'
    exact h.rsep id c r id' c' r' h1 h2 k1 k2 ho ho' hd
/-- a new row; the block 'row', that nobody else holds, may have turned -/
theorem Rep.rowIn (h : Rep w0 m σ a w) {nid : Nat} (hn : σ.boxes[nid]? = some none) {row : Option Nat} (hgrow : w.grownBy w' row)
    (hfar : ∀ k, row = some k → w0.heap.size ≤ k ∧ (∀ (id : Nat) (b : Box), σ.boxes[id]? = some (some b) → b.own = true → (m.rho id).1 ≠ k) ∧
      ∀ (id : Nat) (b : Box) (r : Row), σ.boxes[id]? = some (some b) → b.row = some r → r.own = true → (m.sv id).ownBlock ≠ some k)
    {r : Row} {v : Value} (hx : r.x.wf σ.nv m.env) (hx0 : r.x0.wf σ.nv m.env) (hlen : (dec (r.x0.ev m.env)).length = (dec (r.x.ev m.env)).length) (hat : RowAt w0 w' r v (dec (r.x.ev m.env)))
    (hv : ∀ g, r.own = true → v.ownBlock = some g → row = some g ∨ w.heap.size ≤ g) :
    Rep w0 (m.row nid v) (σ.setBox nid (rowBox r)) a w' ∧ MExt m σ.nv σ.al (m.row nid v) σ.nv (σ.setBox nid (rowBox r)).al := by
  have hnl : nid < σ.boxes.length := (List.getElem?_eq_some_iff.1 hn).1
  have hne : ∀ {id}, σ.al id = true → id ≠ nid := fun {id} hid e => by
    obtain ⟨b, hb⟩ := al_iff.1 hid; rw [e, hn] at hb; cases hb
  have hx' : MExt m σ.nv σ.al (m.row nid v) σ.nv (σ.setBox nid (rowBox r)).al := by
    refine ⟨fun _ _ => rfl, fun _ _ => rfl, rfl, fun id hid => ?_, Nat.le_refl _, fun id hid => ?_⟩
    · simp [M.row, hne hid]
    · rw [al_setBox]; split
      · rfl
      · exact hid
  refine ⟨?_, hx'⟩
  have oldb : ∀ {id : Nat} {bx : Box}, (σ.setBox nid (rowBox r)).boxes[id]? = some (some bx) → id ≠ nid → σ.boxes[id]? = some (some bx) := by
    intro id bx hi hne
    simpa [St.setBox, List.getElem?_set_ne (Ne.symm hne)] using hi
  have newb : ∀ {bx : Box}, (σ.setBox nid (rowBox r)).boxes[nid]? = some (some bx) → bx = rowBox r := by
    intro bx hi
    simp [St.setBox, hnl] at hi
    exact hi.symm
  have hbel : Below w0.heap.size w w' := ⟨hgrow.os, hgrow.tape, hgrow.output, hgrow.size, fun k hk => hgrow.block k (Nat.lt_of_lt_of_le hk h.below.size) fun e => by have := (hfar k e.symm).1; omega⟩
  have svo : ∀ {id}, id ≠ nid → (m.row nid v).sv id = m.sv id := fun {id} hid => by simp [M.row, hid]
  have svn : (m.row nid v).sv nid = v := by simp [M.row]
  have own' : ∀ {id : Nat} {bx : Box}, (σ.setBox nid (rowBox r)).boxes[id]? = some (some bx) → bx.own = true → σ.boxes[id]? = some (some bx) := by
    intro id bx hi ho
    by_cases hin : id = nid
    · subst hin; have := newb hi; subst this; cases ho
    · exact oldb hi hin
  have far : ∀ g, r.own = true → v.ownBlock = some g → (∀ (id : Nat) (b : Box), σ.boxes[id]? = some (some b) → b.own = true → (m.rho id).1 ≠ g) ∧
      ∀ (id : Nat) (b : Box) (q : Row), σ.boxes[id]? = some (some b) → b.row = some q → q.own = true → (m.sv id).ownBlock ≠ some g := by
    intro g ho hg
    rcases hv g ho hg with h1 | h1
    · exact (hfar g h1).2
    · refine ⟨fun id b hb hbo => ?_, fun id b q hb hq hqo e => ?_⟩
      · have := h.lt_size hb hbo; omega
      · have := ((h.rows id b q hb hq).2.2.2.lt hqo e).2; omega
  refine ⟨h.defers, h.size, fun i s hi => ?_, h.below.trans hbel, fun id b hi ho => ?_, fun id b hi ho => ?_, fun id id' b b' hi hi' ho ho' hd => ?_, h.kn, fun p hp => ?_, fun id b q hi hq => ?_, fun id b q hi hq ho id' b' hi' hbo => ?_, fun id b q id' b' q' hi hq hi' hq' ho ho' hd => ?_⟩
  · obtain ⟨u, hu, hs⟩ := h.tmp i s hi; exact ⟨u, hu, SV.rel_mono hx' hs⟩
  · obtain ⟨h1, h2, vs, h3, h4⟩ := h.own id b (own' hi ho) ho
    refine ⟨h1, h2, vs, ?_, h4.mono hx'⟩
    show w'.heap[(m.rho id).1]? = _
    rw [hgrow.block _ (h.lt_size (own' hi ho) ho) fun e => (hfar _ e.symm).2.1 id b (own' hi ho) ho rfl]
    exact h3
  · by_cases hin : id = nid
    · subst hin; have := newb hi; subst this; exact .inl rfl
    · rcases h.ro id b (oldb hi hin) ho with h0 | ⟨h1, h2⟩
      · exact .inl h0
      · refine .inr ⟨h1, fun j c hj => ?_⟩
        obtain ⟨u, h3, h4⟩ := h2 j c hj
        exact ⟨u, by show w'.cell? (m.at id j) = _; rw [hbel.cell (p := m.at id j) h1]; exact h3, C.rel_mono hx' h4⟩
  · exact h.inj id id' b b' (own' hi ho) (own' hi' ho') ho ho' hd
  · have h1 := h.gl p hp
    exact ⟨hx'.al _ h1.1, h1.2⟩
  · by_cases hin : id = nid
    · subst hin
      have := newb hi; subst this
      simp only [rowBox, Option.some.injEq] at hq
      subst hq
      exact ⟨hx, hx0, hlen, by rw [svn]; exact hat⟩
    · obtain ⟨r1, r2, r3, r4⟩ := h.rows id b q (oldb hi hin) hq
      refine ⟨r1, r2, r3, ?_⟩
      rw [svo hin]
      exact r4.turn (fun g ho hg => hgrow.block _ (r4.lt ho hg).2 fun e => (hfar _ e.symm).2.2 id b q (oldb hi hin) hq ho hg) fun p hp => hbel.cell hp
  · by_cases hin : id = nid
    · subst hin
      have := newb hi; subst this
      simp only [rowBox, Option.some.injEq] at hq
      subst hq
      rw [svn]
      intro e
      exact (far _ ho e).1 id' b' (own' hi' hbo) hbo rfl
    · rw [svo hin]
      exact h.rbox id b q (oldb hi hin) hq ho id' b' (own' hi' hbo) hbo
  · by_cases hin : id = nid
    · have hin' : id' ≠ nid := fun e => hd (hin.trans e.symm)
      subst hin
      have := newb hi; subst this
      simp only [rowBox, Option.some.injEq] at hq
      subst hq
      rw [svn, svo hin']
      cases hvb : v.ownBlock with
      | none => exact .inl rfl
      | some g => exact .inr ((far g ho hvb).2 id' b' q' (oldb hi' hin') hq' ho')
    · by_cases hin' : id' = nid
      · subst hin'
        have := newb hi'; subst this
        simp only [rowBox, Option.some.injEq] at hq'
        subst hq'
        rw [svn, svo hin]
        cases hsb : (m.sv id).ownBlock with
        | none => exact .inl rfl
        | some g => exact .inr fun e => (far g ho' e).2 id b q (oldb hi hin) hq ho hsb
      · rw [svo hin, svo hin']
        exact h.rsep id b q id' b' q' (oldb hi hin) hq (oldb hi' hin') hq' ho ho' hd
theorem below_grown {w w' : World} (h : Below w.heap.size w w') : w.grownBy w' none := ⟨h.os, h.tape, h.output, h.size, fun k hk _ => h.block k hk⟩
/-- a new row in new memory -/
theorem Rep.newRow (h : Rep w0 m σ a w) {nid : Nat} (hn : σ.boxes[nid]? = some none) (hb : Below w.heap.size w w')
    {r : Row} {v : Value} (hx : r.x.wf σ.nv m.env) (hx0 : r.x0.wf σ.nv m.env) (hlen : (dec (r.x0.ev m.env)).length = (dec (r.x.ev m.env)).length) (hat : RowAt w0 w' r v (dec (r.x.ev m.env)))
    (hv : ∀ g, r.own = true → v.ownBlock = some g → w.heap.size ≤ g) :
    Rep w0 (m.row nid v) (σ.setBox nid (rowBox r)) a w' ∧ MExt m σ.nv σ.al (m.row nid v) σ.nv (σ.setBox nid (rowBox r)).al :=
  h.rowIn hn (below_grown hb) (fun k e => by cases e) hx hx0 hlen hat fun g ho hg => .inr (hv g ho hg)
end
end Go.Sx

/- The engine Sx, part H: what the operations do: memory, places, numbers. -/
namespace Go.Sx
open Go Go.RowKit

/-! ### types -/
section
variable {P : Program} {w : World}
theorem run_isAgg {t : TypeId} {d : TypeDesc} (h : P.underlying t = some d) : (isAgg t).run P w = .ok (isAggB d) w := by
  cases d <;> simp [isAgg, run_underlying h, isAggB]
theorem run_typeInfo {t : TypeId} {i : TypeInfo} (h : P.info? t = some i) : (typeInfo t).run P w = .ok i w := by simp [typeInfo, h]
theorem run_sizeOf {t : TypeId} {n : Nat} (h : szOf P t = some n) : (sizeOf t).run P w = .ok n w := by
  unfold szOf at h
  cases hi : P.info? t with
  | none => simp [hi] at h
  | some i => simp [hi] at h; simp [sizeOf, run_typeInfo hi, h]
theorem run_zeroValue {t : TypeId} {i : TypeInfo} {z : Value} (h : P.info? t = some i) (hz : i.zero = some z) : (zeroValue t).run P w = .ok z w := by
  simp [zeroValue, run_typeInfo h, hz]
theorem run_loadVar_agg {t : TypeId} {d : TypeDesc} (h : P.underlying t = some d) (ha : isAggB d = true) {ad : Addr} {vs : List Value} (hs : szOf P t = some vs.length)
    (hc : ∀ (j : Nat) v, vs[j]? = some v → w.cell? (ad.add j) = some v) : (loadVar t ad).run P w = .ok (.agg vs.toArray) w := by
  simp [loadVar, run_isAgg h, ha, run_sizeOf hs, run_loadCells_list w ad vs hc]
theorem run_loadVar_one {t : TypeId} {d : TypeDesc} (h : P.underlying t = some d) (ha : isAggB d = false) {ad : Addr} {v : Value} (hc : w.cell? ad = some v) :
    (loadVar t ad).run P w = .ok v w := by
  simp [loadVar, run_isAgg h, ha, hc]
end

section
variable {P : Program} {T : List K} {w0 : World} {m : M} {σ : St} {a : Act} {w : World}
theorem at_add (m : M) (id off j : Nat) : (m.at id off).add j = m.at id (off + j) := by
  unfold Addr.add M.at
  split
  · rename_i h; subst h; rfl
  · simp [Nat.add_assoc]
theorem Rep.read (h : Rep w0 m σ a w) {id : Nat} {b : Box} (hb : σ.box id = some b) : ∀ (j : Nat) (c : C), b.cells[j]? = some c → ∃ v, w.cell? (m.at id j) = some v ∧ c.rel m σ.nv σ.al v := by
  intro j c hj
  have hb' : σ.boxes[id]? = some (some b) := by
    rw [St.box_def] at hb
    split at hb
    · cases hb; assumption
    · cases hb
  cases ho : b.own with
  | true =>
    obtain ⟨hz, _, vs, hv, hr⟩ := h.own id b hb' ho
    obtain ⟨v, h1, h2⟩ := hr.get j c hj
    exact ⟨v, by simp [World.cell?, M.at, hv, hz, h1], h2⟩
  | false =>
    rcases h.ro id b hb' ho with h0 | ⟨_, h2⟩
    · rw [h0] at hj; simp at hj
    · exact h2 j c hj
theorem box_some {id : Nat} {b : Box} (hb : σ.box id = some b) : σ.boxes[id]? = some (some b) := by
  rw [St.box_def] at hb
  split at hb
  · cases hb; assumption
  · cases hb
theorem row_box {id : Nat} {r : Row} (hr : σ.row id = some r) : ∃ b, σ.boxes[id]? = some (some b) ∧ b.row = some r := by
  unfold St.row at hr
  split at hr
  · exact ⟨_, box_some ‹_›, hr⟩
  · cases hr
theorem Rep.row_ok (h : Rep w0 m σ a w) {id : Nat} {r : Row} (hr : σ.row id = some r) : σ.al id = true ∧ r.x.wf σ.nv m.env ∧ r.x0.wf σ.nv m.env ∧ (dec (r.x0.ev m.env)).length = (dec (r.x.ev m.env)).length ∧ RowAt w0 w r (m.sv id) (dec (r.x.ev m.env)) := by
  obtain ⟨b, h1, h2⟩ := row_box hr
  exact ⟨al_iff.2 ⟨b, h1⟩, h.rows id b r h1 h2⟩
theorem RowAt.form {r : Row} {v : Value} {l : List Int} (h : RowAt w0 w r v l) : (v = .slice none 0 0 ∧ l = []) ∨ ∃ ad cap, v = .slice (some ad) l.length cap ∧ l.length ≤ cap := by
  have h3 := h.2.1
  split at h3
  · rcases h3.2 with ⟨hv, hn⟩ | ⟨g, cap, cur, hv, _, _, hc, _⟩
    · exact .inl ⟨hv, List.eq_nil_of_length_eq_zero hn⟩
    · exact .inr ⟨_, cap, hv, hc⟩
  · rcases h3 with ⟨hv, hn⟩ | ⟨ad, cap, hv, _, hc, _⟩
    · exact .inl ⟨hv, hn⟩
    · exact .inr ⟨_, cap, hv, hc⟩
theorem RowAt.len {r : Row} {v : Value} {l : List Int} (h : RowAt w0 w r v l) : ∃ b cap, v = .slice b l.length cap := by
  rcases h.form with ⟨hv, hl⟩ | ⟨ad, cap, hv, _⟩
  · exact ⟨none, 0, by rw [hv, hl]; rfl⟩
  · exact ⟨_, cap, hv⟩
theorem RowAt.lenV {r : Row} {v : Value} {l : List Int} (h : RowAt w0 w r v l) : lenV v = l.length := by
  obtain ⟨b, cap, hv⟩ := h.len
  rw [hv]; rfl
theorem RowAt.one {r : Row} {v : Value} {l : List Int} (h : RowAt w0 w r v l) : v.oneCell' = true := by
  obtain ⟨b, cap, hv⟩ := h.len
  rw [hv]; rfl
theorem RowAt.here {r : Row} {v : Value} {l : List Int} (h : RowAt w0 w r v l) (hl : 0 < l.length) : ∃ ad cap, v = .slice (some ad) l.length cap := by
  rcases h.form with ⟨_, hn⟩ | ⟨ad, cap, hv, _⟩
  · subst hn; simp at hl
  · exact ⟨ad, cap, hv⟩
theorem add_zero_ (ad : Addr) : ad.add 0 = ad := by
  unfold Addr.add
  split <;> simp_all
theorem subV_zero (s : Nat) (b : Option Addr) (n c h : Nat) : subV s (.slice b n c) 0 h = .slice b h c := by
  cases b with
  | none => simp [subV]
  | some ad => simp [subV, add_zero_]
theorem addr0 (g j : Nat) : (⟨g, 0, none⟩ : Addr).add j = ⟨g, j, none⟩ := by
  unfold Addr.add; split <;> simp_all
/-- any row may be lent -/
theorem RowAt.ro {r : Row} {v : Value} {l : List Int} (h : RowAt w0 w r v l) (hs : w0.heap.size ≤ w.heap.size) : RoRow w w r.k v l := by
  have h3 := h.2.1
  split at h3
  · rcases h3.2 with ⟨hv, hn⟩ | ⟨g, cap, cur, hv, hb, hg, hc1, hc2, hc3, hc4⟩
    · exact .inl ⟨hv, by cases l with | nil => rfl | cons x l => simp at hn⟩
    · refine .inr ⟨⟨g, 0, none⟩, cap, hv, (Array.getElem?_eq_some_iff.1 hg).1, hc1, fun j u hj => ?_⟩
      rw [addr0]
      rw [← hc4, List.getElem?_take] at hj
      split at hj
      · simp only [World.cell?, hg]
        simpa using hj
      · cases hj
  · rcases h3 with h3 | ⟨ad, cap, k1, k2, k3, k4⟩
    · exact .inl h3
    · exact .inr ⟨ad, cap, k1, Nat.lt_of_lt_of_le k2 hs, k3, k4⟩
theorem LL.vals_len (l : LL) (x : Int) : (l.vals x).length = l.sz := by cases l <;> rfl
theorem llVals_len : ∀ (ls : List LL) (xs : List Int), (llVals ls xs).length = llSz ls
  | [], _ => rfl
  | l :: ls, xs => by simp only [llVals, llSz, List.length_append, LL.vals_len, llVals_len ls]
theorem vals_len (k : LK) (x : Int) : (k.vals x).length = k.sz := by
  cases k with
  | num => rfl
  | int k => rfl
  | tup l ls => exact llVals_len (l :: ls) _
theorem flat_len (k : LK) : ∀ (l : List Int), (flat k l).length = l.length * k.sz
  | [] => by simp [flat]
  | x :: l => by
    have := flat_len k l
    simp only [flat] at this
    simp only [flat, List.flatMap_cons, List.length_append, vals_len, this, List.length_cons, Nat.add_mul, Nat.one_mul]
    omega
theorem flat_get (k : LK) : ∀ (l : List Int) (i : Nat) (hi : i < l.length) (j : Nat), j < k.sz → (flat k l)[i * k.sz + j]? = (k.vals (l.getD i 0))[j]?
  | x :: l, 0, _, j, hj => by
    simp only [flat, List.flatMap_cons, Nat.zero_mul, Nat.zero_add]
    rw [List.getElem?_append_left (by rw [vals_len]; exact hj)]
    simp
  | x :: l, i + 1, hi, j, hj => by
    have := flat_get k l i (by simpa using hi) j hj
    simp only [flat] at this
    simp only [flat, List.flatMap_cons]
    rw [List.getElem?_append_right (by rw [vals_len, Nat.add_mul]; omega), vals_len]
    rw [show (i + 1) * k.sz + j - k.sz = i * k.sz + j by rw [Nat.add_mul]; omega, this]
    simp
theorem add_add (ad : Addr) (x y : Nat) : (ad.add x).add y = ad.add (x + y) := by
  unfold Addr.add
  repeat' split
  all_goals simp_all [Nat.add_assoc]
theorem flat_take (k : LK) : ∀ (l : List Int) (n : Nat), flat k (l.take n) = (flat k l).take (n * k.sz)
  | [], n => by simp [flat]
  | x :: l, 0 => by simp [flat]
  | x :: l, n + 1 => by
    have := flat_take k l n
    simp only [flat] at this
    simp only [flat, List.take_succ_cons, List.flatMap_cons, this]
    rw [List.take_append, List.take_of_length_le (l := k.vals x) (by rw [vals_len, Nat.add_mul]; omega), vals_len]
    congr 2
    rw [Nat.add_mul]; omega
theorem flat_drop (k : LK) : ∀ (l : List Int) (n : Nat), flat k (l.drop n) = (flat k l).drop (n * k.sz)
  | [], n => by simp [flat]
  | x :: l, 0 => by simp [flat]
  | x :: l, n + 1 => by
    have := flat_drop k l n
    simp only [flat] at this
    simp only [flat, List.drop_succ_cons, List.flatMap_cons, this]
    rw [List.drop_append, List.drop_of_length_le (l := k.vals x) (by rw [vals_len, Nat.add_mul]; omega), vals_len, List.nil_append]
    congr 1
    rw [Nat.add_mul]; omega
/-- a part of a lent list is lent too -/
theorem RoRow.part {k : LK} {v : Value} {l : List Int} (h : RoRow w0 w k v l) {lo hi : Nat} (h1 : lo ≤ hi) (h2 : hi ≤ l.length) : RoRow w0 w k (subV k.sz v lo hi) ((l.take hi).drop lo) := by
  rcases h with ⟨hv, hl⟩ | ⟨ad, cap, hv, hb, hc, hcell⟩
  · subst hl
    have e1 : hi = 0 := by simpa using h2
    have e2 : lo = 0 := by omega
    subst e1 e2
    exact .inl ⟨by rw [hv]; rfl, by simp⟩
  · refine .inr ⟨if cap = lo then ad else ad.add (lo * k.sz), cap - lo, ?_, ?_, ?_, fun j u hj => ?_⟩
    · rw [hv]
      simp only [subV, List.length_drop, List.length_take, Nat.min_eq_left h2, Option.map_some]
      split <;> rfl
    · split
      · exact hb
      · rw [add_block]; exact hb
    · simp only [List.length_drop, List.length_take, Nat.min_eq_left h2]; omega
    · rw [flat_drop, flat_take, List.getElem?_drop, List.getElem?_take] at hj
      split at hj
      · have hne : ¬ cap = lo := by
          intro e
          have h3 : lo * k.sz + j < hi * k.sz := ‹_›
          have : hi = lo := by omega
          rw [this] at h3; omega
        rw [if_neg hne, add_add]
        exact hcell _ _ hj
      · cases hj
theorem sub_one {s : Nat} {v : Value} {lo hi : Nat} (h : v.oneCell' = true) : (subV s v lo hi).oneCell' = true := by
  unfold subV; split
  · rfl
  · exact h
theorem RowAt.cell {r : Row} {v : Value} {l : List Int} (h : RowAt w0 w r v l) {i j : Nat} {u : Value} (hi : i < l.length) (hj : (r.k.vals (l.getD i 0))[j]? = some u) : w.cell? (((slAt v).add (i * r.k.sz)).add j) = some u := by
  have hjl : j < r.k.sz := by rw [← vals_len r.k (l.getD i 0)]; exact (List.getElem?_eq_some_iff.1 hj).1
  have hf := flat_get r.k l i hi j hjl
  rw [hj] at hf
  rw [add_add]
  have h3 := h.2.1
  split at h3
  · rcases h3.2 with ⟨hv, hn⟩ | ⟨g, cap, cur, hv, hb, hg, hc1, hc2, hc3, hc4⟩
    · omega
    · rw [hv]
      have hz : (cur.toList.take (l.length * r.k.sz))[i * r.k.sz + j]? = some u := by rw [hc4]; exact hf
      rw [List.getElem?_take] at hz
      split at hz
      · simp only [slAt]
        have : (⟨g, 0, none⟩ : Addr).add (i * r.k.sz + j) = ⟨g, i * r.k.sz + j, none⟩ := by
          unfold Addr.add; split <;> simp_all
        rw [this]
        simp only [World.cell?, hg]
        simpa using hz
      · cases hz
  · rcases h3 with ⟨hv, hn⟩ | ⟨ad, cap, hv, _, _, hc⟩
    · subst hn; simp at hi
    · rw [hv]; exact hc _ _ hf
/-- a row of cells read in a box -/
theorem Rep.reads (h : Rep w0 m σ a w) {id : Nat} {b : Box} (hb : σ.box id = some b) (off n : Nat) (hn : n ≤ (b.cells.drop off).length) :
    ∃ vs : List Value, vs.length = n ∧ Rels m σ.nv σ.al ((b.cells.drop off).take n) vs ∧ ∀ (j : Nat) v, vs[j]? = some v → w.cell? ((m.at id off).add j) = some v := by
  have key : ∀ n, n ≤ (b.cells.drop off).length → ∃ vs : List Value, vs.length = n ∧ Rels m σ.nv σ.al ((b.cells.drop off).take n) vs ∧ ∀ (j : Nat) v, vs[j]? = some v → w.cell? ((m.at id off).add j) = some v := by
    intro n
    induction n with
    | zero => intro _; exact ⟨[], rfl, by simp [Rels], by simp⟩
    | succ n ih =>
      intro hn
      obtain ⟨vs, hl, hr, hv⟩ := ih (by omega)
      have hlt : n < (b.cells.drop off).length := by omega
      have hg : b.cells[off + n]? = some ((b.cells.drop off)[n]) := by
        have := List.getElem?_eq_getElem hlt
        rw [List.getElem?_drop] at this
        exact this
      obtain ⟨v, h1, h2⟩ := h.read hb _ _ hg
      refine ⟨vs ++ [v], by simp [hl], ?_, ?_⟩
      · rw [List.take_succ_eq_append_getElem hlt]
        exact hr.append ⟨h2, trivial⟩
      · intro j u hj
        by_cases hjn : j < vs.length
        · rw [List.getElem?_append_left hjn] at hj; exact hv j u hj
        · rw [List.getElem?_append_right (by omega)] at hj
          have : j = n := by
            by_cases h0 : j - vs.length = 0
            · omega
            · rw [List.getElem?_eq_none (by simp; omega)] at hj; cases hj
          subst this
          have h0 : j - vs.length = 0 := by omega
          simp [h0] at hj
          subst hj
          rw [at_add]; exact h1
  exact key n hn

/-! ### names -/
def DefsOk (T : List K) (e : Nat → Int) (nv nn : Nat) (ds : Defs) : Prop :=
  nn + ds.length ≤ nv ∧ ∀ (i : Nat) kk d, ds[i]? = some (kk, d) → e (nn + i) = d.ev T e ∧ kk.has (e (nn + i))
theorem litD_ev {d : D} {n : Int} (h : litD d = some n) (e : Nat → Int) : d.ev T e = n := by
  unfold litD at h
  split at h
  · cases h; rfl
  · cases h; rfl
  · cases h; rfl
  · cases h; rfl
  · rename_i l
    split at h
    · rename_i bs hb
      cases h
      have : ∀ (l : List (A × A)) (bs : List Bool), mapO (fun p : A × A => match p with | (.lit a, .lit b) => some (a == b) | _ => none) l = some bs → (l.all fun p => p.1.ev e == p.2.ev e) = bs.all id := by
        intro l
        induction l with
        | nil => intro bs h; simp [mapO] at h; subst h; rfl
        | cons p l ih =>
          intro bs h
          unfold mapO at h
          split at h
          · cases h
          · rename_i y hy
            split at h
            · cases h
            · rename_i ys hys
              cases h
              simp only [List.all_cons, ih ys hys]
              congr 1
              split at hy
              · cases hy; rfl
              · cases hy
      simp only [D.ev, this l bs hb]
    · cases h
  · cases h
theorem mk_ok {e : Nat → Int} {nv nn : Nat} {kk : KK} {d : D} (h : DefsOk T e nv nn (mk nn kk d).1) : (mk nn kk d).2.wf nv e ∧ (mk nn kk d).2.ev e = d.ev T e := by
  unfold mk at *
  cases hl : litD d with
  | some n => exact ⟨⟨trivial, trivial⟩, (litD_ev hl e).symm⟩
  | none =>
    simp only [hl] at h
    have h1 := h.2 0 kk d rfl
    refine ⟨⟨?_, trivial⟩, h1.1⟩
    have := h.1
    simp only [List.length_cons, List.length_nil] at this
    show nn < nv
    omega

/-! ### arithmetic -/
theorem emod_bd (a b : Int) (h : 0 ≤ a) : 0 ≤ a % b ∧ a % b ≤ a := by
  rcases Int.lt_trichotomy b 0 with h2 | h2 | h2
  · have h3 := Int.emod_nonneg a (show b ≠ 0 by omega)
    have h4 := Int.emod_def a (-b)
    have h5 : 0 ≤ (-b) * (a / (-b)) := Int.mul_nonneg (by omega) (Int.ediv_nonneg h (by omega))
    rw [Int.emod_neg] at h4
    omega
  · subst h2; simp [h]
  · have h3 := Int.emod_nonneg a (show b ≠ 0 by omega)
    have h4 := Int.emod_def a b
    have h5 : 0 ≤ b * (a / b) := Int.mul_nonneg (by omega) (Int.ediv_nonneg h (by omega))
    omega
theorem binE_has {op : BinOp} {k : IntKind} {a b : Int} (ha : has k a) : has k (binE op k a b) := by
  cases op <;> simp only [binE] <;> first | exact wr_has _ _ | skip
  case rem =>
    have h1 : a.tmod b ≤ (if 0 ≤ a then a else 0) ∧ (if 0 ≤ a then 0 else a) ≤ a.tmod b := by
      split
      · rename_i h
        rw [Int.tmod_eq_emod_of_nonneg h]
        have := emod_bd a b h
        omega
      · rename_i h
        have h3 := Int.neg_tmod (a := -a) (b := b)
        rw [Int.neg_neg] at h3
        rw [h3, Int.tmod_eq_emod_of_nonneg (by omega)]
        have := emod_bd (-a) b (by omega)
        omega
    obtain ⟨h1, h2⟩ := h1
    have h0 : lo k ≤ 0 ∧ 0 ≤ hi k := by cases k <;> simp [lo, hi]
    simp only [has] at *
    split at h1 <;> split at h2 <;> omega
  case shr =>
    have hp : 0 < ((2 ^ min b.toNat k.bits : Nat) : Int) := by exact_mod_cast Nat.two_pow_pos _
    rw [Int.fdiv_eq_ediv_of_nonneg _ (Int.le_of_lt hp)]
    have h0 : lo k ≤ 0 ∧ 0 ≤ hi k := by cases k <;> simp [lo, hi]
    rcases Int.lt_or_le a 0 with h | h
    · have h1 : a ≤ a / ((2 ^ min b.toNat k.bits : Nat) : Int) := by
        rw [Int.le_ediv_iff_mul_le hp]
        have : a * ((2 ^ min b.toNat k.bits : Nat) : Int) ≤ a * 1 := Int.mul_le_mul_of_nonpos_left (by omega) (by omega)
        omega
      have h2 := Int.ediv_neg_of_neg_of_pos h hp
      simp only [has] at *; omega
    · have h1 := Int.ediv_nonneg h (Int.le_of_lt hp)
      have h2 := Int.ediv_le_self ((2 ^ min b.toNat k.bits : Nat) : Int) h
      simp only [has] at *; omega
  all_goals (cases k <;> simp [has, lo, hi])
end
end Go.Sx

/- The engine Sx, part I: operations that leave the world alone. -/
namespace Go.Sx
open Go Go.RowKit

/-- the operation hands back a value that the plan tells, and leaves the world alone -/
def PureOk (P : Program) (m : M) (σ : St) (a : Act) (w : World) (o : Oper) (s : SV) : Prop :=
  ∃ v, (execOp a.eval o).run P w = .ok (.value v) w ∧ s.rel m σ.nv σ.al v

section
variable {P : Program} {T : List K} {w0 : World} {m : M} {σ : St} {a : Act} {w : World} {o : Oper} {nn nid : Nat} {p : Plan}

theorem pure_move {x : Operand} (h : Rep w0 m σ a w) (ho : o.op = .move x ∨ o.op = .assign x) (hp : plan P T σ nn nid o.op = .ok p) : PureOk P m σ a w o p.val := by
  rcases ho with ho | ho <;> rw [ho] at hp <;> simp only [plan] at hp <;> split at hp <;> cases hp <;> rename_i s hs <;>
    exact ⟨a.eval x, by simp [execOp, ho], h.val hs⟩
theorem pure_pick {c x y : Operand} (h : Rep w0 m σ a w) (ho : o.op = .pick c x y) (hp : plan P T σ nn nid o.op = .ok p) : PureOk P m σ a w o p.val := by
  rw [ho] at hp
  simp only [plan] at hp
  split at hp
  · rename_i t ht
    have h1 := h.cell ht
    split at hp
    · rename_i hr
      have h2 := h.truth.1 hr
      have hb : a.eval c = .bool true := by rw [h1.2.2]; simp [h2]
      split at hp
      · rename_i s hs
        cases hp
        exact ⟨a.eval x, by simp [execOp, ho, hb, asBool], h.val hs⟩
      · cases hp
    · rename_i hr
      have h2 := h.truth.2 hr
      have hb : a.eval c = .bool false := by rw [h1.2.2]; simp [h2]
      split at hp
      · rename_i s hs
        cases hp
        exact ⟨a.eval y, by simp [execOp, ho, hb, asBool], h.val hs⟩
      · cases hp
    · cases hp
    · cases hp
  · cases hp
theorem kind_ok {a b : IntKind} (h : (a == b) = true) : a = b := by
  cases a <;> cases b <;> first | rfl | cases h
theorem eqA_ok {a b : A} (h : eqA a b = true) : a = b := by
  cases a <;> cases b <;> simp [eqA] at h <;> simp [h]
theorem LLeq_ok {a b : LL} (h : a.eq b = true) : a = b := by
  cases a <;> cases b <;> first | rfl | (cases h; done) | (simp only [LL.eq] at h; rw [kind_ok h])
theorem llEq_ok : ∀ {as bs : List LL}, llEq as bs = true → as = bs
  | [], [], _ => rfl
  | [], _ :: _, h => by cases h
  | _ :: _, [], h => by cases h
  | a :: as, b :: bs, h => by
    simp only [llEq, Bool.and_eq_true] at h
    rw [LLeq_ok h.1, llEq_ok h.2]
theorem LKeq_ok {a b : LK} (h : a.eq b = true) : a = b := by
  cases a <;> cases b <;> first | rfl | (cases h; done) | (simp only [LK.eq] at h; rw [kind_ok h]) | (simp only [LK.eq, Bool.and_eq_true] at h; rw [LLeq_ok h.1, llEq_ok h.2])
theorem limb_rels {m : M} {nv nn : Nat} {al : Nat → Bool} {x : Int} (hx : m.env nn = x) (h0 : 0 ≤ x) (h1 : x < N384) (hn : nn < nv) :
    Rels m nv al [C.int .u64 (.limb nn 0), .int .u64 (.limb nn 1), .int .u64 (.limb nn 2), .int .u64 (.limb nn 3), .int .u64 (.limb nn 4), .int .u64 (.limb nn 5)] (limbs x) := by
  have one : ∀ j, C.rel m nv al (.int .u64 (.limb nn j)) (.int .u64 (x / p64 j % 18446744073709551616)) := fun j => by
    refine ⟨⟨hn, by show 0 ≤ m.env nn ∧ m.env nn < N384; rw [hx]; exact ⟨h0, h1⟩⟩, ?_, ?_⟩
    · simp only [A.ev, has, lo, hi]; omega
    · simp only [A.ev, hx]
  exact ⟨one 0, one 1, one 2, one 3, one 4, one 5, trivial⟩
theorem intA_ok {k : IntKind} : ∀ (cs : List C) (as : List A), mapO (intA k) cs = some as → cs = as.map (.int k)
  | [], as, h => by simp [mapO] at h; subst h; rfl
  | c :: cs, as, h => by
    unfold mapO at h
    split at h
    · cases h
    · rename_i y hy
      split at h
      · cases h
      · rename_i ys hys
        cases h
        unfold intA at hy
        split at hy
        · split at hy
          · rename_i k' a hk
            cases hy
            rw [List.map_cons, ← intA_ok cs ys hys]
            congr 2
            cases k <;> cases k' <;> first | rfl | (exact absurd hk (by decide))
          · cases hy
        · cases hy
theorem intsOf_ok {cs : List C} {r : IntKind × List A} (h : intsOf cs = some r) : cs = r.2.map (.int r.1) := by
  unfold intsOf at h
  split at h
  · rename_i k x r'
    cases hm : mapO (intA k) (C.int k x :: r') with
    | none => rw [hm] at h; cases h
    | some as => rw [hm] at h; cases h; exact intA_ok _ _ hm
  · cases h
/-- a place inside, by its number -/
theorem sel_ok {k : IntKind} {as : List A} {nv : Nat} {al : Nat → Bool} {vs : List Value} {m : M} (h : Rels m nv al (as.map (.int k)) vs) {i : Nat} (hi : i < as.length) :
    has k ((as.map (·.ev m.env)).getD i 0) ∧ vs[i]? = some (.int k ((as.map (·.ev m.env)).getD i 0)) := by
  obtain ⟨v, h1, h2⟩ := h.get i (.int k as[i]) (by simp [hi])
  have : (as.map (·.ev m.env)).getD i 0 = as[i].ev m.env := by simp [List.getD_eq_getElem?_getD, hi]
  rw [this, h1, h2.2.2]
  exact ⟨h2.2.1, rfl⟩
theorem range_ok {m : M} {nv nn len : Nat} {a : A} {ds : Defs} (hd : DefsOk T m.env nv nn (inRange a len ++ ds)) (hz : ∀ x ∈ [A.var nn, A.var (nn + 1)], x.ev m.env ≠ 0) : 0 ≤ a.ev m.env ∧ a.ev m.env < (len : Int) := by
  have h0 : m.env nn = b2i (decide (0 ≤ a.ev m.env)) := (hd.2 0 _ _ rfl).1
  have h1 : m.env (nn + 1) = b2i (decide (a.ev m.env < (len : Int))) := (hd.2 1 _ _ rfl).1
  have z0 : m.env nn ≠ 0 := hz (.var nn) (by simp)
  have z1 : m.env (nn + 1) ≠ 0 := hz (.var (nn + 1)) (by simp)
  rw [h0] at z0
  rw [h1] at z1
  constructor
  · by_cases hc : 0 ≤ a.ev m.env
    · exact hc
    · simp [hc, b2i] at z0
  · by_cases hc : a.ev m.env < (len : Int)
    · exact hc
    · simp [hc, b2i] at z1
theorem tupDs_get (z : A) : ∀ (ls : List LL) (j i : Nat), (tupDs z j ls)[i]? = (ls[i]?).map fun l => (l.kk, .lget z (.lit ((j + i : Nat) : Int)))
  | [], j, i => by simp [tupDs]
  | l :: ls, j, 0 => by simp [tupDs]
  | l :: ls, j, i + 1 => by
    simp only [tupDs, List.getElem?_cons_succ]
    rw [tupDs_get z ls (j + 1) i, show j + 1 + i = j + (i + 1) by omega]
theorem tupDs_len (z : A) : ∀ (ls : List LL) (j : Nat), (tupDs z j ls).length = ls.length
  | [], _ => rfl
  | _ :: ls, j => by simp only [tupDs, List.length_cons, tupDs_len z ls (j + 1)]
theorem LL.rels {m : M} {nv : Nat} {al : Nat → Bool} (l : LL) {n : Nat} (hn : n < nv) (hk : l.kk.has (m.env n)) : Rels m nv al (l.cells n) (l.vals (m.env n)) := by
  cases l with
  | num => exact limb_rels rfl hk.1 hk.2 hn
  | int k => exact ⟨⟨⟨hn, trivial⟩, hk, rfl⟩, trivial⟩
  | bit => exact ⟨⟨⟨hn, trivial⟩, hk, rfl⟩, trivial⟩
theorem Rels_app {m : M} {nv : Nat} {al : Nat → Bool} : ∀ {cs : List C} {vs : List Value} {cs' : List C} {vs' : List Value}, Rels m nv al cs vs → Rels m nv al cs' vs' → Rels m nv al (cs ++ cs') (vs ++ vs')
  | [], [], _, _, _, h => h
  | [], _ :: _, _, _, h, _ => h.elim
  | _ :: _, [], _, _, h, _ => h.elim
  | _ :: _, _ :: _, _, _, h, h' => ⟨h.1, Rels_app h.2 h'⟩
theorem tup_rels {m : M} {nv : Nat} {al : Nat → Bool} {zs : List Int} : ∀ (ls : List LL) (n j : Nat), n + ls.length ≤ nv → (∀ (i : Nat) l, ls[i]? = some l → m.env (n + i) = zs.getD (j + i) 0 ∧ l.kk.has (m.env (n + i))) → Rels m nv al (tupCs n ls) (llVals ls (zs.drop j))
  | [], n, j, _, _ => trivial
  | l :: ls, n, j, hn, h => by
    have h0 := h 0 l rfl
    simp only [Nat.add_zero] at h0
    have e1 : (zs.drop j).headD 0 = m.env n := by
      rw [h0.1, List.getD_eq_getElem?_getD, List.headD_eq_head?_getD, List.head?_drop]
    have e2 : (zs.drop j).tail = zs.drop (j + 1) := by rw [List.tail_drop]
    simp only [tupCs, llVals, e1, e2]
    refine Rels_app (LL.rels l (by simp only [List.length_cons] at hn; omega) h0.2) (tup_rels ls (n + 1) (j + 1) (by simp only [List.length_cons] at hn; omega) fun i l' hl' => ?_)
    have := h (i + 1) l' (by simpa using hl')
    rw [show n + 1 + i = n + (i + 1) by omega, show j + 1 + i = j + (i + 1) by omega]
    exact this
theorem DefsOk.snd {m : M} {nv nn : Nat} {ds : Defs} {kk : KK} {d : D} {i : Nat} (hd : DefsOk T m.env nv nn ds) (hi : ds[i]? = some (kk, d)) : m.env (nn + i) = d.ev T m.env := (hd.2 i kk d hi).1
theorem pure_load {t : TypeId} {x : Operand} (h : Rep w0 m σ a w) (ho : o.op = .load t x) (hp : plan P T σ nn nid o.op = .ok p) (hD : DefsOk T m.env σ.nv nn p.defs) : PureOk P m σ a w o p.val := by
  rw [ho] at hp
  simp only [plan] at hp
  split at hp
  · rename_i id off hx
    have h1 := h.cell hx
    split at hp
    · rename_i b d n hb hd hn
      split at hp
      · rename_i ha
        split at hp
        · cases hp
        · rename_i hl
          cases hp
          obtain ⟨vs, hvl, hr, hv⟩ := h.reads hb off n (by omega)
          refine ⟨.agg vs.toArray, ?_, vs, rfl, hr⟩
          simp only [execOp, ho, h1.2, Instr.loadAt, Instr.sureAddr]
          simp [run_loadVar_agg hd ha (by rw [hn, hvl]) hv]
      · rename_i ha
        split at hp
        · rename_i c hc
          cases hp
          obtain ⟨v, hv, hr⟩ := h.read hb _ _ hc
          refine ⟨v, ?_, hr⟩
          simp only [execOp, ho, h1.2, Instr.loadAt, Instr.sureAddr]
          simp [run_loadVar_one hd (by simpa using ha) hv]
        · cases hp
    · cases hp
  · rename_i id off i n hx
    have h1 := h.cell hx
    obtain ⟨h1a, h1b, h1c, h1d⟩ := h1
    split at hp
    · rename_i b d hb hdt
      split at hp
      · cases hp
      · rename_i ha
        split at hp
        · rename_i r hr
          split at hp
          · rename_i hl
            cases hp
            have hcs := intsOf_ok hr
            have hl' : r.2.length = n := by simpa using hl
            have hen : n ≤ (b.cells.drop off).length := by
              have := congrArg List.length hcs
              rw [List.length_map, hl', List.length_take] at this
              omega
            obtain ⟨vs, hvl, hrel, hv⟩ := h.reads hb off n hen
            rw [hcs] at hrel
            have hi : (i.ev m.env).toNat < r.2.length := by omega
            obtain ⟨g1, g2⟩ := sel_ok hrel hi
            have he := DefsOk.snd (i := 0) hD rfl
            simp only [Nat.add_zero, D.ev] at he
            refine ⟨.int r.1 ((r.2.map (·.ev m.env)).getD (i.ev m.env).toNat 0), ?_, ⟨⟨?_, trivial⟩, ?_, ?_⟩⟩
            · have hc := hv _ _ g2
              rw [at_add] at hc
              simp only [execOp, ho, h1d, Instr.loadAt, Instr.sureAddr]
              simp [run_loadVar_one hdt (by simpa using ha) hc]
            · have := hD.1; simp only [A.ok, List.length_cons, List.length_nil] at *; omega
            · simp only [A.ev, he]; exact g1
            · simp only [A.ev, he]
          · cases hp
        · cases hp
    · cases hp
  · rename_i id i k hx
    obtain ⟨h1a, h1c, h1d, h1e⟩ := h.cell hx
    split at hp
    · rename_i r d n hr hdt hn
      split at hp
      · rename_i hc
        have e2 := LKeq_ok hc
        subst e2
        obtain ⟨q1, q2, _, _, q3⟩ := h.row_ok hr
        rw [q3.lenV] at h1d
        generalize hl : dec (A.ev m.env r.x) = l at h1d q3
        have hi : (i.ev m.env).toNat < l.length := by omega
        unfold loadRow at hp
        split at hp
        · rename_i hk
          split at hp
          · rename_i hb
            simp only [Bool.and_eq_true, beq_iff_eq] at hb
            cases hp
            have he := DefsOk.snd (i := 0) hD rfl
            simp only [Nat.add_zero, D.ev, hl] at he
            have hz : LK.num.has (l.getD (i.ev m.env).toNat 0) := by
              rw [← hk]
              refine q3.1.2 _ ?_
              rw [List.getD_eq_getElem?_getD, List.getElem?_eq_getElem hi]
              exact List.getElem_mem hi
            refine ⟨.agg (limbs (l.getD (i.ev m.env).toNat 0)).toArray, ?_, limbs (l.getD (i.ev m.env).toNat 0), rfl, limb_rels he hz.1 hz.2 ?_⟩
            · simp only [execOp, ho, h1e, Instr.loadAt, Instr.sureAddr]
              simp [run_loadVar_agg hdt hb.1 (vs := limbs (l.getD (i.ev m.env).toNat 0)) (by rw [hn, hb.2]; rfl) (fun j v hv => q3.cell hi (by rw [hk]; exact hv))]
            · have := hD.1; simp only [List.length_cons, List.length_nil] at this; omega
          · cases hp
        · rename_i kk hk
          split at hp
          · cases hp
          · rename_i hb
            cases hp
            have he := DefsOk.snd (i := 0) hD rfl
            simp only [Nat.add_zero, D.ev, hl] at he
            have hz : (LK.int kk).has (l.getD (i.ev m.env).toNat 0) := by
              rw [← hk]
              refine q3.1.2 _ ?_
              rw [List.getD_eq_getElem?_getD, List.getElem?_eq_getElem hi]
              exact List.getElem_mem hi
            have hc := q3.cell (i := (i.ev m.env).toNat) (j := 0) (u := .int kk (l.getD (i.ev m.env).toNat 0)) hi (by rw [hk]; rfl)
            rw [add_zero_] at hc
            refine ⟨.int kk (l.getD (i.ev m.env).toNat 0), ?_, ⟨⟨?_, trivial⟩, ?_, ?_⟩⟩
            · simp only [execOp, ho, h1e, Instr.loadAt, Instr.sureAddr]
              simp [run_loadVar_one hdt (by simpa using hb) hc]
            · have := hD.1; simp only [A.ok, List.length_cons, List.length_nil] at *; omega
            · simp only [A.ev, he]; exact hz
            · simp only [A.ev, he]
        · rename_i l0 ls hk
          split at hp
          · rename_i hb
            simp only [Bool.and_eq_true, beq_iff_eq] at hb
            cases hp
            have he := DefsOk.snd (i := 0) hD rfl
            simp only [Nat.add_zero, D.ev, hl] at he
            have hlen := hD.1
            simp only [List.length_cons, tupDs_len] at hlen
            refine ⟨.agg (llVals (l0 :: ls) (dec (l.getD (i.ev m.env).toNat 0))).toArray, ?_, llVals (l0 :: ls) (dec (l.getD (i.ev m.env).toNat 0)), rfl, ?_⟩
            · simp only [execOp, ho, h1e, Instr.loadAt, Instr.sureAddr]
              simp [run_loadVar_agg hdt hb.1 (vs := llVals (l0 :: ls) (dec (l.getD (i.ev m.env).toNat 0))) (by rw [hn, hb.2, llVals_len]; rfl) (fun j v hv => q3.cell hi (by rw [hk]; exact hv))]
            · have h0 := tup_rels (m := m) (nv := σ.nv) (al := σ.al) (zs := dec (l.getD (i.ev m.env).toNat 0)) (l0 :: ls) (nn + 1) 0 (by simp only [List.length_cons]; omega) fun i' l' hl' => by
                obtain ⟨g1, g2⟩ := hD.2 (i' + 1) l'.kk (.lget (.var nn) (.lit ((0 + i' : Nat) : Int))) (by rw [List.getElem?_cons_succ, tupDs_get, hl']; rfl)
                rw [show nn + (i' + 1) = nn + 1 + i' by omega] at g1 g2
                refine ⟨?_, g2⟩
                rw [g1]
                simp only [D.ev, A.ev, he]
                rw [Int.toNat_natCast]
              exact h0
          · cases hp
      · cases hp
    · cases hp
  · cases hp
theorem pure_nilCheck {x : Operand} (h : Rep w0 m σ a w) (ho : o.op = .nilCheck x) (hp : plan P T σ nn nid o.op = .ok p) : PureOk P m σ a w o p.val := by
  rw [ho] at hp
  simp only [plan] at hp
  split at hp
  · rename_i id off hx
    have h1 := h.cell hx
    cases hp
    exact ⟨_, by simp [execOp, ho, h1.2], h1.1, rfl⟩
  · cases hp
theorem pure_fieldAddr {t : TypeId} {x : Operand} {f : Nat} (h : Rep w0 m σ a w) (ho : o.op = .fieldAddr t x f) (hp : plan P T σ nn nid o.op = .ok p) : PureOk P m σ a w o p.val := by
  rw [ho] at hp
  simp only [plan] at hp
  split at hp
  · rename_i fs id off hu hx
    have h1 := h.cell hx
    split at hp
    · rename_i fd hf
      split at hp
      · rename_i n hn
        cases hp
        refine ⟨.pointer (some (m.at id (off + fd.offset))), ?_, h1.1, rfl⟩
        simp only [execOp, ho, h1.2, Instr.fieldAt]
        simp [run_underlying hu, hf, Instr.sureAddr, fieldPlace, run_sizeOf hn, at_add]
      · cases hp
    · cases hp
  · cases hp
theorem idx_int (h : Rep w0 m σ a w) {x : Operand} {n : Nat} (hi : idx σ x = some n) : ∃ k, a.eval x = .int k (n : Int) := by
  unfold idx at hi
  split at hi
  · rename_i k i hc
    split at hi
    · rename_i hz
      cases hi
      have h1 := h.cell hc
      exact ⟨k, by rw [h1.2.2]; simp only [A.ev]; rw [Int.toNat_of_nonneg hz]⟩
    · cases hi
  · cases hi
theorem pure_indexAddr {t : TypeId} {x i : Operand} (h : Rep w0 m σ a w) (ho : o.op = .indexAddr t x i) (hp : plan P T σ nn nid o.op = .ok p) (hd : DefsOk T m.env σ.nv nn p.defs) (hz : ∀ x ∈ p.nz, x.ev m.env ≠ 0) : PureOk P m σ a w o p.val := by
  rw [ho] at hp
  simp only [plan] at hp
  split at hp
  · rename_i len e id off n hu hx hi
    have h1 := h.cell hx
    obtain ⟨k, hk⟩ := idx_int h hi
    split at hp
    · rename_i s hs
      split at hp
      · rename_i hl
        cases hp
        refine ⟨.pointer (some (m.at id (off + n * s))), ?_, h1.1, rfl⟩
        simp only [execOp, ho, h1.2, hk, Instr.indexAt, asIntOf]
        simp [run_underlying hu, Instr.sureAddr, run_sizeOf hs, at_add, hl]
      · cases hp
    · cases hp
  · rename_i e id off len cap n hu hx hi
    have h1 := h.cell hx
    obtain ⟨k, hk⟩ := idx_int h hi
    split at hp
    · rename_i s hs
      split at hp
      · rename_i hl
        cases hp
        refine ⟨.pointer (some (m.at id (off + n * s))), ?_, h1.1, rfl⟩
        simp only [execOp, ho, h1.2, hk, Instr.indexAt, asIntOf]
        simp [run_underlying hu, run_sizeOf hs, at_add, hl]
      · cases hp
    · cases hp
  · rename_i len e id off hu hx hi
    have h1 := h.cell hx
    split at hp
    · rename_i k y hy hs
      cases hp
      have h2 := h.cell hy
      obtain ⟨r1, r2⟩ := range_ok (ds := []) hd hz
      obtain ⟨n, hn⟩ := Int.eq_ofNat_of_zero_le r1
      refine ⟨.pointer (some (m.at id (off + (y.ev m.env).toNat))), ?_, h1.1, h2.1, ⟨r1, r2⟩, rfl⟩
      have h3 : a.eval i = .int k (n : Int) := by rw [h2.2.2, hn]
      rw [hn] at r2 ⊢
      simp only [execOp, ho, h1.2, h3, Instr.indexAt, asIntOf]
      have : n < len := by omega
      simp [run_underlying hu, Instr.sureAddr, run_sizeOf hs, at_add, this]
    · cases hp
  · rename_i e id off len cap hu hx hi
    have h1 := h.cell hx
    split at hp
    · rename_i k y hy hs
      cases hp
      have h2 := h.cell hy
      obtain ⟨r1, r2⟩ := range_ok (ds := []) hd hz
      obtain ⟨n, hn⟩ := Int.eq_ofNat_of_zero_le r1
      refine ⟨.pointer (some (m.at id (off + (y.ev m.env).toNat))), ?_, h1.1, h2.1, ⟨r1, r2⟩, rfl⟩
      have h3 : a.eval i = .int k (n : Int) := by rw [h2.2.2, hn]
      rw [hn] at r2 ⊢
      simp only [execOp, ho, h1.2, h3, Instr.indexAt, asIntOf]
      have : n < len := by omega
      simp [run_underlying hu, run_sizeOf hs, at_add, this]
    · cases hp
  · rename_i e id hu hx
    have h1 := h.cell hx
    split at hp
    · rename_i r k y s hr hy hs
      split at hp
      · rename_i hsz
        have hsz : s = r.k.sz := by simpa using hsz
        subst hsz
        cases hp
        have h2 := h.cell hy
        obtain ⟨q1, q2, q5, q6, q3⟩ := h.row_ok hr
        generalize hl : dec (A.ev m.env r.x) = l at q3 q6
        have d0 : m.env nn = (l.length : Int) := by
          have := DefsOk.snd (i := 0) hd rfl
          simpa [D.ev, q6] using this
        have d1 : m.env (nn + 1) = b2i (decide (0 ≤ y.ev m.env)) := (hd.2 1 _ _ rfl).1
        have d2 : m.env (nn + 2) = b2i (decide (y.ev m.env < m.env nn)) := (hd.2 2 _ _ rfl).1
        have z1 : m.env (nn + 1) ≠ 0 := hz (.var (nn + 1)) (by simp)
        have z2 : m.env (nn + 2) ≠ 0 := hz (.var (nn + 2)) (by simp)
        rw [d1] at z1
        rw [d2] at z2
        have r1 : 0 ≤ y.ev m.env := by
          by_cases hc : 0 ≤ y.ev m.env
          · exact hc
          · simp [hc, b2i] at z1
        have r2 : y.ev m.env < (l.length : Int) := by
          rw [← d0]
          by_cases hc : y.ev m.env < m.env nn
          · exact hc
          · simp [hc, b2i] at z2
        obtain ⟨n, hn⟩ := Int.eq_ofNat_of_zero_le r1
        obtain ⟨ad, cap, hsv⟩ := q3.here (by omega)
        refine ⟨.pointer (some ((slAt (m.sv id)).add ((y.ev m.env).toNat * r.k.sz))), ?_, h1.1, h2.1, ⟨r1, by rw [q3.lenV]; exact r2⟩, rfl⟩
        have h3 : a.eval i = .int k (n : Int) := by rw [h2.2.2, hn]
        rw [hn] at r2 ⊢
        have h4 : a.eval x = .slice (some ad) l.length cap := by rw [h1.2.1, hsv]
        rw [hsv]
        simp only [execOp, ho, h4, h3, Instr.indexAt, asIntOf]
        have : n < l.length := by omega
        simp [run_underlying hu, run_sizeOf hs, this, slAt]
      · cases hp
    · cases hp
  · rename_i e id lo hi k hu hx
    obtain ⟨b1, b2, b3, b4, b5, b6⟩ := h.cell hx
    split at hp
    · rename_i r kk y s hr hy hs
      split at hp
      · rename_i hc
        simp only [Bool.and_eq_true, beq_iff_eq] at hc
        obtain ⟨hc1, hc2⟩ := hc
        subst hc1
        have hz0 := isZ_ok hc2
        subst hz0
        cases hp
        have h2 := h.cell hy
        obtain ⟨q1, q2, q5, q6, q3⟩ := h.row_ok hr
        generalize hl : dec (A.ev m.env r.x) = l at q3 q6
        have d1 : m.env nn = b2i (decide (0 ≤ y.ev m.env)) := (hd.2 0 _ _ rfl).1
        have d2 : m.env (nn + 1) = b2i (decide (y.ev m.env < hi.ev m.env)) := (hd.2 1 _ _ rfl).1
        have z1 : m.env nn ≠ 0 := hz (.var nn) (by simp)
        have z2 : m.env (nn + 1) ≠ 0 := hz (.var (nn + 1)) (by simp)
        rw [d1] at z1
        rw [d2] at z2
        have r1 : 0 ≤ y.ev m.env := by
          by_cases hc : 0 ≤ y.ev m.env
          · exact hc
          · simp [hc, b2i] at z1
        have r2 : y.ev m.env < hi.ev m.env := by
          by_cases hc : y.ev m.env < hi.ev m.env
          · exact hc
          · simp [hc, b2i] at z2
        obtain ⟨n, hn⟩ := Int.eq_ofNat_of_zero_le r1
        have b4' := b4.2.2.1
        rw [q3.lenV] at b4'
        obtain ⟨ad, cap, hsv⟩ := q3.here (by omega)
        refine ⟨.pointer (some ((slAt (m.sv id)).add ((y.ev m.env).toNat * k.sz))), ?_, b1, h2.1, ⟨r1, by omega⟩, rfl⟩
        have h3 : a.eval i = .int kk (n : Int) := by rw [h2.2.2, hn]
        have h4 : a.eval x = .slice (some ad) (hi.ev m.env).toNat cap := by rw [b5, hsv]; exact subV_zero ..
        rw [hn] at r2 ⊢
        rw [hsv]
        simp only [execOp, ho, h4, h3, Instr.indexAt, asIntOf]
        have : n < (hi.ev m.env).toNat := by omega
        simp [run_underlying hu, run_sizeOf hs, this, slAt]
      · cases hp
    · cases hp
  · cases hp
theorem Rels.getD_of {cs : List C} {vs : List Value} {nv : Nat} {al : Nat → Bool} (h : Rels m nv al cs vs) {i : Nat} {c : C} (hc : cs[i]? = some c) : ∃ v, vs[i]? = some v ∧ c.rel m nv al v := h.get i c hc
theorem part_ok {t : TypeId} {d : TypeDesc} {s : Nat} {cs : List C} {vs : List Value} {off : Nat} (hd : P.underlying t = some d) (hs : szOf P t = some s) (hr : Rels m σ.nv σ.al cs vs)
    (hp : partC d s cs off = .ok p) : ∃ v, (part t vs.toArray off).run P w = .ok v w ∧ p.val.rel m σ.nv σ.al v := by
  unfold partC at hp
  split at hp
  · rename_i ha
    cases hp
    refine ⟨.agg ((vs.drop off).take s).toArray, ?_, _, rfl, (hr.drop off).take s⟩
    simp [part, run_isAgg hd, ha, run_sizeOf hs]
  · rename_i ha
    split at hp
    · rename_i c hc
      cases hp
      obtain ⟨v, hv, hr'⟩ := hr.get _ _ hc
      exact ⟨v, by simp [part, run_isAgg hd, ha, hv], hr'⟩
    · cases hp
theorem pure_index {t : TypeId} {x i : Operand} (h : Rep w0 m σ a w) (ho : o.op = .index t x i) (hp : plan P T σ nn nid o.op = .ok p) (hD : DefsOk T m.env σ.nv nn p.defs) (hz : ∀ x ∈ p.nz, x.ev m.env ≠ 0) : PureOk P m σ a w o p.val := by
  rw [ho] at hp
  simp only [plan] at hp
  split at hp
  · rename_i len e cs n hu hx hi
    obtain ⟨vs, h1, hr⟩ := h.v_ hx
    obtain ⟨k, hk⟩ := idx_int h hi
    split at hp
    · rename_i d s hd hs
      split at hp
      · rename_i hl
        obtain ⟨v, hv, hrel⟩ := part_ok (w := w) hd hs hr hp
        refine ⟨v, ?_, hrel⟩
        simp only [execOp, ho, h1, hk, Instr.index, asIntOf]
        simp [run_underlying hu, run_sizeOf hs, hl, hv]
      · cases hp
    · cases hp
  · rename_i len e cs hu hx hi
    obtain ⟨vs, h1, hr⟩ := h.v_ hx
    split at hp
    · rename_i k y d r hy hdt hs hin
      split at hp
      · cases hp
      · rename_i hc
        cases hp
        simp only [Bool.or_eq_true, not_or, bne_iff_ne, ne_eq, Decidable.not_not, Bool.not_eq_true] at hc
        have h2 := h.cell hy
        obtain ⟨r1, r2⟩ := range_ok (ds := [(.int r.1, .sel y r.2)]) hD hz
        have he := DefsOk.snd (i := 2) hD rfl
        simp only [D.ev] at he
        rw [intsOf_ok hin] at hr
        obtain ⟨g1, g2⟩ := sel_ok hr (i := (y.ev m.env).toNat) (by omega)
        obtain ⟨n, hn⟩ := Int.eq_ofNat_of_zero_le r1
        refine ⟨.int r.1 ((r.2.map (·.ev m.env)).getD (y.ev m.env).toNat 0), ?_, ⟨⟨?_, trivial⟩, ?_, ?_⟩⟩
        · have h3 : a.eval i = .int k (n : Int) := by rw [h2.2.2, hn]
          rw [hn] at r2 g2 ⊢
          simp only [Int.toNat_natCast] at g2 ⊢
          have hlt : n < len := by omega
          have hlv : n < vs.length := (List.getElem?_eq_some_iff.1 g2).1
          have hlv2 : vs[n] = .int r.1 ((r.2.map (·.ev m.env)).getD n 0) := (List.getElem?_eq_some_iff.1 g2).2
          simp only [execOp, ho, h1, h3, Instr.index, asIntOf]
          have hpt : (part e vs.toArray n).run P w = .ok vs[n] w := by simp [part, run_isAgg hdt, hc.1, hlv]
          rw [hlv2] at hpt
          simp [run_underlying hu, run_sizeOf hs, hlt, hpt]
        · have := hD.1; simp only [A.ok, List.length_append, inRange, List.length_cons, List.length_nil] at *; omega
        · simp only [A.ev, he]; exact g1
        · simp only [A.ev, he]
    · cases hp
  · rename_i s n hu hx hidx
    have h1 : a.eval x = .string s := h.v_ hx
    obtain ⟨k, hk⟩ := idx_int h hidx
    split at hp
    · rename_i hlt
      cases hp
      refine ⟨.int .u8 (s[n].toNat : Int), ?_, ⟨⟨trivial, trivial⟩, ?_, rfl⟩⟩
      · simp only [execOp, ho, h1, hk, Instr.index, asIntOf]
        simp [run_underlying hu, hlt]
      · show has .u8 (s[n].toNat : Int)
        simp only [has, lo, hi]; have := s[n].toNat_lt; omega
    · cases hp
  · rename_i s hu hx hidx
    have h1 : a.eval x = .string s := h.v_ hx
    split at hp
    · rename_i k y hy
      cases hp
      have h2 := h.cell hy
      obtain ⟨r1, r2⟩ := range_ok (ds := [(.int .u8, .sel y (bytesA s))]) hD hz
      have he := DefsOk.snd (i := 2) hD rfl
      simp only [D.ev] at he
      obtain ⟨n, hn⟩ := Int.eq_ofNat_of_zero_le r1
      have h3 : a.eval i = .int k (n : Int) := by rw [h2.2.2, hn]
      rw [hn] at r2 he
      simp only [Int.toNat_natCast] at he
      have hlt : n < s.size := by omega
      have hg : (List.map (fun x => A.ev m.env x) (bytesA s)).getD n 0 = (s[n].toNat : Int) := by
        have hlt' : n < s.data.toList.length := by simpa using hlt
        rw [List.getD_eq_getElem?_getD]
        simp only [bytesA, List.map_map, List.getElem?_map, List.getElem?_eq_getElem hlt', Option.map_some, Option.getD_some, Function.comp_apply, A.ev]
        rfl
      rw [hg] at he
      refine ⟨.int .u8 (s[n].toNat : Int), ?_, ⟨⟨?_, trivial⟩, ?_, ?_⟩⟩
      · simp only [execOp, ho, h1, h3, Instr.index, asIntOf]
        simp [run_underlying hu, hlt]
      · have := hD.1; simp only [A.ok, List.length_append, inRange, List.length_cons, List.length_nil] at *; omega
      · simp only [A.ev, he, has, lo, hi]; have := s[n].toNat_lt; omega
      · simp only [A.ev, he]
    · cases hp
  · cases hp
theorem pure_field {t : TypeId} {x : Operand} {f : Nat} (h : Rep w0 m σ a w) (ho : o.op = .field t x f) (hp : plan P T σ nn nid o.op = .ok p) : PureOk P m σ a w o p.val := by
  rw [ho] at hp
  simp only [plan] at hp
  split at hp
  · rename_i fs cs hu hx
    obtain ⟨vs, h1, hr⟩ := h.v_ hx
    split at hp
    · rename_i fd hf
      split at hp
      · rename_i d s hd hs
        obtain ⟨v, hv, hrel⟩ := part_ok (w := w) hd hs hr hp
        refine ⟨v, ?_, hrel⟩
        simp only [execOp, ho, h1, Instr.field]
        simp [run_underlying hu, hf, asAgg, hv]
      · cases hp
    · cases hp
  · cases hp
theorem pure_extract {x : Operand} {i : Nat} (h : Rep w0 m σ a w) (ho : o.op = .extract x i) (hp : plan P T σ nn nid o.op = .ok p) : PureOk P m σ a w o p.val := by
  rw [ho] at hp
  simp only [plan] at hp
  split at hp
  · rename_i l hx
    obtain ⟨vs, h1, hr⟩ := h.val hx
    split at hp
    · rename_i s hs
      cases hp
      obtain ⟨v, hv, hrel⟩ := hr.get _ _ hs
      refine ⟨v, ?_, hrel⟩
      simp [execOp, ho, h1, Instr.extract, hv]
    · cases hp
  · cases hp
theorem caps_ok (h : Rep w0 m σ a w) : ∀ (xs : List Operand) (l : List (Nat × Nat)), mapO (capOf σ) xs = some l →
    (∀ p ∈ l, σ.al p.1 = true) ∧ xs.map a.eval = l.map fun p => Value.pointer (some (m.at p.1 p.2)) := by
  intro xs
  induction xs with
  | nil => intro l hl; simp [mapO] at hl; subst hl; simp
  | cons x xs ih =>
    intro l hl
    unfold mapO at hl
    split at hl
    · cases hl
    · rename_i y hy
      split at hl
      · cases hl
      · rename_i ys hys
        cases hl
        obtain ⟨h1, h2⟩ := ih ys hys
        unfold capOf at hy
        split at hy
        · rename_i id off hc
          cases hy
          have h3 := h.cell hc
          exact ⟨by simpa using ⟨h3.1, fun a b => h1 (a, b)⟩, by simp [h2, h3.2]⟩
        · cases hy
theorem pure_makeFunc {fn : Fn} {first caps : Array Operand} (h : Rep w0 m σ a w) (ho : o.op = .makeFunc fn first caps) (hp : plan P T σ nn nid o.op = .ok p) : PureOk P m σ a w o p.val := by
  rw [ho] at hp
  simp only [plan] at hp
  split at hp
  · rename_i f
    split at hp
    · cases hp
    · rename_i hf
      have hf' : first = #[] := by simpa using hf
      split at hp
      · rename_i l hl
        cases hp
        obtain ⟨h1, h2⟩ := caps_ok h _ _ hl
        refine ⟨.func (.func f) #[] (caps.map a.eval), by simp [execOp, ho, Instr.makeFunc, hf'], h1, ?_⟩
        congr 1
        apply Array.ext'
        simpa using h2
      · cases hp
  · cases hp
theorem pure_sl2arr {t : TypeId} {x : Operand} (h : Rep w0 m σ a w) (ho : o.op = .sliceToArrayPointer t x) (hp : plan P T σ nn nid o.op = .ok p) : PureOk P m σ a w o p.val := by
  rw [ho] at hp
  simp only [plan] at hp
  split at hp
  · rename_i n e id off len cap hu hx
    have h1 := h.cell hx
    split at hp
    · rename_i hl
      cases hp
      refine ⟨_, ?_, h1.1, rfl⟩
      simp only [execOp, ho, h1.2, Instr.arrayAt]
      simp [run_underlying hu, show ¬ len < n by omega]
    · cases hp
  · cases hp
theorem mkP_ok {kk : KK} {d : D} {c : A → C} (hp : mkP nn kk d c = .ok p) (hd : DefsOk T m.env σ.nv nn p.defs) : ∃ x : A, p.val = .vl (.one (c x)) ∧ x.wf σ.nv m.env ∧ x.ev m.env = d.ev T m.env := by
  unfold mkP at hp
  cases hp
  have := mk_ok hd
  exact ⟨_, rfl, this.1, this.2⟩
theorem pure_unOp {op : UnOp} {t : TypeId} {x : Operand} (h : Rep w0 m σ a w) (ho : o.op = .unOp op t x) (hp : plan P T σ nn nid o.op = .ok p) (hd : DefsOk T m.env σ.nv nn p.defs) : PureOk P m σ a w o p.val := by
  rw [ho] at hp
  simp only [plan] at hp
  split at hp
  · rename_i y hx
    have h1 := h.cell hx
    obtain ⟨z, hz, hk, he⟩ := mkP_ok hp hd
    rw [hz]
    refine ⟨.bool (decide (z.ev m.env ≠ 0)), ?_, hk, ?_, rfl⟩
    · simp only [execOp, ho, h1.2.2, Op.unary, he, D.ev]
      by_cases hy : y.ev m.env = 0 <;> simp [hy]
    · rw [he]; simp only [D.ev]; split <;> simp
  · rename_i k y hx
    have h1 := h.cell hx
    obtain ⟨z, hz, hk, he⟩ := mkP_ok hp hd
    have key : (execOp a.eval o).run P w = .ok (.value (.int k (wr k (0 - y.ev m.env)))) w := by
      simp only [execOp, ho, h1.2.2, Op.unary, Op.intArith, wr_eq]
      simp
    rw [hz]
    refine ⟨_, key, hk, by rw [he]; exact wr_has _ _, ?_⟩
    rw [he]; rfl
  · rename_i k y hx
    have h1 := h.cell hx
    obtain ⟨z, hz, hk, he⟩ := mkP_ok hp hd
    have this : (if k.signed = true then (-1 : Int) else k.max) = if lo k = 0 then hi k else -1 := by cases k <;> simp [IntKind.signed, lo, hi, IntKind.max, IntKind.bits]
    have key : (execOp a.eval o).run P w = .ok (.value (.int k (wr k ((BitVec.ofInt k.bits (if lo k = 0 then hi k else -1) ^^^ BitVec.ofInt k.bits (y.ev m.env)).toNat : Int)))) w := by
      simp only [execOp, ho, h1.2.2, Op.unary, Op.intBits, wr_eq, this]
      simp
    rw [hz]
    refine ⟨_, key, hk, by rw [he]; exact wr_has _ _, ?_⟩
    rw [he]; rfl
  · cases hp
theorem subKind_has {k' k : IntKind} {n : Int} (h : subKind k' k = true) (hn : has k' n) : has k n := by
  cases k' <;> cases k <;> simp [subKind, has, lo, hi] at * <;> omega
end
end Go.Sx
