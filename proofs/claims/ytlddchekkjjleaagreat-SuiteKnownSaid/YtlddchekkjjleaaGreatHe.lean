/- Numbers of the great field, plain and times 2^384; curve points of three numbers over any ring. -/
import Derived.Test.YtlddchekkjjleaaGreatHb
import Derived.Test.YtlddchekkjjleaaGreatHd
import Derived.Test.YtlddchekkjjleaaGreatHa
set_option linter.unusedVariables false
set_option linter.unusedSimpArgs false
namespace Go.Sx
open Go Go.RowKit
def bP : Int := 4002409555221667393417789825735904156556882819939007885332058136124031650490837864442687629129015664037894272559787
theorem bP_pos : 0 < bP := by decide
theorem bP_odd : bP % 2 = 1 := by decide
theorem bP_lt : 2 * bP < N384 := by decide
def iR : Int := half2 bP ^ 384 % bP
theorem iR_ok : ∃ z, N384 * iR = 1 + bP * z := by
  obtain ⟨z, hz⟩ := half_R bP_odd
  obtain ⟨y, hy⟩ := md_of (x := half2 bP ^ 384) (n := bP)
  refine ⟨z + N384 * y, ?_⟩
  unfold iR
  rw [hy]
  generalize half2 bP ^ 384 = I at *
  generalize bP = p at *
  generalize N384 = R at *
  grind
/-- a number times 2^384 -/
def toE (x : Int) : Int := x * N384 % bP
/-- and back -/
def ofE (a : Int) : Int := a * iR % bP
theorem toE_lt (x : Int) : 0 ≤ toE x ∧ toE x < bP := md_lt bP_pos
theorem ofE_lt (x : Int) : 0 ≤ ofE x ∧ ofE x < bP := md_lt bP_pos
theorem toE_md {x y : Int} (h : x % bP = y % bP) : toE x = toE y := by
  obtain ⟨z, rfl⟩ := dm h
  exact md (z * N384) (by rw [Int.add_mul, Int.mul_assoc])
theorem toE_mod (x : Int) : toE (x % bP) = toE x := toE_md (Int.emod_emod_of_dvd _ (Int.dvd_refl _))
theorem ofE_toE (x : Int) : ofE (toE x) = x % bP := by
  obtain ⟨z, hz⟩ := iR_ok
  obtain ⟨y, hy⟩ := md_of (x := x * N384) (n := bP)
  unfold ofE toE
  rw [hy]
  refine md (y * iR + x * z) ?_
  generalize iR = I at *
  generalize bP = p at *
  generalize N384 = R at *
  have : x * (R * I) = x * (1 + p * z) := by rw [hz]
  grind
theorem toE_ofE {a : Int} (h0 : 0 ≤ a) (h1 : a < bP) : toE (ofE a) = a := by
  obtain ⟨z, hz⟩ := iR_ok
  obtain ⟨y, hy⟩ := md_of (x := a * iR) (n := bP)
  unfold ofE toE
  rw [hy]
  refine md_eq (y * N384 + a * z) ?_ h0 h1
  generalize iR = I at *
  generalize bP = p at *
  generalize N384 = R at *
  have : a * (R * I) = a * (1 + p * z) := by rw [hz]
  grind
theorem toE_inj {x y : Int} (h : toE x = toE y) : x % bP = y % bP := by rw [← ofE_toE, h, ofE_toE]
theorem toE_0 : toE 0 = 0 := by decide
theorem toE_zero {x : Int} : toE x = 0 ↔ x % bP = 0 := by
  rw [← toE_0]
  exact ⟨fun h => toE_inj h, fun h => toE_md h⟩
theorem E_add {v a b A B : Int} (h : v = (a + b) % bP) (ha : a = toE A) (hb : b = toE B) : v = toE (A + B) := by
  obtain ⟨y, hy⟩ := md_of (x := A * N384) (n := bP)
  obtain ⟨z, hz⟩ := md_of (x := B * N384) (n := bP)
  rw [h, ha, hb]
  unfold toE
  rw [hy, hz]
  exact md (y + z) (by grind)
theorem E_sub {v a b A B : Int} (h : v = (a - b) % bP) (ha : a = toE A) (hb : b = toE B) : v = toE (A - B) := by
  obtain ⟨y, hy⟩ := md_of (x := A * N384) (n := bP)
  obtain ⟨z, hz⟩ := md_of (x := B * N384) (n := bP)
  rw [h, ha, hb]
  unfold toE
  rw [hy, hz]
  exact md (y - z) (by grind)
theorem E_mul {v a b A B : Int} (h : v = montv bP a b) (ha : a = toE A) (hb : b = toE B) : v = toE (A * B) := by
  obtain ⟨z, hz⟩ := half_R bP_odd
  obtain ⟨y, hy⟩ := md_of (x := A * N384) (n := bP)
  obtain ⟨w, hw⟩ := md_of (x := B * N384) (n := bP)
  rw [h, ha, hb]
  unfold toE montv
  rw [hy, hw, show (bP + 1) / 2 = half2 bP from rfl]
  generalize half2 bP ^ 384 = I at *
  generalize bP = p at *
  generalize N384 = R at *
  have h1 : A * B * R * (R * I) = A * B * R * (1 + p * z) := by rw [hz]
  exact md (A * B * R * z + (A * R * w + y * B * R + p * y * w) * I) (by grind)
theorem E_of {a : Int} (h0 : 0 ≤ a) (h1 : a < bP) : a = toE (ofE a) := (toE_ofE h0 h1).symm
/-- taken in, taken out -/
theorem E_to {n : Int} : montv bP (wideOf bP) n = toE n := by
  obtain ⟨z, hz⟩ := RR1 bP_odd
  unfold montv toE
  rw [show (bP + 1) / 2 = half2 bP from rfl]
  generalize half2 bP ^ 384 = I at *
  generalize wideOf bP = w at *
  generalize bP = p at *
  generalize N384 = R at *
  have : n * (w * I) = n * (R + p * z) := by rw [hz]
  exact md (n * z) (by grind)
theorem E_from {a : Int} : montv bP a 1 = ofE a := by
  obtain ⟨y, hy⟩ := md_of (x := half2 bP ^ 384) (n := bP)
  unfold montv ofE iR
  rw [hy, show (bP + 1) / 2 = half2 bP from rfl]
  generalize half2 bP ^ 384 = I at *
  generalize bP = p at *
  exact md (-(a * y)) (by grind)

/-! ### points of three numbers -/
structure Rg (α : Type) where
  add : α → α → α
  sub : α → α → α
  mul : α → α → α
  one : α
  zero : α
  isz : α → Bool
  md : α → α
def R1 : Rg Int := ⟨fun a b => a + b, fun a b => a - b, fun a b => a * b, 1, 0, fun a => a % bP == 0, fun a => a % bP⟩
def R2 : Rg (Int × Int) := ⟨fun a b => (a.1 + b.1, a.2 + b.2), fun a b => (a.1 - b.1, a.2 - b.2), fun a b => (a.1 * b.1 - a.2 * b.2, a.1 * b.2 + a.2 * b.1), (1, 0), (0, 0), fun a => a.1 % bP == 0 && a.2 % bP == 0, fun a => (a.1 % bP, a.2 % bP)⟩
structure J (α : Type) where
  x : α
  y : α
  z : α
section
variable {α : Type}
def J.md (R : Rg α) (P : J α) : J α := ⟨R.md P.x, R.md P.y, R.md P.z⟩
def oJ (R : Rg α) : J α := ⟨R.one, R.one, R.zero⟩
/-- twice a point -/
def dblJ (R : Rg α) (P : J α) : J α :=
  let yy := R.mul P.y P.y
  let s := R.mul P.x yy
  let s := R.add s s
  let s := R.add s s
  let m := R.mul P.x P.x
  let m := R.add (R.add m m) m
  let x := R.sub (R.mul m m) (R.add s s)
  let e := R.mul yy yy
  let e := R.add e e
  let e := R.add e e
  let e := R.add e e
  let z := R.mul P.y P.z
  ⟨x, R.sub (R.mul m (R.sub s x)) e, R.add z z⟩
/-- the sum of two points -/
def sumJ (R : Rg α) (P Q : J α) : J α :=
  if R.isz P.z = true then Q else if R.isz Q.z = true then P else
  let pp := R.mul P.z P.z
  let qq := R.mul Q.z Q.z
  let u := R.mul P.x qq
  let v := R.mul Q.x pp
  let s := R.mul P.y (R.mul qq Q.z)
  let t := R.mul Q.y (R.mul pp P.z)
  let h := R.sub v u
  let r := R.sub t s
  if R.isz h = true then (if R.isz r = true then dblJ R P else oJ R) else
  let hh := R.mul h h
  let hhh := R.mul hh h
  let w := R.mul u hh
  let x := R.sub (R.sub (R.mul r r) hhh) (R.add w w)
  ⟨x, R.sub (R.mul r (R.sub w x)) (R.mul s hhh), R.mul h (R.mul P.z Q.z)⟩
/-- the sum of two points that are neither the zero nor above each other -/
def addJ (R : Rg α) (P Q : J α) : J α :=
  let pp := R.mul P.z P.z
  let qq := R.mul Q.z Q.z
  let u := R.mul P.x qq
  let v := R.mul Q.x pp
  let s := R.mul P.y (R.mul qq Q.z)
  let t := R.mul Q.y (R.mul pp P.z)
  let h := R.sub v u
  let r := R.sub t s
  let hh := R.mul h h
  let hhh := R.mul hh h
  let w := R.mul u hh
  let x := R.sub (R.sub (R.mul r r) hhh) (R.add w w)
  ⟨x, R.sub (R.mul r (R.sub w x)) (R.mul s hhh), R.mul h (R.mul P.z Q.z)⟩
def hJ (R : Rg α) (P Q : J α) : α := R.sub (R.mul Q.x (R.mul P.z P.z)) (R.mul P.x (R.mul Q.z Q.z))
def rJ (R : Rg α) (P Q : J α) : α := R.sub (R.mul Q.y (R.mul (R.mul P.z P.z) P.z)) (R.mul P.y (R.mul (R.mul Q.z Q.z) Q.z))
theorem sumJ_eq (R : Rg α) (P Q : J α) : sumJ R P Q = if R.isz P.z = true then Q else if R.isz Q.z = true then P else if R.isz (hJ R P Q) = true then (if R.isz (rJ R P Q) = true then dblJ R P else oJ R) else addJ R P Q := rfl
theorem sumJ_z1 {R : Rg α} {P Q : J α} (h : R.isz P.z = true) : sumJ R P Q = Q := by rw [sumJ_eq, if_pos h]
theorem sumJ_z2 {R : Rg α} {P Q : J α} (h : ¬ R.isz P.z = true) (h2 : R.isz Q.z = true) : sumJ R P Q = P := by rw [sumJ_eq, if_neg h, if_pos h2]
theorem sumJ_dbl {R : Rg α} {P Q : J α} (h : ¬ R.isz P.z = true) (h2 : ¬ R.isz Q.z = true) (h3 : R.isz (hJ R P Q) = true) (h4 : R.isz (rJ R P Q) = true) : sumJ R P Q = dblJ R P := by rw [sumJ_eq, if_neg h, if_neg h2, if_pos h3, if_pos h4]
theorem sumJ_opp {R : Rg α} {P Q : J α} (h : ¬ R.isz P.z = true) (h2 : ¬ R.isz Q.z = true) (h3 : R.isz (hJ R P Q) = true) (h4 : ¬ R.isz (rJ R P Q) = true) : sumJ R P Q = oJ R := by rw [sumJ_eq, if_neg h, if_neg h2, if_pos h3, if_neg h4]
theorem sumJ_gen {R : Rg α} {P Q : J α} (h : ¬ R.isz P.z = true) (h2 : ¬ R.isz Q.z = true) (h3 : ¬ R.isz (hJ R P Q) = true) : sumJ R P Q = addJ R P Q := by rw [sumJ_eq, if_neg h, if_neg h2, if_neg h3]
/-- so many times a point, by bits -/
def tmJ (R : Rg α) (P : J α) : Nat → Nat → J α
  | 0, _ => oJ R
  | k + 1, n => if n = 0 then oJ R else
    let d := J.md R (dblJ R (tmJ R P k (n / 2)))
    if n % 2 = 1 then J.md R (sumJ R d P) else d
theorem tmJ_fuel {R : Rg α} {P : J α} : ∀ (k n : Nat), n < 2 ^ k → tmJ R P (k + 1) n = tmJ R P k n
  | 0, n, h => by
    have : n = 0 := by simpa using h
    subst this; rfl
  | k + 1, n, h => by
    have ih := tmJ_fuel (R := R) (P := P) k (n / 2) (by rw [Nat.pow_succ] at h; omega)
    have e1 : ∀ j, tmJ R P (j + 1) n = if n = 0 then oJ R else (if n % 2 = 1 then J.md R (sumJ R (J.md R (dblJ R (tmJ R P j (n / 2)))) P) else J.md R (dblJ R (tmJ R P j (n / 2)))) := fun j => rfl
    rw [e1, e1, ih]
/-- is a point one of the curve? -/
def onJ (R : Rg α) (b x y : α) : Prop := R.md (R.mul y y) = R.md (R.add (R.mul (R.mul x x) x) b)
end
end Go.Sx
namespace Go.Sx
theorem E_lt {a A : Int} (h : a = toE A) : a < bP := by rw [h]; exact (toE_lt A).2
theorem E_nn {a A : Int} (h : a = toE A) : 0 ≤ a := by rw [h]; exact (toE_lt A).1
theorem E_ofm {a A : Int} (h : a = toE A) : ofE a % bP = A % bP := by rw [h, ofE_toE]; exact Int.emod_emod_of_dvd _ (Int.dvd_refl _)
theorem mdE_add {p a b A B : Int} (ha : a % p = A % p) (hb : b % p = B % p) : (a + b) % p = (A + B) % p := by rw [Int.add_emod, ha, hb, ← Int.add_emod]
theorem mdE_sub {p a b A B : Int} (ha : a % p = A % p) (hb : b % p = B % p) : (a - b) % p = (A - B) % p := by rw [Int.sub_emod, ha, hb, ← Int.sub_emod]
theorem mdE_mul {p a b A B : Int} (ha : a % p = A % p) (hb : b % p = B % p) : (a * b) % p = (A * B) % p := by rw [Int.mul_emod, ha, hb, ← Int.mul_emod]
theorem mdE_pow {p a A : Int} (ha : a % p = A % p) : ∀ n : Nat, a ^ n % p = A ^ n % p
  | 0 => by rw [Int.pow_zero, Int.pow_zero]
  | n + 1 => by rw [Int.pow_succ, Int.pow_succ]; exact mdE_mul (mdE_pow ha n) ha
theorem Eadd {v a b A B : Int} (h : v = toE (ofE a + ofE b)) (ha : a = toE A) (hb : b = toE B) : v = toE (A + B) := h.trans (toE_md (mdE_add (E_ofm ha) (E_ofm hb)))
theorem Esub {v a b A B : Int} (h : v = toE (ofE a - ofE b)) (ha : a = toE A) (hb : b = toE B) : v = toE (A - B) := h.trans (toE_md (mdE_sub (E_ofm ha) (E_ofm hb)))
theorem Emul {v a b A B : Int} (h : v = toE (ofE a * ofE b)) (ha : a = toE A) (hb : b = toE B) : v = toE (A * B) := h.trans (toE_md (mdE_mul (E_ofm ha) (E_ofm hb)))
theorem Epow {v a A : Int} {n : Nat} (h : v = toE (ofE a ^ n)) (ha : a = toE A) : v = toE (A ^ n) := h.trans (toE_md (mdE_pow (E_ofm ha) n))
end Go.Sx

/- Contracts: the great field's elements times 2^384, and the first great curve. -/
namespace Go.Sx
open Go Go.RowKit
/-! ### elements -/
def kELess (f : FuncId) : K := { fn := f, ext := false, ins := [iN], outs := [oN], pre := fun _ => True, sem := fun | [a] => [if bP ≤ a then a - bP else a] | _ => [] }
def kEAdd (f : FuncId) : K := { fn := f, ext := false, ins := [iN, iN], outs := [oN], pre := fun | [a, b] => a < bP ∧ b < bP | _ => False, sem := fun | [a, b] => [toE (ofE a + ofE b)] | _ => [] }
def kESub (f : FuncId) : K := { fn := f, ext := false, ins := [iN, iN], outs := [oN], pre := fun | [a, b] => a < bP ∧ b < bP | _ => False, sem := fun | [a, b] => [toE (ofE a - ofE b)] | _ => [] }
def kENeg (f : FuncId) : K := { fn := f, ext := false, ins := [iN], outs := [oN], pre := fun | [a] => a < bP | _ => False, sem := fun | [a] => [toE (-ofE a)] | _ => [] }
/-- the product by words: the second number may be any -/
def kEMont (f : FuncId) : K := { fn := f, ext := false, ins := [iN, iN], outs := [oN], pre := fun | [a, _] => a < bP | _ => False, sem := fun | [a, b] => [montv bP a b] | _ => [] }
def kEMul (f : FuncId) : K := { fn := f, ext := false, ins := [iN, iN], outs := [oN], pre := fun | [a, b] => a < bP ∧ b < bP | _ => False, sem := fun | [a, b] => [toE (ofE a * ofE b)] | _ => [] }
def kETo (f : FuncId) : K := { fn := f, ext := false, ins := [iN], outs := [oN], pre := fun _ => True, sem := fun | [a] => [toE a] | _ => [] }
def kEFrom (f : FuncId) : K := { fn := f, ext := false, ins := [iN], outs := [oN], pre := fun | [a] => a < bP | _ => False, sem := fun | [a] => [ofE a] | _ => [] }
def kEPow (f : FuncId) : K := { fn := f, ext := false, ins := [iN, iN], outs := [oN], pre := fun | [a, _] => a < bP | _ => False, sem := fun | [a, n] => [toE (ofE a ^ n.toNat)] | _ => [] }
def kEInv (f : FuncId) : K := { fn := f, ext := false, ins := [iN], outs := [oN], pre := fun | [a] => a < bP | _ => False, sem := fun | [a] => [toE (ofE a ^ (bP - 2).toNat)] | _ => [] }
/-- who adds, subtracts, multiplies, inverts -/
structure Fo where
  add : FuncId
  sub : FuncId
  mul : FuncId
  inv : FuncId
def Fo.ls (o : Fo) : List L := [.cst (.fn o.add []), .cst (.fn o.sub []), .cst (.fn o.mul []), .cst (.fn o.inv []), .num, .num]
abbrev ls3 : List L := [.num, .num, .num]
abbrev lsPl : List L := [.num, .num, .bool]
def kFirst (o : Fo) (f : FuncId) : K := { fn := f, ext := false, ins := [], outs := [.agg o.ls], pre := fun _ => True, sem := fun _ => [toE 1, toE 4] }
/-! ### points -/
def ofJ (x y z : Int) : J Int := ⟨ofE x, ofE y, ofE z⟩
def J.l (P : J Int) : List Int := [toE P.x, toE P.y, toE P.z]
def kRaise (o : Fo) (f : FuncId) : K := { fn := f, ext := false, ins := [.agg o.ls, .agg lsPl], outs := [.agg ls3], pre := fun _ => True, sem := fun | [u, _, x, y, z] => if z = 0 then [x, y, u] else [u, u, 0] | _ => [] }
def kTwice (o : Fo) (f : FuncId) : K := { fn := f, ext := false, ins := [.agg o.ls, .agg ls3], outs := [.agg ls3], pre := fun | [_, _, x, y, z] => x < bP ∧ y < bP ∧ z < bP | _ => False, sem := fun | [_, _, x, y, z] => (dblJ R1 (ofJ x y z)).l | _ => [] }
def kSum (o : Fo) (f : FuncId) : K := { fn := f, ext := false, ins := [.agg o.ls, .agg ls3, .agg ls3], outs := [.agg ls3]
                                        pre := fun | [u, _, x, y, z, x', y', z'] => u = toE 1 ∧ (x < bP ∧ y < bP ∧ z < bP) ∧ (x' < bP ∧ y' < bP ∧ z' < bP) | _ => False
                                        sem := fun | [_, _, x, y, z, x', y', z'] => (sumJ R1 (ofJ x y z) (ofJ x' y' z')).l | _ => [] }
def kTimes (o : Fo) (f : FuncId) : K := { fn := f, ext := false, ins := [.agg o.ls, .agg ls3, iN], outs := [.agg ls3]
                                          pre := fun | [u, _, x, y, z, _] => u = toE 1 ∧ x < bP ∧ y < bP ∧ z < bP | _ => False
                                          sem := fun | [_, _, x, y, z, n] => (tmJ R1 (ofJ x y z) 384 n.toNat).l | _ => [] }
end Go.Sx

/- Laws: mont.Mul, word by word. -/
namespace Go.Sx
open Go Go.RowKit
set_option maxRecDepth 100000
def round7T (im ia b : Nat) (x low n0 y0 y1 y2 y3 y4 y5 n1 n2 n3 n4 n5 t0 t1 t2 t3 t4 t5 t6 : A) (k : A → A → A → A → A → A → A → Tree) : Tree :=
  macsT im ia x [(y0, t0, b, b + 2, b + 5), (y1, t1, b + 8, b + 10, b + 13), (y2, t2, b + 16, b + 18, b + 21), (y3, t3, b + 24, b + 26, b + 29), (y4, t4, b + 32, b + 34, b + 37), (y5, t5, b + 40, b + 42, b + 45)] (.lit 0) fun c =>
  .lett (b + 48) (.int .u64) (.bin .add .u64 t6 c)
  (.lett (b + 49) (.int .u64) (.bin .mul .u64 (.var (b + 5)) low)
  (.req im [.var (b + 49), n0] (.lett (b + 50) (.int .u64) (.app im 0 [.var (b + 49), n0]) (.lett (b + 51) (.int .u64) (.app im 1 [.var (b + 49), n0])
  (.req ia [.var (b + 51), .var (b + 5), .lit 0] (.lett (b + 52) (.int .u64) (.app ia 0 [.var (b + 51), .var (b + 5), .lit 0]) (.lett (b + 53) (.int .u64) (.app ia 1 [.var (b + 51), .var (b + 5), .lit 0])
  (.lett (b + 54) (.int .u64) (.bin .add .u64 (.var (b + 50)) (.var (b + 53)))
  (macsT im ia (.var (b + 49)) [(n1, .var (b + 13), b + 55, b + 57, b + 60), (n2, .var (b + 21), b + 63, b + 65, b + 68), (n3, .var (b + 29), b + 71, b + 73, b + 76), (n4, .var (b + 37), b + 79, b + 81, b + 84), (n5, .var (b + 45), b + 87, b + 89, b + 92)] (.var (b + 54)) fun c' =>
  .req ia [.var (b + 48), c', .lit 0] (.lett (b + 95) (.int .u64) (.app ia 0 [.var (b + 48), c', .lit 0]) (.lett (b + 96) (.int .u64) (.app ia 1 [.var (b + 48), c', .lit 0])
  (k (.var (b + 60)) (.var (b + 68)) (.var (b + 76)) (.var (b + 84)) (.var (b + 92)) (.var (b + 95)) (.var (b + 96))))))))))))))
theorem round7_arith {xB qn0 qJ V jl l0 j5 t6 c s6 h l' cc ca j2 c' t5' t6' jt : Int}
    (hqz : (qn0 + l0) % 18446744073709551616 = 0) (hqn : 0 ≤ qn0 ∧ qn0 ≤ 18446744073709551615 * 18446744073709551615)
    (hV : V = jt + N384 * t6) (u6 : U t6) (hjl : jl = l0 + 18446744073709551616 * j5) (hj5 : 0 ≤ j5) (ul : U l0) (uc : U c) (uc' : U c') (hb : V + xB < N384 * 18446744073709551616)
    (S1 : jl + N384 * c = xB + jt + 0) (a1 : s6 = wr .u64 (t6 + c))
    (m1 : h = qn0 / 18446744073709551616) (m2 : l' = qn0 % 18446744073709551616) (m4 : cc = (l' + l0 + 0) / 18446744073709551616) (m5 : ca = wr .u64 (h + cc))
    (S2 : j2 + 2135987035920910082395021706169552114602704522356652769947041607822219725780640550022962086936576 * c' = qJ + j5 + ca)
    (b1 : t5' = (s6 + c' + 0) % 18446744073709551616) (b2 : t6' = (s6 + c' + 0) / 18446744073709551616) :
    18446744073709551616 * (j2 + 2135987035920910082395021706169552114602704522356652769947041607822219725780640550022962086936576 * t5' + N384 * t6') = V + xB + (qn0 + 18446744073709551616 * qJ) ∧ U t5' ∧ 0 ≤ t6' ∧ t6' ≤ 2 := by
  unfold U N384 at *
  simp only [wr] at *
  omega
section
variable {T : List K} {f g : FuncId} {im ia b : Nat} {G : Gl} {e : Nat → Int}
theorem round7_says {x low n0 y0 y1 y2 y3 y4 y5 n1 n2 n3 n4 n5 t0 t1 t2 t3 t4 t5 t6 : A} {k : A → A → A → A → A → A → A → Tree} {B N V : Int} (hm : T[im]? = some (kMul64 f)) (ha : T[ia]? = some (kAdd64 g)) (bx : U (x.ev e))
    (hy : AllU e [y0, y1, y2, y3, y4, y5]) (hn : AllU e [n0, n1, n2, n3, n4, n5]) (ht : AllU e [t0, t1, t2, t3, t4, t5, t6])
    (hB : B = jo e [y0, y1, y2, y3, y4, y5]) (hN : N = jo e [n0, n1, n2, n3, n4, n5]) (hV : V = jo e [t0, t1, t2, t3, t4, t5] + N384 * t6.ev e) (hVB : V < B + N) (hBN : B + N < N384)
    (hl : n0.ev e * low.ev e % 18446744073709551616 = 18446744073709551615)
    (hk : ∀ V' q, AllU e [.var (b + 60), .var (b + 68), .var (b + 76), .var (b + 84), .var (b + 92), .var (b + 95), .var (b + 96)] →
      V' = jo e [.var (b + 60), .var (b + 68), .var (b + 76), .var (b + 84), .var (b + 92), .var (b + 95)] + N384 * e (b + 96) → V' < B + N → 0 ≤ V' → 0 ≤ q ∧ q < 18446744073709551616 → 18446744073709551616 * V' = V + x.ev e * B + q * N →
      (k (.var (b + 60)) (.var (b + 68)) (.var (b + 76)) (.var (b + 84)) (.var (b + 92)) (.var (b + 95)) (.var (b + 96))).says T G e) :
    (round7T im ia b x low n0 y0 y1 y2 y3 y4 y5 n1 n2 n3 n4 n5 t0 t1 t2 t3 t4 t5 t6 k).says T G e := by
  unfold round7T
  obtain ⟨ht0, ht1, ht2, ht3, ht4, ht5, ht6, _⟩ := ht
  obtain ⟨hn0, hn1, hn2, hn3, hn4, hn5, _⟩ := hn
  have hB0 : 0 ≤ B := by
    obtain ⟨z0, z1, z2, z3, z4, z5, _⟩ := hy
    unfold U at z0 z1 z2 z3 z4 z5
    rw [hB]; simp only [jo]; omega
  have hN0 : 0 ≤ N := by
    unfold U at hn0 hn1 hn2 hn3 hn4 hn5
    rw [hN]; simp only [jo]; omega
  have hxb : A.ev e x * B ≤ 18446744073709551615 * B := Int.mul_le_mul_of_nonneg_right (by have := bx.2; omega) hB0
  refine macsT_says hm ha bx _ _ _ hy ⟨ht0, ht1, ht2, ht3, ht4, ht5, trivial⟩ (by show U 0; unfold U; omega) fun g1 g2 g3 => ?_
  simp only [List.map, outC, List.length_cons, List.length_nil, AllU, ev_var] at g1 g2 g3
  obtain ⟨l0, l1, l2, l3, l4, l5, _⟩ := g1
  simp only [outC]
  have ht6' := ht6
  refine fun a1 k1 a3 k3 => ⟨by simp only [hm, kMul64], fun a4 _ a5 _ => ⟨by simp only [ha, kAdd64, List.map, ev_lit]; omega, fun _ _ a7 _ a8 k8 => ?_⟩⟩
  have k3' : U (e (b + 49)) := has_u64 k3
  have k8' : U (e (b + 54)) := has_u64 k8
  refine macsT_says hm ha (by exact k3') _ _ _ ⟨hn1, hn2, hn3, hn4, hn5, trivial⟩ ⟨l1, l2, l3, l4, l5, trivial⟩ (by exact k8') fun p1 p2 p3 => ?_
  simp only [List.map, outC, List.length_cons, List.length_nil, AllU, ev_var] at p1 p2 p3
  obtain ⟨r1, r2, r3, r4, r5, _⟩ := p1
  simp only [outC]
  refine ⟨by simp only [ha, kAdd64, List.map, ev_lit]; omega, fun b1 _ b2 _ => ?_⟩
  simp only [D.ev, ha, hm, kAdd64, kMul64, List.map, List.getD_cons_zero, List.getD_cons_succ, ev_var, ev_lit, binE] at a1 a3 a4 a5 a7 a8 b1 b2
  have hz := q_zero a3 hl
  have e6 : pw64 (0 + 1 + 1 + 1 + 1 + 1 + 1) = N384 := by decide +kernel
  have e5 : pw64 (0 + 1 + 1 + 1 + 1 + 1) = 2135987035920910082395021706169552114602704522356652769947041607822219725780640550022962086936576 := by decide +kernel
  rw [e6, show (A.lit 0).ev e = 0 from rfl] at g3
  rw [e5] at p3
  have hqn := mul_bd k3' hn0
  have hxB : A.ev e x * jo e [y0, y1, y2, y3, y4, y5] = A.ev e x * B := by rw [hB]
  have hvx : V + A.ev e x * jo e [y0, y1, y2, y3, y4, y5] < N384 * 18446744073709551616 := by
    rw [hxB]
    generalize A.ev e x * B = z at *
    clear g3 p3 hz a1 a3 a4 a5 a7 a8 b1 b2 hqn hV hN hB hk
    unfold N384 at *
    omega
  have hj5 : 0 ≤ jo e [.var (b + 13), .var (b + 21), .var (b + 29), .var (b + 37), .var (b + 45)] := by
    unfold U at l1 l2 l3 l4 l5
    simp only [jo, ev_var]; omega
  obtain ⟨s1, s2, s3, s4⟩ := round7_arith hz hqn hV ht6 (show jo e [.var (b + 5), .var (b + 13), .var (b + 21), .var (b + 29), .var (b + 37), .var (b + 45)] = _ from rfl) hj5 l0 g2 p2 hvx g3 a1 a4 a5 a7 a8 p3 b1 b2
  have hqN : e (b + 49) * N = e (b + 49) * n0.ev e + 18446744073709551616 * (e (b + 49) * jo e [n1, n2, n3, n4, n5]) := by
    rw [hN, show jo e [n0, n1, n2, n3, n4, n5] = n0.ev e + 18446744073709551616 * jo e [n1, n2, n3, n4, n5] from rfl, Int.mul_add, Int.mul_left_comm]
  rw [← hqN] at s1
  have s1' : 18446744073709551616 * (jo e [.var (b + 60), .var (b + 68), .var (b + 76), .var (b + 84), .var (b + 92), .var (b + 95)] + N384 * e (b + 96)) = V + A.ev e x * B + e (b + 49) * N := by
    rw [hxB] at s1
    rw [← s1]
    simp only [jo, ev_var]; omega
  have m2 : e (b + 49) * N ≤ 18446744073709551615 * N := Int.mul_le_mul_of_nonneg_right (by have := k3'.2; omega) hN0
  refine hk _ _ ⟨r1, r2, r3, r4, r5, s2, by exact ⟨s3, by show e (b + 96) < _; omega⟩, trivial⟩ rfl ?_ ?_ k3' s1'
  · generalize jo e [.var (b + 60), .var (b + 68), .var (b + 76), .var (b + 84), .var (b + 92), .var (b + 95)] + N384 * e (b + 96) = V' at *
    omega
  · unfold U at r1 r2 r3 r4 r5 s2
    have s3' : 0 ≤ e (b + 96) := s3
    unfold N384
    simp only [jo, ev_var]; omega
end
def tEMulR (i b : Nat) (t0 t1 t2 t3 t4 t5 t6 : A) (k : A → A → A → A → A → A → A → Tree) : Tree :=
  round7T 1 0 b (.limb 1 i) (.lit 9940570264628428797) (.lit 13402431016077863595) (.limb 0 0) (.limb 0 1) (.limb 0 2) (.limb 0 3) (.limb 0 4) (.limb 0 5) (.lit 2210141511517208575) (.lit 7435674573564081700) (.lit 7239337960414712511) (.lit 5412103778470702295) (.lit 1873798617647539866) t0 t1 t2 t3 t4 t5 t6 k
def tEMul : Tree :=
  tEMulR 0 2 (.lit 0) (.lit 0) (.lit 0) (.lit 0) (.lit 0) (.lit 0) (.lit 0) fun t0 t1 t2 t3 t4 t5 t6 =>
  tEMulR 1 99 t0 t1 t2 t3 t4 t5 t6 fun t0 t1 t2 t3 t4 t5 t6 =>
  tEMulR 2 196 t0 t1 t2 t3 t4 t5 t6 fun t0 t1 t2 t3 t4 t5 t6 =>
  tEMulR 3 293 t0 t1 t2 t3 t4 t5 t6 fun t0 t1 t2 t3 t4 t5 t6 =>
  tEMulR 4 390 t0 t1 t2 t3 t4 t5 t6 fun t0 t1 t2 t3 t4 t5 t6 =>
  tEMulR 5 487 t0 t1 t2 t3 t4 t5 t6 fun t0 t1 t2 t3 t4 t5 _ =>
  (.lett 584 .num (.join [t0, t1, t2, t3, t4, t5])
  (.req 2 [(.var 584)]
  (.lett 585 .num (.app 2 0 [(.var 584)])
  (.ret [(.var 585)]))))
theorem bP_words : jo (fun _ => 0) [.lit 13402431016077863595, .lit 2210141511517208575, .lit 7435674573564081700, .lit 7239337960414712511, .lit 5412103778470702295, .lit 1873798617647539866] = bP := by decide
theorem law_eMont (f1 f2 f3 f : FuncId) (e : Nat → Int) (hk : kkHas [.num, .num] [e 0, e 1]) (hp : (kEMont f).pre [e 0, e 1]) :
    tEMul.says [kAdd64 f1, kMul64 f2, kELess f3] ⟨fun ys => ys = (kEMont f).sem [e 0, e 1], []⟩ e := by
  obtain ⟨h0, h1, _⟩ := hk
  have hab : e 0 < bP := hp
  have hx : ∀ i j, U ((A.limb i j).ev e) := U_lim e
  have hb6 := jo6 h0 e 0 rfl
  have hn6 : jo e [.lit 13402431016077863595, .lit 2210141511517208575, .lit 7435674573564081700, .lit 7239337960414712511, .lit 5412103778470702295, .lit 1873798617647539866] = bP := bP_words
  have hB : AllU e [.limb 0 0, .limb 0 1, .limb 0 2, .limb 0 3, .limb 0 4, .limb 0 5] := ⟨hx _ _, hx _ _, hx _ _, hx _ _, hx _ _, hx _ _, trivial⟩
  have hN : AllU e [.lit 13402431016077863595, .lit 2210141511517208575, .lit 7435674573564081700, .lit 7239337960414712511, .lit 5412103778470702295, .lit 1873798617647539866] := by
    refine ⟨?_, ?_, ?_, ?_, ?_, ?_, trivial⟩ <;> (show U _; simp only [ev_lit, U]; decide)
  have hl0 : (A.lit 13402431016077863595).ev e * (A.lit 9940570264628428797).ev e % 18446744073709551616 = 18446744073709551615 := by simp only [ev_lit]; decide
  have hz : U ((A.lit 0).ev e) := by show U 0; unfold U; omega
  have hbn : e 0 + bP < N384 := by have := bP_lt; omega
  have hb0 : 0 ≤ e 0 := h0.1
  have hbp := bP_pos
  unfold tEMul tEMulR
  refine round7_says (V := 0) rfl rfl (hx _ _) hB hN ⟨hz, hz, hz, hz, hz, hz, hz, trivial⟩ hb6.symm hn6.symm (by simp only [jo, ev_lit]; omega) (by omega) hbn hl0 fun V1 q0 t1 v1 b1 _ k1 E1 => ?_
  refine round7_says rfl rfl (hx _ _) hB hN t1 hb6.symm hn6.symm v1 b1 hbn hl0 fun V2 q1 t2 v2 b2 _ k2 E2 => ?_
  refine round7_says rfl rfl (hx _ _) hB hN t2 hb6.symm hn6.symm v2 b2 hbn hl0 fun V3 q2 t3 v3 b3 _ k3 E3 => ?_
  refine round7_says rfl rfl (hx _ _) hB hN t3 hb6.symm hn6.symm v3 b3 hbn hl0 fun V4 q3 t4 v4 b4 _ k4 E4 => ?_
  refine round7_says rfl rfl (hx _ _) hB hN t4 hb6.symm hn6.symm v4 b4 hbn hl0 fun V5 q4 t5 v5 b5 _ k5 E5 => ?_
  refine round7_says rfl rfl (hx _ _) hB hN t5 hb6.symm hn6.symm v5 b5 hbn hl0 fun V6 q5 t6 v6 b6 p6 k6 E6 => ?_
  have ha : e 1 = wd (lim (e 1) 0) (lim (e 1) 1) (lim (e 1) 2) (lim (e 1) 3) (lim (e 1) 4) (lim (e 1) 5) := lim_eq h1
  have fin := mont_fin E1 E2 E3 E4 E5 E6 ha
  have hq := wd_lt k1 k2 k3 k4 k5 k6
  have hlt := mont_lt h1 h0 hq (by decide) (.inr hab) fin
  have hmv := montv_of bP_odd fin
  obtain ⟨u0, u1, u2, u3, u4, u5, u6, _⟩ := t6
  have hv6 : e 583 = 0 ∧ V6 = jo e [.var 547, .var 555, .var 563, .var 571, .var 579, .var 582] := by
    have hj : 0 ≤ jo e [.var 547, .var 555, .var 563, .var 571, .var 579, .var 582] := by
      have w0 : U (e 547) := u0
      have w1 : U (e 555) := u1
      have w2 : U (e 563) := u2
      have w3 : U (e 571) := u3
      have w4 : U (e 579) := u4
      have w5 : U (e 582) := u5
      unfold U at w0 w1 w2 w3 w4 w5
      simp only [jo, ev_var]; omega
    have hu : 0 ≤ e 583 := u6.1
    have hv6' : V6 = jo e [.var 547, .var 555, .var 563, .var 571, .var 579, .var 582] + N384 * e 583 := v6
    have hN2 := bP_lt
    generalize jo e [.var 547, .var 555, .var 563, .var 571, .var 579, .var 582] = J at *
    unfold N384 at hv6' hN2
    omega
  refine fun c1 _ => ⟨trivial, fun c2 _ => ?_⟩
  have c1' : e 584 = V6 := by
    rw [c1, hv6.2]; exact jo_join e [.var 547, .var 555, .var 563, .var 571, .var 579, .var 582]
  have c2' : e 585 = if bP ≤ e 584 then e 584 - bP else e 584 := c2
  show [e 585] = [montv bP (e 0) (e 1)]
  have hcm : montv bP (e 0) (e 1) = montv bP (e 1) (e 0) := by unfold montv; rw [Int.mul_comm (e 0)]
  rw [c2', c1', hcm, ← hmv]
  congr 1
  split
  · exact (md_eq 1 (by omega) (by omega) (by omega)).symm
  · exact (Int.emod_eq_of_lt p6 (by omega)).symm
end Go.Sx

/- Laws: mont's elements: less, Add, Sub, Neg, Mul, To, From, Pow, Inv. -/
namespace Go.Sx
open Go Go.RowKit
set_option maxRecDepth 100000
set_option linter.unusedVariables false
set_option linter.unusedSimpArgs false
theorem cs_mod {v s p : Int} (h : v = if p ≤ s then s - p else s) (h0 : 0 ≤ s) (h1 : s < 2 * p) : v = s % p := by
  rw [h]
  split
  · exact (md_eq 1 (by omega) (by omega) (by omega)).symm
  · exact (Int.emod_eq_of_lt h0 (by omega)).symm
theorem subc2 {s c x y i : Int} (hs : s = (x - y - i) % 18446744073709551616) (hc : c = if x < y + i then 1 else 0) (hx : 0 ≤ x ∧ x < 18446744073709551616) (hy : 0 ≤ y ∧ y < 18446744073709551616) (hi : 0 ≤ i ∧ i ≤ 1) :
    s = x - y - i + 18446744073709551616 * c ∧ (0 ≤ c ∧ c ≤ 1) ∧ (0 ≤ s ∧ s < 18446744073709551616) := by split at hc <;> omega
theorem addc2 {s c x y i : Int} (hs : s = (x + y + i) % 18446744073709551616) (hc : c = (x + y + i) / 18446744073709551616) (hx : 0 ≤ x ∧ x < 18446744073709551616) (hy : 0 ≤ y ∧ y < 18446744073709551616) (hi : 0 ≤ i ∧ i ≤ 1) :
    s + 18446744073709551616 * c = x + y + i ∧ (0 ≤ c ∧ c ≤ 1) ∧ (0 ≤ s ∧ s < 18446744073709551616) := by omega
theorem sub6 {x0 x1 x2 x3 x4 x5 y0 y1 y2 y3 y4 y5 s0 s1 s2 s3 s4 s5 c0 c1 c2 c3 c4 c5 : Int} (h0 : s0 = x0 - y0 - 0 + 18446744073709551616 * c0) (h1 : s1 = x1 - y1 - c0 + 18446744073709551616 * c1) (h2 : s2 = x2 - y2 - c1 + 18446744073709551616 * c2) (h3 : s3 = x3 - y3 - c2 + 18446744073709551616 * c3) (h4 : s4 = x4 - y4 - c3 + 18446744073709551616 * c4) (h5 : s5 = x5 - y5 - c4 + 18446744073709551616 * c5) :
    s0 + 18446744073709551616 * (s1 + 18446744073709551616 * (s2 + 18446744073709551616 * (s3 + 18446744073709551616 * (s4 + 18446744073709551616 * s5)))) = (x0 + 18446744073709551616 * (x1 + 18446744073709551616 * (x2 + 18446744073709551616 * (x3 + 18446744073709551616 * (x4 + 18446744073709551616 * x5))))) - (y0 + 18446744073709551616 * (y1 + 18446744073709551616 * (y2 + 18446744073709551616 * (y3 + 18446744073709551616 * (y4 + 18446744073709551616 * y5))))) + 39402006196394479212279040100143613805079739270465446667948293404245721771497210611414266254884915640806627990306816 * c5 := by omega
theorem add6 {x0 x1 x2 x3 x4 x5 y0 y1 y2 y3 y4 y5 s0 s1 s2 s3 s4 s5 c0 c1 c2 c3 c4 c5 : Int} (h0 : s0 + 18446744073709551616 * c0 = x0 + y0 + 0) (h1 : s1 + 18446744073709551616 * c1 = x1 + y1 + c0) (h2 : s2 + 18446744073709551616 * c2 = x2 + y2 + c1) (h3 : s3 + 18446744073709551616 * c3 = x3 + y3 + c2) (h4 : s4 + 18446744073709551616 * c4 = x4 + y4 + c3) (h5 : s5 + 18446744073709551616 * c5 = x5 + y5 + c4) :
    s0 + 18446744073709551616 * (s1 + 18446744073709551616 * (s2 + 18446744073709551616 * (s3 + 18446744073709551616 * (s4 + 18446744073709551616 * s5)))) + 39402006196394479212279040100143613805079739270465446667948293404245721771497210611414266254884915640806627990306816 * c5 = (x0 + 18446744073709551616 * (x1 + 18446744073709551616 * (x2 + 18446744073709551616 * (x3 + 18446744073709551616 * (x4 + 18446744073709551616 * x5))))) + (y0 + 18446744073709551616 * (y1 + 18446744073709551616 * (y2 + 18446744073709551616 * (y3 + 18446744073709551616 * (y4 + 18446744073709551616 * y5))))) := by omega
theorem rng6 {s0 s1 s2 s3 s4 s5 : Int} (h0 : 0 ≤ s0 ∧ s0 < 18446744073709551616) (h1 : 0 ≤ s1 ∧ s1 < 18446744073709551616) (h2 : 0 ≤ s2 ∧ s2 < 18446744073709551616) (h3 : 0 ≤ s3 ∧ s3 < 18446744073709551616) (h4 : 0 ≤ s4 ∧ s4 < 18446744073709551616) (h5 : 0 ≤ s5 ∧ s5 < 18446744073709551616) :
    0 ≤ s0 + 18446744073709551616 * (s1 + 18446744073709551616 * (s2 + 18446744073709551616 * (s3 + 18446744073709551616 * (s4 + 18446744073709551616 * s5)))) ∧ s0 + 18446744073709551616 * (s1 + 18446744073709551616 * (s2 + 18446744073709551616 * (s3 + 18446744073709551616 * (s4 + 18446744073709551616 * s5)))) < 39402006196394479212279040100143613805079739270465446667948293404245721771497210611414266254884915640806627990306816 := by omega
theorem z01 : (0 : Int) ≤ 0 ∧ (0 : Int) ≤ 1 := by decide
theorem bP_wd : bP = 13402431016077863595 + 18446744073709551616 * (2210141511517208575 + 18446744073709551616 * (7435674573564081700 + 18446744073709551616 * (7239337960414712511 + 18446744073709551616 * (5412103778470702295 + 18446744073709551616 * 1873798617647539866)))) := by decide
theorem u_lit {n : Int} (h : decide (0 ≤ n ∧ n < 18446744073709551616) = true) : 0 ≤ n ∧ n < 18446744073709551616 := of_decide_eq_true h
def tELess : Tree := (.req 0 [(.limb 0 0), (.lit 13402431016077863595), (.lit 0)]
(.lett 385 (.int .u64) (.app 0 0 [(.limb 0 0), (.lit 13402431016077863595), (.lit 0)])
(.lett 386 (.int .u64) (.app 0 1 [(.limb 0 0), (.lit 13402431016077863595), (.lit 0)])
(.req 0 [(.limb 0 1), (.lit 2210141511517208575), (.var 386)]
(.lett 1105 (.int .u64) (.app 0 0 [(.limb 0 1), (.lit 2210141511517208575), (.var 386)])
(.lett 1106 (.int .u64) (.app 0 1 [(.limb 0 1), (.lit 2210141511517208575), (.var 386)])
(.req 0 [(.limb 0 2), (.lit 7435674573564081700), (.var 1106)]
(.lett 1825 (.int .u64) (.app 0 0 [(.limb 0 2), (.lit 7435674573564081700), (.var 1106)])
(.lett 1826 (.int .u64) (.app 0 1 [(.limb 0 2), (.lit 7435674573564081700), (.var 1106)])
(.req 0 [(.limb 0 3), (.lit 7239337960414712511), (.var 1826)]
(.lett 2545 (.int .u64) (.app 0 0 [(.limb 0 3), (.lit 7239337960414712511), (.var 1826)])
(.lett 2546 (.int .u64) (.app 0 1 [(.limb 0 3), (.lit 7239337960414712511), (.var 1826)])
(.req 0 [(.limb 0 4), (.lit 5412103778470702295), (.var 2546)]
(.lett 3265 (.int .u64) (.app 0 0 [(.limb 0 4), (.lit 5412103778470702295), (.var 2546)])
(.lett 3266 (.int .u64) (.app 0 1 [(.limb 0 4), (.lit 5412103778470702295), (.var 2546)])
(.req 0 [(.limb 0 5), (.lit 1873798617647539866), (.var 3266)]
(.lett 3985 (.int .u64) (.app 0 0 [(.limb 0 5), (.lit 1873798617647539866), (.var 3266)])
(.lett 3986 (.int .u64) (.app 0 1 [(.limb 0 5), (.lit 1873798617647539866), (.var 3266)])
(.lett 4321 .bit (.cmp .eql (.var 3986) (.lit 1))
(.split 4321
 (.ret [(.var 0)])
 (.lett 4322 .num (.join [(.var 385), (.var 1105), (.var 1825), (.var 2545), (.var 3265), (.var 3985)])
 (.ret [(.var 4322)]))))))))))))))))))))))
theorem law_eLess (f1 f : FuncId) (e : Nat → Int) (hk : kkHas [.num] [e 0]) : tELess.says [kSub64 f1] ⟨fun ys => ys = (kELess f).sem [e 0], []⟩ e := by
  obtain ⟨ha, _⟩ := hk
  have ea := lim_eq ha
  have hb := bP_wd
  have l0_0 := lim_lt (e 0) 0
  have l0_1 := lim_lt (e 0) 1
  have l0_2 := lim_lt (e 0) 2
  have l0_3 := lim_lt (e 0) 3
  have l0_4 := lim_lt (e 0) 4
  have l0_5 := lim_lt (e 0) 5
  have p_0 : (0 : Int) ≤ 13402431016077863595 ∧ (13402431016077863595 : Int) < 18446744073709551616 := u_lit (by decide)
  have p_1 : (0 : Int) ≤ 2210141511517208575 ∧ (2210141511517208575 : Int) < 18446744073709551616 := u_lit (by decide)
  have p_2 : (0 : Int) ≤ 7435674573564081700 ∧ (7435674573564081700 : Int) < 18446744073709551616 := u_lit (by decide)
  have p_3 : (0 : Int) ≤ 7239337960414712511 ∧ (7239337960414712511 : Int) < 18446744073709551616 := u_lit (by decide)
  have p_4 : (0 : Int) ≤ 5412103778470702295 ∧ (5412103778470702295 : Int) < 18446744073709551616 := u_lit (by decide)
  have p_5 : (0 : Int) ≤ 1873798617647539866 ∧ (1873798617647539866 : Int) < 18446744073709551616 := u_lit (by decide)
  simp only [tELess, kSub64, kELess, KK.has, joinE6, Tree.says, List.getElem?_cons_zero, List.getElem?_cons_succ, List.map, ev_lit, ev_var, ev_limb, D.ev, List.getD_cons_zero, List.getD_cons_succ]
  generalize lim (e 0) 0 = x00 at *
  generalize lim (e 0) 1 = x01 at *
  generalize lim (e 0) 2 = x02 at *
  generalize lim (e 0) 3 = x03 at *
  generalize lim (e 0) 4 = x04 at *
  generalize lim (e 0) 5 = x05 at *
  refine ⟨z01, fun as0 _ at0 _ => ?_⟩
  obtain ⟨ap0, aq0, ar0⟩ := subc2 as0 at0 l0_0 p_0 z01
  clear as0 at0
  refine ⟨aq0, fun as1 _ at1 _ => ?_⟩
  obtain ⟨ap1, aq1, ar1⟩ := subc2 as1 at1 l0_1 p_1 aq0
  clear as1 at1
  refine ⟨aq1, fun as2 _ at2 _ => ?_⟩
  obtain ⟨ap2, aq2, ar2⟩ := subc2 as2 at2 l0_2 p_2 aq1
  clear as2 at2
  refine ⟨aq2, fun as3 _ at3 _ => ?_⟩
  obtain ⟨ap3, aq3, ar3⟩ := subc2 as3 at3 l0_3 p_3 aq2
  clear as3 at3
  refine ⟨aq3, fun as4 _ at4 _ => ?_⟩
  obtain ⟨ap4, aq4, ar4⟩ := subc2 as4 at4 l0_4 p_4 aq3
  clear as4 at4
  refine ⟨aq4, fun as5 _ at5 _ => ?_⟩
  obtain ⟨ap5, aq5, ar5⟩ := subc2 as5 at5 l0_5 p_5 aq4
  clear as5 at5
  have tot := sub6 ap0 ap1 ap2 ap3 ap4 ap5
  have rg := rng6 ar0 ar1 ar2 ar3 ar4 ar5
  rw [← ea, ← hb] at tot
  intro h1 _
  have h1 := c_eq h1
  refine ⟨fun n => ?_, fun n => ?_⟩
  · rw [if_neg (by clear ea hb ap0 ap1 ap2 ap3 ap4 ap5 ar0 ar1 ar2 ar3 ar4 ar5; omega)]
  · intro h2 h3
    rw [← h2] at tot
    rw [if_pos (by clear ea hb ap0 ap1 ap2 ap3 ap4 ap5 ar0 ar1 ar2 ar3 ar4 ar5; omega)]
    congr 1
    clear ea hb ap0 ap1 ap2 ap3 ap4 ap5 ar0 ar1 ar2 ar3 ar4 ar5
    omega
def tEAdd : Tree := (.req 0 [(.limb 0 0), (.limb 1 0), (.lit 0)]
(.lett 386 (.int .u64) (.app 0 0 [(.limb 0 0), (.limb 1 0), (.lit 0)])
(.lett 387 (.int .u64) (.app 0 1 [(.limb 0 0), (.limb 1 0), (.lit 0)])
(.req 0 [(.limb 0 1), (.limb 1 1), (.var 387)]
(.lett 1106 (.int .u64) (.app 0 0 [(.limb 0 1), (.limb 1 1), (.var 387)])
(.lett 1107 (.int .u64) (.app 0 1 [(.limb 0 1), (.limb 1 1), (.var 387)])
(.req 0 [(.limb 0 2), (.limb 1 2), (.var 1107)]
(.lett 1826 (.int .u64) (.app 0 0 [(.limb 0 2), (.limb 1 2), (.var 1107)])
(.lett 1827 (.int .u64) (.app 0 1 [(.limb 0 2), (.limb 1 2), (.var 1107)])
(.req 0 [(.limb 0 3), (.limb 1 3), (.var 1827)]
(.lett 2546 (.int .u64) (.app 0 0 [(.limb 0 3), (.limb 1 3), (.var 1827)])
(.lett 2547 (.int .u64) (.app 0 1 [(.limb 0 3), (.limb 1 3), (.var 1827)])
(.req 0 [(.limb 0 4), (.limb 1 4), (.var 2547)]
(.lett 3266 (.int .u64) (.app 0 0 [(.limb 0 4), (.limb 1 4), (.var 2547)])
(.lett 3267 (.int .u64) (.app 0 1 [(.limb 0 4), (.limb 1 4), (.var 2547)])
(.req 0 [(.limb 0 5), (.limb 1 5), (.var 3267)]
(.lett 3986 (.int .u64) (.app 0 0 [(.limb 0 5), (.limb 1 5), (.var 3267)])
(.lett 3987 (.int .u64) (.app 0 1 [(.limb 0 5), (.limb 1 5), (.var 3267)])
(.lett 4322 .num (.join [(.var 386), (.var 1106), (.var 1826), (.var 2546), (.var 3266), (.var 3986)])
(.req 1 [(.var 4322)]
(.lett 4323 .num (.app 1 0 [(.var 4322)])
(.ret [(.var 4323)]))))))))))))))))))))))
theorem law_eAdd (f1 f2 f : FuncId) (e : Nat → Int) (hk : kkHas [.num, .num] [e 0, e 1]) (hp : (kEAdd f).pre [e 0, e 1]) : tEAdd.says [kAdd64 f1, kELess f2] ⟨fun ys => ys = (kEAdd f).sem [e 0, e 1], []⟩ e := by
  obtain ⟨ha, hb, _⟩ := hk
  obtain ⟨u0, u1⟩ : e 0 < bP ∧ e 1 < bP := hp
  have v0 : 0 ≤ e 0 := ha.1
  have v1 : 0 ≤ e 1 := hb.1
  have ea := lim_eq ha
  have eb := lim_eq hb
  have hP := bP_lt
  have l0_0 := lim_lt (e 0) 0
  have l0_1 := lim_lt (e 0) 1
  have l0_2 := lim_lt (e 0) 2
  have l0_3 := lim_lt (e 0) 3
  have l0_4 := lim_lt (e 0) 4
  have l0_5 := lim_lt (e 0) 5
  have l1_0 := lim_lt (e 1) 0
  have l1_1 := lim_lt (e 1) 1
  have l1_2 := lim_lt (e 1) 2
  have l1_3 := lim_lt (e 1) 3
  have l1_4 := lim_lt (e 1) 4
  have l1_5 := lim_lt (e 1) 5
  simp only [tEAdd, kAdd64, kELess, kEAdd, KK.has, joinE6, Tree.says, List.getElem?_cons_zero, List.getElem?_cons_succ, List.map, ev_lit, ev_var, ev_limb, D.ev, List.getD_cons_zero, List.getD_cons_succ]
  generalize lim (e 0) 0 = x00 at *
  generalize lim (e 0) 1 = x01 at *
  generalize lim (e 0) 2 = x02 at *
  generalize lim (e 0) 3 = x03 at *
  generalize lim (e 0) 4 = x04 at *
  generalize lim (e 0) 5 = x05 at *
  generalize lim (e 1) 0 = x10 at *
  generalize lim (e 1) 1 = x11 at *
  generalize lim (e 1) 2 = x12 at *
  generalize lim (e 1) 3 = x13 at *
  generalize lim (e 1) 4 = x14 at *
  generalize lim (e 1) 5 = x15 at *
  refine ⟨z01, fun as0 _ at0 _ => ?_⟩
  obtain ⟨ap0, aq0, ar0⟩ := addc2 as0 at0 l0_0 l1_0 z01
  clear as0 at0
  refine ⟨aq0, fun as1 _ at1 _ => ?_⟩
  obtain ⟨ap1, aq1, ar1⟩ := addc2 as1 at1 l0_1 l1_1 aq0
  clear as1 at1
  refine ⟨aq1, fun as2 _ at2 _ => ?_⟩
  obtain ⟨ap2, aq2, ar2⟩ := addc2 as2 at2 l0_2 l1_2 aq1
  clear as2 at2
  refine ⟨aq2, fun as3 _ at3 _ => ?_⟩
  obtain ⟨ap3, aq3, ar3⟩ := addc2 as3 at3 l0_3 l1_3 aq2
  clear as3 at3
  refine ⟨aq3, fun as4 _ at4 _ => ?_⟩
  obtain ⟨ap4, aq4, ar4⟩ := addc2 as4 at4 l0_4 l1_4 aq3
  clear as4 at4
  refine ⟨aq4, fun as5 _ at5 _ => ?_⟩
  obtain ⟨ap5, aq5, ar5⟩ := addc2 as5 at5 l0_5 l1_5 aq4
  clear as5 at5
  have tot := add6 ap0 ap1 ap2 ap3 ap4 ap5
  have rg := rng6 ar0 ar1 ar2 ar3 ar4 ar5
  rw [← ea, ← eb] at tot
  intro h1 h2
  refine ⟨trivial, fun h3 _ => ?_⟩
  rw [← h1] at tot rg
  clear ea eb h1 ap0 ap1 ap2 ap3 ap4 ap5 ar0 ar1 ar2 ar3 ar4 ar5
  have hs : e 4322 = e 0 + e 1 := by unfold N384 at hP; omega
  have h4 := cs_mod h3 (by omega) (by omega)
  rw [hs] at h4
  rw [E_add h4 (E_of v0 u0) (E_of v1 u1)]
def tESub : Tree := (.req 0 [(.limb 0 0), (.limb 1 0), (.lit 0)]
(.lett 386 (.int .u64) (.app 0 0 [(.limb 0 0), (.limb 1 0), (.lit 0)])
(.lett 387 (.int .u64) (.app 0 1 [(.limb 0 0), (.limb 1 0), (.lit 0)])
(.req 0 [(.limb 0 1), (.limb 1 1), (.var 387)]
(.lett 1106 (.int .u64) (.app 0 0 [(.limb 0 1), (.limb 1 1), (.var 387)])
(.lett 1107 (.int .u64) (.app 0 1 [(.limb 0 1), (.limb 1 1), (.var 387)])
(.req 0 [(.limb 0 2), (.limb 1 2), (.var 1107)]
(.lett 1826 (.int .u64) (.app 0 0 [(.limb 0 2), (.limb 1 2), (.var 1107)])
(.lett 1827 (.int .u64) (.app 0 1 [(.limb 0 2), (.limb 1 2), (.var 1107)])
(.req 0 [(.limb 0 3), (.limb 1 3), (.var 1827)]
(.lett 2546 (.int .u64) (.app 0 0 [(.limb 0 3), (.limb 1 3), (.var 1827)])
(.lett 2547 (.int .u64) (.app 0 1 [(.limb 0 3), (.limb 1 3), (.var 1827)])
(.req 0 [(.limb 0 4), (.limb 1 4), (.var 2547)]
(.lett 3266 (.int .u64) (.app 0 0 [(.limb 0 4), (.limb 1 4), (.var 2547)])
(.lett 3267 (.int .u64) (.app 0 1 [(.limb 0 4), (.limb 1 4), (.var 2547)])
(.req 0 [(.limb 0 5), (.limb 1 5), (.var 3267)]
(.lett 3986 (.int .u64) (.app 0 0 [(.limb 0 5), (.limb 1 5), (.var 3267)])
(.lett 3987 (.int .u64) (.app 0 1 [(.limb 0 5), (.limb 1 5), (.var 3267)])
(.lett 4322 .bit (.cmp .eql (.var 3987) (.lit 1))
(.split 4322
 (.req 1 [(.var 386), (.lit 13402431016077863595), (.lit 0)]
 (.lett 4707 (.int .u64) (.app 1 0 [(.var 386), (.lit 13402431016077863595), (.lit 0)])
 (.lett 4708 (.int .u64) (.app 1 1 [(.var 386), (.lit 13402431016077863595), (.lit 0)])
 (.req 1 [(.var 1106), (.lit 2210141511517208575), (.var 4708)]
 (.lett 5427 (.int .u64) (.app 1 0 [(.var 1106), (.lit 2210141511517208575), (.var 4708)])
 (.lett 5428 (.int .u64) (.app 1 1 [(.var 1106), (.lit 2210141511517208575), (.var 4708)])
 (.req 1 [(.var 1826), (.lit 7435674573564081700), (.var 5428)]
 (.lett 6147 (.int .u64) (.app 1 0 [(.var 1826), (.lit 7435674573564081700), (.var 5428)])
 (.lett 6148 (.int .u64) (.app 1 1 [(.var 1826), (.lit 7435674573564081700), (.var 5428)])
 (.req 1 [(.var 2546), (.lit 7239337960414712511), (.var 6148)]
 (.lett 6867 (.int .u64) (.app 1 0 [(.var 2546), (.lit 7239337960414712511), (.var 6148)])
 (.lett 6868 (.int .u64) (.app 1 1 [(.var 2546), (.lit 7239337960414712511), (.var 6148)])
 (.req 1 [(.var 3266), (.lit 5412103778470702295), (.var 6868)]
 (.lett 7587 (.int .u64) (.app 1 0 [(.var 3266), (.lit 5412103778470702295), (.var 6868)])
 (.lett 7588 (.int .u64) (.app 1 1 [(.var 3266), (.lit 5412103778470702295), (.var 6868)])
 (.req 1 [(.var 3986), (.lit 1873798617647539866), (.var 7588)]
 (.lett 8307 (.int .u64) (.app 1 0 [(.var 3986), (.lit 1873798617647539866), (.var 7588)])
 (.lett 8308 (.int .u64) (.app 1 1 [(.var 3986), (.lit 1873798617647539866), (.var 7588)])
 (.lett 8643 .num (.join [(.var 4707), (.var 5427), (.var 6147), (.var 6867), (.var 7587), (.var 8307)])
 (.ret [(.var 8643)]))))))))))))))))))))
 (.lett 4323 .num (.join [(.var 386), (.var 1106), (.var 1826), (.var 2546), (.var 3266), (.var 3986)])
 (.ret [(.var 4323)]))))))))))))))))))))))
theorem law_eSub (f1 f2 f : FuncId) (e : Nat → Int) (hk : kkHas [.num, .num] [e 0, e 1]) (hp : (kESub f).pre [e 0, e 1]) : tESub.says [kSub64 f1, kAdd64 f2] ⟨fun ys => ys = (kESub f).sem [e 0, e 1], []⟩ e := by
  obtain ⟨ha, hb, _⟩ := hk
  obtain ⟨u0, u1⟩ : e 0 < bP ∧ e 1 < bP := hp
  have v0 : 0 ≤ e 0 := ha.1
  have v1 : 0 ≤ e 1 := hb.1
  have ea := lim_eq ha
  have eb := lim_eq hb
  have hP := bP_lt
  have hW := bP_wd
  have l0_0 := lim_lt (e 0) 0
  have l0_1 := lim_lt (e 0) 1
  have l0_2 := lim_lt (e 0) 2
  have l0_3 := lim_lt (e 0) 3
  have l0_4 := lim_lt (e 0) 4
  have l0_5 := lim_lt (e 0) 5
  have l1_0 := lim_lt (e 1) 0
  have l1_1 := lim_lt (e 1) 1
  have l1_2 := lim_lt (e 1) 2
  have l1_3 := lim_lt (e 1) 3
  have l1_4 := lim_lt (e 1) 4
  have l1_5 := lim_lt (e 1) 5
  have p_0 : (0 : Int) ≤ 13402431016077863595 ∧ (13402431016077863595 : Int) < 18446744073709551616 := u_lit (by decide)
  have p_1 : (0 : Int) ≤ 2210141511517208575 ∧ (2210141511517208575 : Int) < 18446744073709551616 := u_lit (by decide)
  have p_2 : (0 : Int) ≤ 7435674573564081700 ∧ (7435674573564081700 : Int) < 18446744073709551616 := u_lit (by decide)
  have p_3 : (0 : Int) ≤ 7239337960414712511 ∧ (7239337960414712511 : Int) < 18446744073709551616 := u_lit (by decide)
  have p_4 : (0 : Int) ≤ 5412103778470702295 ∧ (5412103778470702295 : Int) < 18446744073709551616 := u_lit (by decide)
  have p_5 : (0 : Int) ≤ 1873798617647539866 ∧ (1873798617647539866 : Int) < 18446744073709551616 := u_lit (by decide)
  simp only [tESub, kSub64, kAdd64, kESub, KK.has, joinE6, Tree.says, List.getElem?_cons_zero, List.getElem?_cons_succ, List.map, ev_lit, ev_var, ev_limb, D.ev, List.getD_cons_zero, List.getD_cons_succ]
  generalize lim (e 0) 0 = x00 at *
  generalize lim (e 0) 1 = x01 at *
  generalize lim (e 0) 2 = x02 at *
  generalize lim (e 0) 3 = x03 at *
  generalize lim (e 0) 4 = x04 at *
  generalize lim (e 0) 5 = x05 at *
  generalize lim (e 1) 0 = x10 at *
  generalize lim (e 1) 1 = x11 at *
  generalize lim (e 1) 2 = x12 at *
  generalize lim (e 1) 3 = x13 at *
  generalize lim (e 1) 4 = x14 at *
  generalize lim (e 1) 5 = x15 at *
  refine ⟨z01, fun as0 _ at0 _ => ?_⟩
  obtain ⟨ap0, aq0, ar0⟩ := subc2 as0 at0 l0_0 l1_0 z01
  clear as0 at0
  refine ⟨aq0, fun as1 _ at1 _ => ?_⟩
  obtain ⟨ap1, aq1, ar1⟩ := subc2 as1 at1 l0_1 l1_1 aq0
  clear as1 at1
  refine ⟨aq1, fun as2 _ at2 _ => ?_⟩
  obtain ⟨ap2, aq2, ar2⟩ := subc2 as2 at2 l0_2 l1_2 aq1
  clear as2 at2
  refine ⟨aq2, fun as3 _ at3 _ => ?_⟩
  obtain ⟨ap3, aq3, ar3⟩ := subc2 as3 at3 l0_3 l1_3 aq2
  clear as3 at3
  refine ⟨aq3, fun as4 _ at4 _ => ?_⟩
  obtain ⟨ap4, aq4, ar4⟩ := subc2 as4 at4 l0_4 l1_4 aq3
  clear as4 at4
  refine ⟨aq4, fun as5 _ at5 _ => ?_⟩
  obtain ⟨ap5, aq5, ar5⟩ := subc2 as5 at5 l0_5 l1_5 aq4
  clear as5 at5
  have tot := sub6 ap0 ap1 ap2 ap3 ap4 ap5
  have rg := rng6 ar0 ar1 ar2 ar3 ar4 ar5
  rw [← ea, ← eb] at tot
  intro h1 _
  have h1 := c_eq h1
  have fin : ∀ v : Int, v = (e 0 - e 1) % bP → [v] = [toE (ofE (e 0) - ofE (e 1))] := fun v hv => by rw [E_sub hv (E_of v0 u0) (E_of v1 u1)]
  refine ⟨fun n => ?_, fun n => ?_⟩
  · have hc : e 3987 = 1 := by
      rcases h1 with ⟨_, h⟩ | ⟨h, _⟩
      · exact h
      · exact absurd h n
    refine ⟨z01, fun bs0 _ bt0 _ => ?_⟩
    obtain ⟨bp0, bq0, br0⟩ := addc2 bs0 bt0 ar0 p_0 z01
    clear bs0 bt0
    refine ⟨bq0, fun bs1 _ bt1 _ => ?_⟩
    obtain ⟨bp1, bq1, br1⟩ := addc2 bs1 bt1 ar1 p_1 bq0
    clear bs1 bt1
    refine ⟨bq1, fun bs2 _ bt2 _ => ?_⟩
    obtain ⟨bp2, bq2, br2⟩ := addc2 bs2 bt2 ar2 p_2 bq1
    clear bs2 bt2
    refine ⟨bq2, fun bs3 _ bt3 _ => ?_⟩
    obtain ⟨bp3, bq3, br3⟩ := addc2 bs3 bt3 ar3 p_3 bq2
    clear bs3 bt3
    refine ⟨bq3, fun bs4 _ bt4 _ => ?_⟩
    obtain ⟨bp4, bq4, br4⟩ := addc2 bs4 bt4 ar4 p_4 bq3
    clear bs4 bt4
    refine ⟨bq4, fun bs5 _ bt5 _ => ?_⟩
    obtain ⟨bp5, bq5, br5⟩ := addc2 bs5 bt5 ar5 p_5 bq4
    clear bs5 bt5
    have tot2 := add6 bp0 bp1 bp2 bp3 bp4 bp5
    have rg2 := rng6 br0 br1 br2 br3 br4 br5
    rw [← hW, tot] at tot2
    intro h2 h3
    refine fin _ ?_
    rw [← h2] at tot2 rg2
    rw [tot] at rg
    have b6 := bq5
    clear ap0 ap1 ap2 ap3 ap4 ap5 ar0 ar1 ar2 ar3 ar4 ar5 bp0 bp1 bp2 bp3 bp4 bp5 br0 br1 br2 br3 br4 br5 ea eb h2 hW tot h3
    unfold N384 at hP
    have hs : e 8643 = e 0 - e 1 + bP := by omega
    rw [hs]
    exact (md_eq (-1) (by omega) (by omega) (by omega)).symm
  · have hc : e 3987 = 0 := by
      rcases h1 with ⟨h, _⟩ | ⟨_, h⟩
      · exact absurd (h.symm.trans n) (by decide)
      · have := aq5; clear tot rg ea eb hW; rcases this with ⟨q1, q2⟩; rcases Int.lt_or_le 0 (e 3987) with z | z; exact absurd (show e 3987 = 1 from Int.le_antisymm q2 z) h; exact Int.le_antisymm z q1
    intro h2 h3
    refine fin _ ?_
    rw [← h2] at tot rg
    clear ap0 ap1 ap2 ap3 ap4 ap5 ar0 ar1 ar2 ar3 ar4 ar5 ea eb h2 hW h3
    have hs : e 4323 = e 0 - e 1 := by omega
    rw [hs]
    exact (Int.emod_eq_of_lt (by omega) (by omega)).symm
theorem q_0 : (0 : Int) = toE 0 := toE_0.symm
def tENeg : Tree := (.req 0 [(.lit 0), (.var 0)]
(.lett 1 .num (.app 0 0 [(.lit 0), (.var 0)])
(.ret [(.var 1)])))
theorem law_eNeg (f1 f : FuncId) (e : Nat → Int) (hk : kkHas [.num] [e 0]) (hp : (kENeg f).pre [e 0]) : tENeg.says [kESub f1] ⟨fun ys => ys = (kENeg f).sem [e 0], []⟩ e := by
  have u0 : e 0 < bP := hp
  refine ⟨⟨bP_pos, u0⟩, fun a1 _ => ?_⟩
  show [e 1] = [toE (-ofE (e 0))]
  rw [show e 1 = toE (ofE 0 - ofE (e 0)) from a1, show ofE 0 = 0 by unfold ofE; rw [Int.zero_mul]; rfl, Int.zero_sub]
theorem mul_of_mont {P : Program} {f : FuncId} (h : (kEMont f).ok P) : (kEMul f).ok P := by
  intro w args xs hin hp
  have hx : ∃ a b, xs = [a, b] := by
    match xs, hp with
    | [a, b], _ => exact ⟨a, b, rfl⟩
  obtain ⟨a, b, rfl⟩ := hx
  have hp' : a < bP ∧ b < bP := hp
  have h1 := insRel_kk _ _ _ hin
  have ka : 0 ≤ a := h1.1.1
  have kb : 0 ≤ b := h1.2.1.1
  have h2 := h w args [a, b] hin hp'.1
  have e1 : (kEMont f).sem [a, b] = (kEMul f).sem [a, b] := by
    show [montv bP a b] = [toE (ofE a * ofE b)]
    rw [E_mul rfl (E_of ka hp'.1) (E_of kb hp'.2)]
  rw [← e1]
  exact h2
def kEWide (f : FuncId) : K := { fn := f, ext := false, ins := [], outs := [oN], pre := fun _ => True, sem := fun _ => [wideOf bP] }
def kEOne (f : FuncId) : K := { fn := f, ext := false, ins := [], outs := [oN], pre := fun _ => True, sem := fun _ => [toE 1] }
def tEWide : Tree := (.ret [(.lit 2708263910654730174793787626328176511836455197166317677006154293982164122222515399004018013397331347120527951271750)])
theorem law_eWide (f : FuncId) (e : Nat → Int) : tEWide.says [] ⟨fun ys => ys = (kEWide f).sem [], []⟩ e := by
  show [(_ : Int)] = [wideOf bP]
  rw [show wideOf bP = 2708263910654730174793787626328176511836455197166317677006154293982164122222515399004018013397331347120527951271750 by decide +kernel]; rfl
def tEOne : Tree := (.ret [(.lit 3380320199399472671518931668520476396067793891014375699959770179129436917079669831430077592723774664465579537268733)])
theorem law_eOne (f : FuncId) (e : Nat → Int) : tEOne.says [] ⟨fun ys => ys = (kEOne f).sem [], []⟩ e := by
  show [(3380320199399472671518931668520476396067793891014375699959770179129436917079669831430077592723774664465579537268733 : Int)] = [toE 1]
  rw [show toE 1 = N384 % bP by unfold toE; rw [Int.one_mul]]
  decide +kernel
def tETo : Tree := (.req 1 []
(.lett 1 .num (.app 1 0 [])
(.req 0 [(.var 1), (.var 0)]
(.lett 97 .num (.app 0 0 [(.var 1), (.var 0)])
(.ret [(.var 97)])))))
theorem law_eTo (f1 f2 f : FuncId) (e : Nat → Int) (hk : kkHas [.num] [e 0]) : tETo.says [kEMont f1, kEWide f2] ⟨fun ys => ys = (kETo f).sem [e 0], []⟩ e := by
  refine ⟨trivial, fun a1 _ => ⟨?_, fun a2 _ => ?_⟩⟩
  · show e 1 < bP
    rw [show e 1 = wideOf bP from a1]; exact (wide_lt bP_pos).2
  · show [e 97] = [toE (e 0)]
    rw [show e 97 = montv bP (e 1) (e 0) from a2, show e 1 = wideOf bP from a1, E_to]
def tEFrom : Tree := (.req 0 [(.var 0), (.lit 1)]
(.lett 1 .num (.app 0 0 [(.var 0), (.lit 1)])
(.ret [(.var 1)])))
theorem law_eFrom (f1 f : FuncId) (e : Nat → Int) (hk : kkHas [.num] [e 0]) (hp : (kEFrom f).pre [e 0]) : tEFrom.says [kEMont f1] ⟨fun ys => ys = (kEFrom f).sem [e 0], []⟩ e := by
  have u0 : e 0 < bP := hp
  refine ⟨u0, fun a1 _ => ?_⟩
  show [e 1] = [ofE (e 0)]
  rw [show e 1 = montv bP (e 0) 1 from a1, E_from]
end Go.Sx
