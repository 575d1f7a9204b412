/- A polynomial's value by share: a range over slices.Backward. -/
import Derived.Test.YtlddchekkjjleaaGreatGd
import Derived.Test.YtlddchekkjjleaaGreatHe
import Derived.RangeFuncNested
import Derived.RangeFuncLeaves
import Derived.Shelf.Abstract
import Derived.WalkKit
import Derived.OwnWalkIn
import Derived.TacticsInMore
import Derived.LoopNIn
import Derived.LoopIn
import Derived.Test.YtlddchekkjjleaaGreatProg
set_option linter.unusedVariables false
set_option linter.unusedSimpArgs false
namespace Go.Sx
open Go Go.Proofs Go.RowKit Go.Shelf
attribute [local go_sem] Oper.semAt_some
set_option linter.unusedVariables false
set_option maxHeartbeats 1000000 in
theorem bw_in (F : Fence) (n : Nat) (h5 : F.fn 213) (hro : F.round = none) (a : Option Addr) (len cap : Nat) (w : World) :
    CallsIn F n Tryz.prog 213 #[.slice a len cap] w fun e w' => e = .returned (.func (.func 311) #[] #[.pointer (some ⟨w.heap.size, 0, none⟩)]) ∧ w' = w.alloc (.cells #[.slice a len cap] 79) := by
  refine callsIn_of_wp Tryz.func213 rfl h5 ?_ hro
  simp only [Tryz.ntmps213, List.size_toArray, List.length_cons, List.length_nil, Nat.reduceAdd, Nat.reduceSub, Array.replicate_succ, Array.replicate_zero, List.push_toArray, List.append_toArray, List.nil_append, List.cons_append]
  gi_wp2
  go_ret
  exact ⟨rfl, rfl⟩
/-- numbers below a bound -/
abbrev Sub (B : Int) : Type := { z : Int // 0 ≤ z ∧ z < B }
def upto {α : Type} (f : Nat → α) (k : Nat) : List α := (List.range k).map f
theorem upto_succ {α : Type} (f : Nat → α) (k : Nat) : upto f (k + 1) = upto f k ++ [f k] := by simp [upto, List.range_succ]
theorem upto_length {α : Type} (f : Nat → α) (k : Nat) : (upto f k).length = k := by simp [upto]
/-- what a round keeps -/
def Kept (n₀ Bs : Nat) (W W' : World) : Prop := Below n₀ W W' ∧ W'.heap[Bs]? = W.heap[Bs]?
def encP {B : Int} (x : Nat × Sub B) : Array Value := #[.int .i64 (x.1 : Int), .agg #[.int .u64 (x.2.1 / p64 0 % 18446744073709551616), .int .u64 (x.2.1 / p64 1 % 18446744073709551616), .int .u64 (x.2.1 / p64 2 % 18446744073709551616), .int .u64 (x.2.1 / p64 3 % 18446744073709551616), .int .u64 (x.2.1 / p64 4 % 18446744073709551616), .int .u64 (x.2.1 / p64 5 % 18446744073709551616)]]
/-- the q-th from the end -/
def fromEnd {B : Int} (zs : List (Sub B)) (d : Sub B) (k : Nat) : Nat × Sub B := (zs.length - (k + 1), zs[zs.length - (k + 1)]?.getD d)
set_option maxRecDepth 100000 in
set_option maxHeartbeats 4000000 in
theorem bw1_in (F : Fence) (n : Nat) (h7 : F.fn 311) (hro : F.round = none) (hn : 1 ≤ n) {B : Int} (l Bs n₀ b off cap : Nat) (zs : List (Sub B)) (d : Sub B) (hreach : zs.length ≤ 1000) (hb : b < n₀) (J Jx : List (Nat × Sub B) → World → Prop)
    (hY : ∀ pre x W, J pre W → pre.length < zs.length → YieldAt F (n - 1) Tryz.prog l (encP x) W fun e W' =>
      (e = .returned (.bool true) ∧ J (pre ++ [x]) W' ∧ Kept n₀ Bs W W') ∨ (e = .returned (.bool false) ∧ Jx (pre ++ [x]) W'))
    (W : World) (hBs : W.cell? ⟨Bs, 0, none⟩ = some (.slice (some ⟨b, off, none⟩) zs.length cap)) (hc : ∀ k, k < zs.length → ∀ j, j < 6 → W.cell? ⟨b, off + k * 6 + j, none⟩ = some (.int .u64 ((zs[k]?.getD d).1 / p64 j % 18446744073709551616))) (h0 : J [] W) :
    CallsIn F n Tryz.prog 311 #[.func (.yield l) #[] #[], .pointer (some ⟨Bs, 0, none⟩)] W fun e W' => (∃ v, e = .returned v) ∧
      ((∃ ys, ys = upto (fromEnd zs d) zs.length ∧ J ys W') ∨ (∃ pre, True ∧ Jx pre W')) := by
  refine callsIn_of_wp Tryz.func311 rfl h7 ?_ hro
  simp only [Tryz.ntmps311, List.size_toArray, List.length_cons, List.length_nil, Nat.reduceAdd, Nat.reduceSub, Array.replicate_succ, Array.replicate_zero, List.push_toArray, List.append_toArray, List.nil_append, List.cons_append]
  gi_wp2
  gi_loopw [3] (fun i wr => ∃ q : Nat, q ≤ zs.length ∧ i = .int .i64 ((q : Int) - 1) ∧ J (upto (fromEnd zs d) (zs.length - q)) wr ∧ Kept n₀ Bs W wr)
    (fun i _ => (intOf i + 1).toNat)
  case atStart => exact ⟨zs.length, Nat.le_refl _, rfl, by rw [Nat.sub_self]; exact h0, Below.refl _ _, rfl⟩
  case round =>
    obtain ⟨q, hq, rfl, hJs, hnx⟩ := hrel
    have hBs' : wr.cell? ⟨Bs, 0, none⟩ = some (.slice (some ⟨b, off, none⟩) zs.length cap) := (World.cell?_of_block hnx.2).trans hBs
    rcases q with _ | p
    · gi_wp2
      go_end0
      exact ⟨⟨_, rfl⟩, .inl ⟨_, rfl, hJs⟩⟩
    · obtain ⟨fn, tmps, assign, body, hy, hR⟩ := hY _ (p, zs[p]?.getD d) wr hJs (by rw [upto_length]; omega)
      have e1 : ((p + 1 : Nat) : Int) - 1 = (p : Int) := by omega
      rw [e1]
      have hcx : ∀ j, j < 6 → wr.cell? ⟨b, off + p * 6 + j, none⟩ = some (.int .u64 ((zs[p]?.getD d).1 / p64 j % 18446744073709551616)) := fun j hj => (hnx.1.cell (p := ⟨b, off + p * 6 + j, none⟩) hb).trans (hc p (by omega) j hj)
      have c0 := hcx 0 (by decide)
      have c1 := hcx 1 (by decide)
      have c2 := hcx 2 (by decide)
      have c3 := hcx 3 (by decide)
      have c4 := hcx 4 (by decide)
      have c5 := hcx 5 (by decide)
      rw [Nat.add_zero] at c0
      simp only [encP] at hy
      gi_wp2
      refine hR.mono ?_
      rintro e W3 (⟨rfl, hJ3, hk3⟩ | ⟨rfl, hJx3⟩)
      · gi_wp2
        go_roundw
        case rel =>
          refine ⟨p, by omega, rfl, ?_, hnx.1.trans hk3.1, hk3.2.trans hnx.2⟩
          rw [show zs.length - p = zs.length - (p + 1) + 1 by omega, upto_succ]
          have e2 : zs.length - (zs.length - (p + 1) + 1) = p := by omega
          have e3 : fromEnd zs d (zs.length - (p + 1)) = (p, zs[p]?.getD d) := by simp only [fromEnd, e2]
          rw [e3]
          exact hJ3
        case measure => simp [intOf]
      · gi_wp2
        refine bodyPost_ret (results_none rfl _ _ _) rfl ?_
        exact ⟨⟨_, rfl⟩, .inr ⟨_, trivial, hJx3⟩⟩
set_option maxRecDepth 100000 in
set_option maxHeartbeats 1000000 in
theorem bw1_nil_in (F : Fence) (n : Nat) (h7 : F.fn 311) (hro : F.round = none) {B : Int} (l Bs : Nat) (a : Option Addr) (cap : Nat) (J : List (Nat × Sub B) → World → Prop) (W : World) (hBs : W.cell? ⟨Bs, 0, none⟩ = some (.slice a 0 cap)) (h0 : J [] W) :
    CallsIn F n Tryz.prog 311 #[.func (.yield l) #[] #[], .pointer (some ⟨Bs, 0, none⟩)] W fun e W' => (∃ v, e = .returned v) ∧ J [] W' := by
  refine callsIn_of_wp Tryz.func311 rfl h7 ?_ hro
  simp only [Tryz.ntmps311, List.size_toArray, List.length_cons, List.length_nil, Nat.reduceAdd, Nat.reduceSub, Array.replicate_succ, Array.replicate_zero, List.push_toArray, List.append_toArray, List.nil_append, List.cons_append]
  gi_wp2
  gi_loopw [3] (fun i wr => i = .int .i64 (-1) ∧ J [] wr) (fun _ _ => 0)
  case atStart => exact ⟨rfl, h0⟩
  case round =>
    obtain ⟨rfl, hJs⟩ := hrel
    gi_wp2
    go_end0
    exact ⟨⟨_, rfl⟩, hJs⟩
theorem bw_stops (F : Fence) (n : Nat) (h7 : F.fn 311) (hro : F.round = none) (hn : 1 ≤ n) {B : Int} (Bs n₀ : Nat) (sv : Value) (zs : List (Sub B)) (d : Sub B) (hreach : zs.length ≤ 1000) (w : World) (hBs : Bs < w.heap.size) (hn₀ : n₀ ≤ w.heap.size)
    (hc : w.cell? ⟨Bs, 0, none⟩ = some sv) (hI : ∃ w1 : World, w1.heap.size = n₀ ∧ Below n₀ w1 w ∧ RoRow w1 w1 .num sv (zs.map (·.1))) :
    SeqStopsK F n Tryz.prog 311 #[.pointer (some ⟨Bs, 0, none⟩)] encP (Kept n₀ Bs) (fun ys => ys = upto (fromEnd zs d) zs.length) (fun _ => True) zs.length w := fun l J Jx W hW _ _ hY h0 => by
  have hc' := (hW.cell (p := ⟨Bs, 0, none⟩) hBs).trans hc
  obtain ⟨w1, hw1, hb1, hro1⟩ := hI
  rcases hro1 with ⟨rfl, hz⟩ | ⟨ad, cap, rfl, hb, hcap, hcells⟩
  · have hz : zs = [] := List.map_eq_nil_iff.1 hz
    subst hz
    exact (bw1_nil_in F n h7 hro l Bs none 0 J W hc' h0).mono fun e W' ⟨he, hj⟩ => ⟨he, .inl ⟨_, rfl, hj⟩⟩
  · simp only [List.length_map] at hc'
    cases zs with
    | nil => exact (bw1_nil_in F n h7 hro l Bs (some ad) cap J W hc' h0).mono fun e W' ⟨he, hj⟩ => ⟨he, .inl ⟨_, rfl, hj⟩⟩
    | cons z zs =>
      have at_ : ∀ k, k < (z :: zs).length → ∀ j, j < 6 → W.cell? (ad.add (k * 6 + j)) = some (.int .u64 (((z :: zs)[k]?.getD d).1 / p64 j % 18446744073709551616)) := by
        intro k hk j hj
        have h1 := flat_get .num ((z :: zs).map (·.1)) k (by simpa using hk) j hj
        have h2 : (LK.num.vals (((z :: zs).map (·.1)).getD k 0))[j]? = some (.int .u64 (((z :: zs)[k]?.getD d).1 / p64 j % 18446744073709551616)) := by
          have hk' : ((z :: zs).map (·.1)).getD k 0 = ((z :: zs)[k]?.getD d).1 := by
            rw [List.getD_eq_getElem?_getD, List.getElem?_map, List.getElem?_eq_getElem hk]; rfl
          rw [hk']
          simp only [LK.vals, limbs, List.getElem?_map, List.getElem?_range hj, Option.map_some]
        have h3 := hcells _ _ (h1.trans h2)
        rw [← h3]
        have h4 : Below n₀ w1 W := hb1.trans (hW.mono hn₀)
        exact h4.cell (p := ad.add (k * 6 + j)) (by rw [add_block, ← hw1]; exact hb)
      have hspot : ad.spot = none := by
        have := at_ 0 (by simp) 0 (by decide)
        rw [Nat.zero_mul, Nat.add_zero, add_zero_] at this
        unfold World.cell? at this
        split at this
        · split at this
          · cases this
          · rename_i h; cases hs : ad.spot with
            | none => rfl
            | some x => rw [hs] at h; simp at h
        · cases this
      obtain ⟨b, off, spot⟩ := ad
      simp only at hspot
      subst hspot
      refine (bw1_in F n h7 hro hn l Bs n₀ b off cap (z :: zs) d hreach (by rw [← hw1]; exact hb) J Jx hY W hc' (fun k hk j hj => ?_) h0).mono ?_
      · have := at_ k hk j hj
        have e : (⟨b, off, none⟩ : Addr).add (k * 6 + j) = ⟨b, off + k * 6 + j, none⟩ := by
          unfold Addr.add
          split
          · rename_i h; have h1 : k = 0 := by omega
            have h2 : j = 0 := by omega
            subst h1 h2; rfl
          · simp [Nat.add_assoc]
        rw [e] at this
        exact this
      · rintro e W' ⟨he, h⟩
        exact ⟨he, h⟩
end Go.Sx

/- A polynomial's value by share: a round's body. -/
namespace Go.Sx
open Go Go.Proofs Go.RowKit Go.Shelf
set_option linter.unusedVariables false
theorem lift_sub {B : Int} : ∀ l : List Int, (∀ z ∈ l, 0 ≤ z ∧ z < B) → ∃ zs : List (Sub B), zs.map (·.1) = l
  | [], _ => ⟨[], rfl⟩
  | z :: l, h => by
    obtain ⟨zs, hz⟩ := lift_sub l fun y hy => h y (List.mem_cons_of_mem _ hy)
    exact ⟨⟨z, h z (List.mem_cons_self ..)⟩ :: zs, by rw [List.map_cons, hz]⟩
def limA (x : Int) : Array Value := #[.int .u64 (x / p64 0 % 18446744073709551616), .int .u64 (x / p64 1 % 18446744073709551616), .int .u64 (x / p64 2 % 18446744073709551616), .int .u64 (x / p64 3 % 18446744073709551616), .int .u64 (x / p64 4 % 18446744073709551616), .int .u64 (x / p64 5 % 18446744073709551616)]
theorem limA_eq (x : Int) : (limbs x).toArray = limA x := by simp [limbs, limA, List.range, List.range.loop]
def limC (v : Nat) : List C := (List.range 6).map fun j => .int .u64 (.limb v j)
def opsOf : Code → Nat → Option (Array Oper)
  | .region i ops _, n => if i == n then some ops else none
  | .seq a b, n => (opsOf a n).orElse fun _ => opsOf b n
  | .block _ a, n => opsOf a n
  | .rangeFunc _ _ a b, n => (opsOf a n).orElse fun _ => opsOf b n
  | _, _ => none
noncomputable def rg4 : Array Oper := match Tryz.f112.body with
  | some c => (opsOf c 4).getD #[]
  | none => #[]
noncomputable def last4 : Oper := rg4.back?.getD { dst := none, op := .move (.const (.bool false)), type := 0, pos := "", after := #[], guard := none }
theorem last4_eq : rg4.back? = some last4 := by kernel_rfl
theorem last4_op : last4.op = .store 25 (.tmp 7) (.tmp 20) := by kernel_rfl
theorem last4_dst : last4.dst = none := by kernel_rfl
theorem last4_guard : last4.guard = none := by kernel_rfl
theorem tail4 : tailB rg4 last4 = true := by kernel_rfl
theorem nd4 : rg4.toList.all (fun o => !isDefer o.op) = true := by kernel_rfl
theorem draw4 : drawOk (rg4.pop.push (tailOp last4)) = true := by kernel_rfl
theorem mixed4 : Tryz.prog.follows .mixedOrders = true := by kernel_rfl
def fvS : St := { tmps := ((((List.replicate 22 topS).set 3 (.vl (.one (.ptr 0 0)))).set 5 (.vl (.one (.ptr 1 0)))).set 7 (.vl (.one (.ptr 2 0)))).set 9 (.vl (.one (.ptr 3 0))), boxes := [some { cells := [.int .i64 (.var 0)], elem := 157, own := false }, some { cells := limC 1, elem := 25, own := false }, some { cells := limC 2, elem := 25, own := false }, some { cells := limC 3, elem := 25, own := false }], nv := 4, kn := [], gl := [], lvl := 0 }
def isAt (σ : St) (t : Nat) (x : SV) : Bool := match σ.tmps[t]? with | some s => sEqb s x | none => false
noncomputable def kkF (ops' : Array Oper) (v : Nat) (σ' : St) : Tree :=
  if allOk σ' ops' && isAt σ' 20 (.vl (.agg (limC v))) && isAt σ' 7 (.vl (.one (.ptr 2 0))) then .ret [.var v] else .bad 999 ""
theorem isAt_get {σ : St} {t : Nat} {x : SV} (h : isAt σ t x = true) : σ.tmps[t]? = some x := by
  unfold isAt at h
  split at h
  · rename_i s e; rw [e, sEqb_ok h]
  · cases h
theorem kkF_holds {ops' : Array Oper} {v : Nat} {σ' : St} {T : List K} {g : Gl} {e : Nat → Int} (h : (kkF ops' v σ').holds T g e) : allOk σ' ops' = true ∧ σ'.tmps[20]? = some (.vl (.agg (limC v))) ∧ σ'.tmps[7]? = some (.vl (.one (.ptr 2 0))) ∧ g.goal [e v] := by
  unfold kkF at h
  by_cases hc : (allOk σ' ops' && isAt σ' 20 (.vl (.agg (limC v))) && isAt σ' 7 (.vl (.one (.ptr 2 0)))) = true
  · rw [if_pos hc] at h
    simp only [Bool.and_eq_true] at hc
    exact ⟨hc.1.1, isAt_get hc.1.2, isAt_get hc.2, h⟩
  · rw [if_neg hc] at h
    exact False.elim h
def fT : List K := [kF2 215 (fun a b => a * b), kF2 214 (fun a b => a + b)]
def fTree : Tree := (.req 0 [(.var 0), (.var 2), (.var 1)]
(.lett 196 .num (.app 0 0 [(.var 0), (.var 2), (.var 1)])
(.req 1 [(.var 0), (.var 196), (.var 3)]
(.lett 292 .num (.app 1 0 [(.var 0), (.var 196), (.var 3)])
(.ret [(.var 292)])))))
theorem lex4 : lexK Tryz.prog fT (rg4.pop.push (tailOp last4)) fvS.nv fvS.boxes.length 10 (rg4.pop.push (tailOp last4)).toList 0 { fvS with nv := fvS.nv + (rg4.pop.push (tailOp last4)).size * stride, boxes := fvS.boxes ++ List.replicate (rg4.pop.push (tailOp last4)).size none } (kkF (rg4.pop.push (tailOp last4)) 292) = fTree := by kernel_rfl
/-- one step of the fold -/
def stepF (s a acc c : Int) : Int := (acc * a % rOf s + c) % rOf s
theorem rOf_pos {s : Int} (h : isS s) : 0 < rOf s := by have := rOf_big h; omega
theorem stepF_lt {s : Int} (h : isS s) (a acc c : Int) : 0 ≤ stepF s a acc c ∧ stepF s a acc c < rOf s := by
  have := rOf_pos h
  exact ⟨Int.emod_nonneg _ (by omega), Int.emod_lt_of_pos _ this⟩
def fM (s a acc c : Int) (b0 b1 b2 b3 : Nat) : M := { env := fun i => match i with | 0 => s | 1 => a | 2 => acc | _ => c, rho := fun id => (match id with | 0 => b0 | 1 => b1 | 2 => b2 | _ => b3, 0), ext := fun _ => .nilFunc }
theorem rOf_N {s : Int} (h : isS s) : rOf s < N384 := by
  obtain ⟨h0, h1⟩ := h
  have : s = 0 ∨ s = 1 ∨ s = 2 := by omega
  rcases this with h | h | h <;> rw [h] <;> decide
theorem isS_has {s : Int} (h : isS s) : has .i64 s := by
  obtain ⟨h0, h1⟩ := h
  simp only [has, lo, hi]; omega
theorem limC_get {v j : Nat} {c : C} (h : (limC v)[j]? = some c) : j < 6 ∧ c = .int .u64 (.limb v j) := by
  have hj : j < 6 := by
    have := (List.getElem?_eq_some_iff.1 h).1
    simpa [limC] using this
  refine ⟨hj, ?_⟩
  simp only [limC, List.getElem?_map, List.getElem?_range hj, Option.map_some] at h
  exact (Option.some.inj h).symm
theorem limA_get {x : Int} {j : Nat} (hj : j < 6) : (limA x)[j]? = some (.int .u64 (x / p64 j % 18446744073709551616)) := by
  rw [← limA_eq, List.getElem?_toArray]
  simp only [limbs, List.getElem?_map, List.getElem?_range hj, Option.map_some]
theorem cell_heap {W : World} {b j : Nat} {vs : Array Value} {e : TypeId} (h : W.heap[b]? = some (.cells vs e (0, 0))) : W.cell? ⟨b, j, none⟩ = vs[j]? := by
  simp [World.cell?, h]
theorem limC_ro {m : M} {al : Nat → Bool} {W : World} {v b : Nat} {x : Int} {e : TypeId} (hv : v < 4) (hx : m.env v = x) (h0 : 0 ≤ x ∧ x < N384) (hb : W.heap[b]? = some (.cells (limA x) e (0, 0))) : ∀ j c, (limC v)[j]? = some c → ∃ u, W.cell? ⟨b, 0 + j, none⟩ = some u ∧ c.rel m 4 al u := by
  intro j c hc
  obtain ⟨hj, rfl⟩ := limC_get hc
  refine ⟨_, by rw [cell_heap hb, Nat.zero_add, limA_get hj], ⟨hv, ?_⟩, ?_, ?_⟩
  · show 0 ≤ m.env v ∧ m.env v < N384
    rw [hx]; exact h0
  · simp only [has, lo, hi, A.ev]; omega
  · rw [← hx]; rfl
theorem fvS_rep {s a acc c : Int} (hs : isS s) (ha : 0 ≤ a ∧ a < rOf s) (hacc : 0 ≤ acc ∧ acc < rOf s) (hc : 0 ≤ c ∧ c < rOf s) {b0 b1 b2 b3 : Nat} {W : World} {act : Act}
    (h0 : W.heap[b0]? = some (.cells #[.int .i64 s] 157 (0, 0))) (h1 : W.heap[b1]? = some (.cells (limA a) 25 (0, 0))) (h2 : W.heap[b2]? = some (.cells (limA acc) 25 (0, 0))) (h3 : W.heap[b3]? = some (.cells (limA c) 25 (0, 0)))
    (hd : act.defers = []) (hz : act.tmps.size = 22) (t3 : act.tmps[3]? = some (.pointer (some ⟨b0, 0, none⟩))) (t5 : act.tmps[5]? = some (.pointer (some ⟨b1, 0, none⟩))) (t7 : act.tmps[7]? = some (.pointer (some ⟨b2, 0, none⟩))) (t9 : act.tmps[9]? = some (.pointer (some ⟨b3, 0, none⟩))) :
    Rep W (fM s a acc c b0 b1 b2 b3) fvS act W := by
  have hN := rOf_N hs
  have own0 : ∀ (id : Nat) (b : Box), fvS.boxes[id]? = some (some b) → b.own = false ∧ b.row = none := by
    intro id b hb
    rcases id with _ | _ | _ | _ | id
    all_goals (simp only [fvS] at hb; first | (cases hb; exact ⟨rfl, rfl⟩) | cases hb)
  have h0l := (Array.getElem?_eq_some_iff.1 h0).1
  have h1l := (Array.getElem?_eq_some_iff.1 h1).1
  have h2l := (Array.getElem?_eq_some_iff.1 h2).1
  have h3l := (Array.getElem?_eq_some_iff.1 h3).1
  refine ⟨hd, by rw [hz]; simp [fvS], ?_, Below.refl _ _, ?_, ?_, ?_, by simp [fvS], by simp [fvS], ?_, ?_, ?_⟩
  · intro i s' hi
    have hlt : i < 22 := by have := (List.getElem?_eq_some_iff.1 hi).1; simpa [fvS] using this
    simp only [fvS] at hi
    by_cases e9 : i = 9
    · subst e9; rw [List.getElem?_set_self (by simp)] at hi; cases hi; exact ⟨_, t9, rfl, rfl⟩
    rw [List.getElem?_set_ne (by omega)] at hi
    by_cases e7 : i = 7
    · subst e7; rw [List.getElem?_set_self (by simp)] at hi; cases hi; exact ⟨_, t7, rfl, rfl⟩
    rw [List.getElem?_set_ne (by omega)] at hi
    by_cases e5 : i = 5
    · subst e5; rw [List.getElem?_set_self (by simp)] at hi; cases hi; exact ⟨_, t5, rfl, rfl⟩
    rw [List.getElem?_set_ne (by omega)] at hi
    by_cases e3 : i = 3
    · subst e3; rw [List.getElem?_set_self (by simp)] at hi; cases hi; exact ⟨_, t3, rfl, rfl⟩
    rw [List.getElem?_set_ne (by omega), List.getElem?_replicate, if_pos hlt] at hi
    cases hi
    exact ⟨_, Array.getElem?_eq_getElem (by omega), trivial⟩
  · intro id b hb ho
    rw [(own0 id b hb).1] at ho; cases ho
  · intro id b hb _
    rcases id with _ | _ | _ | _ | id
    · cases hb
      refine .inr ⟨h0l, fun j c hc => ?_⟩
      rcases j with _ | j
      · cases hc
        exact ⟨_, (cell_heap h0).trans rfl, ⟨by show 0 < 4; omega, trivial⟩, isS_has hs, rfl⟩
      · cases hc
    · cases hb
      exact .inr ⟨h1l, limC_ro (x := a) (by omega) rfl (by omega) h1⟩
    · cases hb
      exact .inr ⟨h2l, limC_ro (x := acc) (by omega) rfl (by omega) h2⟩
    · cases hb
      exact .inr ⟨h3l, limC_ro (x := c) (by omega) rfl (by omega) h3⟩
    · cases hb
  · intro id id' b b' hb hb' ho
    rw [(own0 id b hb).1] at ho; cases ho
  · intro id b r hb hr
    rw [(own0 id b hb).2] at hr; cases hr
  · intro id b r hb hr
    rw [(own0 id b hb).2] at hr; cases hr
  · intro id b r id' b' r' hb hr
    rw [(own0 id b hb).2] at hr; cases hr
theorem fTree_holds {s a acc c : Int} (hs : isS s) (ha : 0 ≤ a ∧ a < rOf s) (hacc : 0 ≤ acc ∧ acc < rOf s) (hc : 0 ≤ c ∧ c < rOf s) (b0 b1 b2 b3 : Nat) : fTree.holds fT ⟨fun ys => ys = [stepF s a acc c], []⟩ (fM s a acc c b0 b1 b2 b3).env := by
  have hr := rOf_pos hs
  unfold fTree
  simp only [Tree.holds]
  refine ⟨⟨hs, hacc.2, ha.2⟩, fun v hv _ => ?_⟩
  have hv' : v = acc * a % rOf s := hv
  refine ⟨⟨hs, ?_, hc.2⟩, fun u hu _ => ?_⟩
  · show v < rOf s
    rw [hv']; exact Int.emod_lt_of_pos _ hr
  · have hu' : u = (v + c) % rOf s := hu
    show [u] = _
    rw [hu', hv']
    rfl
theorem limC_rels {m : M} {nv : Nat} {al : Nat → Bool} {v : Nat} {vs : List Value} (h : Rels m nv al (limC v) vs) : vs.toArray = limA (m.env v) := by
  have h' : Rels m nv al [.int .u64 (.limb v 0), .int .u64 (.limb v 1), .int .u64 (.limb v 2), .int .u64 (.limb v 3), .int .u64 (.limb v 4), .int .u64 (.limb v 5)] vs := h
  rcases vs with _ | ⟨v0, _ | ⟨v1, _ | ⟨v2, _ | ⟨v3, _ | ⟨v4, _ | ⟨v5, _ | ⟨v6, vs⟩⟩⟩⟩⟩⟩⟩
  all_goals simp only [Rels, C.rel, A.ev, and_false] at h'
  obtain ⟨⟨_, _, rfl⟩, ⟨_, _, rfl⟩, ⟨_, _, rfl⟩, ⟨_, _, rfl⟩, ⟨_, _, rfl⟩, ⟨_, _, rfl⟩, _⟩ := h'
  rfl
theorem sz25 : szOf Tryz.prog 25 = some 6 := by kernel_rfl
theorem eval_get {a : Act} {t : Nat} {v : Value} (h : a.tmps[t]? = some v) : a.eval (.tmp t) = v := by
  simp [Act.eval, h]
/-- the round's last store -/
theorem last_store {a : Act} {w : World} {b : Nat} {old x : Int} {Q : Act → World → Prop} {R : Exit → Act → World → Prop} (h7 : a.tmps[7]? = some (.pointer (some ⟨b, 0, none⟩))) (h20 : a.tmps[20]? = some (.agg (limA x))) (hb : w.heap[b]? = some (.cells (limA old) 25 (0, 0)))
    (hQ : Q a (w.setRow b (limA x))) : last4.wp Tryz.prog a w Q R := by
  have hst := run_storeCells_at Tryz.prog b 0 25 (limA x).toList 0 (limA old) w hb (by simp [limA]) (by intro v hv; simp only [limA, List.mem_cons, List.not_mem_nil, or_false] at hv; rcases hv with rfl | rfl | rfl | rfl | rfl | rfl <;> rfl)
  have hst' : (storeCells ⟨b, 0, none⟩ (limA x).toList 0).run Tryz.prog w = .ok () (w.setRow b (limA x)) := by
    rw [hst]; simp [limA]
  unfold Oper.wp
  have hex : (execOp a.eval last4).run Tryz.prog w = .ok .skip (w.setRow b (limA x)) := by
    simp only [execOp, last4_op, eval_get h7, eval_get h20, Instr.storeAt, Instr.sureAddr]
    have hsz : ¬ (Value.agg (limA x)).cells.size ≠ 6 := by simp [Value.cells, limA]
    simp only [storeVar, Sem.run_bind, Sem.run_pure, Result.andThen_ok, run_sizeOf sz25]
    rw [if_neg hsz]
    simp only [Value.cells]
    simp [hst']
  rw [hex, Oper.upon_skip, last4_dst]
  exact hQ
/-- the round's body: the fold's next step -/
theorem fval_round (hT : ∀ (g : Nat) κ, fT[g]? = some κ → κ.ok Tryz.prog) {s a acc c : Int} (hs : isS s) (ha : 0 ≤ a ∧ a < rOf s) (hacc : 0 ≤ acc ∧ acc < rOf s) (hc : 0 ≤ c ∧ c < rOf s) {b0 b1 b2 b3 l n : Nat} {W : World} {act : Act} {Q : Exit → Act → World → Prop}
    (h0 : W.heap[b0]? = some (.cells #[.int .i64 s] 157 (0, 0))) (h1 : W.heap[b1]? = some (.cells (limA a) 25 (0, 0))) (h2 : W.heap[b2]? = some (.cells (limA acc) 25 (0, 0))) (h3 : W.heap[b3]? = some (.cells (limA c) 25 (0, 0)))
    (hd : act.defers = []) (hz : act.tmps.size = 22) (t3 : act.tmps[3]? = some (.pointer (some ⟨b0, 0, none⟩))) (t5 : act.tmps[5]? = some (.pointer (some ⟨b1, 0, none⟩))) (t7 : act.tmps[7]? = some (.pointer (some ⟨b2, 0, none⟩))) (t9 : act.tmps[9]? = some (.pointer (some ⟨b3, 0, none⟩)))
    (hQ : ∀ a' w', Below W.heap.size W w' → Q .normal a' (w'.setRow b2 (limA (stepF s a acc c)))) : (Code.region 4 rg4 true).wpIn (Fence.wide.inRound l) n Tryz.prog Q act W := by
  refine draw_tail_in (kk := kkF (rg4.pop.push (tailOp last4)) 292) (goal := ⟨fun ys => ys = [stepF s a acc c], []⟩) mixed4 (T := fT) hT (fvS_rep hs ha hacc hc h0 h1 h2 h3 hd hz t3 t5 t7 t9) last4_eq tail4 nd4 draw4 (by rw [lex4]; exact fTree_holds hs ha hacc hc b0 b1 b2 b3) ?_ ?_
  · intro m' a' w' σ0 σ' hx hR hp hn hl hk
    rw [last4_dst, St.put_def] at hp
    simp only at hp
    subst hp
    obtain ⟨_, e1, e2, hy⟩ := kkF_holds hk
    have hy : m'.env 292 = stepF s a acc c := (List.cons.inj hy).1
    obtain ⟨v1, f1, vs, rfl, r1⟩ := hR.tmp 20 _ e1
    obtain ⟨v2, f2, r2⟩ := hR.tmp 7 _ e2
    have r2' : v2 = .pointer (some (m'.at 2 0)) := r2.2
    have hrho : m'.rho 2 = (b2, 0) := (hx.rho 2 rfl).trans rfl
    have had : m'.at 2 0 = ⟨b2, 0, none⟩ := by simp only [M.at, hrho]
    rw [r2', had] at f2
    rw [limC_rels r1, hy] at f1
    have hlt := (Array.getElem?_eq_some_iff.1 h2).1
    exact last_store f2 f1 ((hR.below.block b2 hlt).trans h2) (hQ _ _ hR.below)
  · intro σ' E hk
    exact (kkF_holds hk).1
end Go.Sx

/- A polynomial's value by share: the walk. -/
namespace Go.Sx
open Go Go.Proofs Go.RowKit Go.Shelf
attribute [local go_sem] Oper.semAt_some
set_option linter.unusedVariables false
set_option exponentiation.threshold 400
def HasC (W : World) (B : Nat) (e : TypeId) (vs : Array Value) : Prop := W.heap[B]? = some (.cells vs e (0, 0))
theorem HasC.lt {W : World} {B : Nat} {e : TypeId} {vs : Array Value} (h : HasC W B e vs) : B < W.heap.size := (Array.getElem?_eq_some_iff.1 h).1
theorem HasC.kept {W W' : World} {row : Option Nat} {B : Nat} {e : TypeId} {vs : Array Value} (h : HasC W B e vs) (hg : W.grownBy W' row) (hne : some B ≠ row) : HasC W' B e vs := (hg.block B h.lt hne).trans h
theorem HasC.new (W : World) (e : TypeId) (vs : Array Value) : HasC (W.alloc (.cells vs e)) W.heap.size e vs := World.alloc_heap_new W _
theorem HasC.alloc {W : World} {B : Nat} {e : TypeId} {vs : Array Value} (h : HasC W B e vs) (o : Obj) : HasC (W.alloc o) B e vs := h.kept (World.grownBy_alloc W o none) (by simp)
theorem HasC.below {W W' : World} {B n : Nat} {e : TypeId} {vs : Array Value} (h : HasC W B e vs) (hb : Below n W W') (hn : B < n) : HasC W' B e vs := (hb.block B hn).trans h
theorem hasC_own {β : Type} (B : Nat) (e : TypeId) (f : β → Array Value) : Own (fun s W => HasC W B e (f s)) := fun s X Y row hs hg hrow =>
  hs.kept hg (fun e' => by obtain ⟨o, ho, hc⟩ := hrow B e'.symm; rw [show X.heap[B]? = _ from hs] at ho; cases ho; cases hc)
theorem HasC.setC {W : World} {B : Nat} {e : TypeId} {vs : Array Value} (h : HasC W B e vs) (j : Nat) (v : Value) : HasC (W.setCell ⟨B, j, none⟩ v) B e (vs.setIfInBounds j v) := by
  obtain ⟨hlt, hk⟩ := Array.getElem?_eq_some_iff.1 h
  show (W.heap.modify B _)[B]? = _
  rw [Array.getElem?_eq_getElem (by rw [Array.size_modify]; exact hlt), Array.getElem_modify_self, hk]
  rfl
theorem sz25' : (Tryz.prog.info? 25).map (fun i => i.size) = some 6 := by kernel_rfl
def horF {B : Int} (s a : Int) (pre : List (Nat × Sub B)) : Int := pre.foldl (fun acc x => stepF s a acc x.2.1) 0
theorem horF_snoc {B : Int} (s a : Int) (pre : List (Nat × Sub B)) (x : Nat × Sub B) : horF s a (pre ++ [x]) = stepF s a (horF s a pre) x.2.1 := by simp [horF]
theorem horF_lt {B : Int} {s a : Int} (hs : isS s) (pre : List (Nat × Sub B)) : 0 ≤ horF s a pre ∧ horF s a pre < rOf s := by
  rcases List.eq_nil_or_concat pre with rfl | ⟨l, x, rfl⟩
  · exact ⟨Int.le_refl _, rOf_pos hs⟩
  · rw [List.concat_eq_append, horF_snoc]; exact stepF_lt hs _ _ _
set_option maxRecDepth 100000 in
set_option maxHeartbeats 4000000 in
theorem fval_walk (hT : ∀ (g : Nat) κ, fT[g]? = some κ → κ.ok Tryz.prog) (s a : Int) (hs : isS s) (ha : 0 ≤ a ∧ a < rOf s) (sv : Value) (hsv : ∃ a0 len cap, sv = .slice a0 len cap) (zs : List (Sub (rOf s))) (hlen : zs.length ≤ 1000) (w : World) (hro : RoRow w w .num sv (zs.map (·.1))) :
    CallsIn Fence.wide 5 Tryz.prog 112 #[.agg #[.int .i64 s], sv, .agg (limA a)] w fun e w' => e = .returned (.agg (limA (horF s a (upto (fromEnd zs ⟨0, Int.le_refl _, rOf_pos hs⟩) zs.length)))) ∧ Below w.heap.size w w' := by
  obtain ⟨a0, len, cap, rfl⟩ := hsv
  refine callsIn_of_wp_marks Tryz.func112 rfl trivial ?_ rfl
  simp only [Tryz.ntmps112, List.size_toArray, List.length_cons, List.length_nil, Nat.reduceAdd, Nat.reduceSub, Array.replicate_succ, Array.replicate_zero, List.push_toArray, List.append_toArray, List.nil_append, List.cons_append]
  unfold limA
  gi_wp2_with (refine ⟨trivial, ?_⟩; gi_at_call 213; refine (bw_in Fence.wide _ trivial rfl _ _ _ _).mono ?_; rintro e w' ⟨rfl, rfl⟩)
  have g0 := ((((HasC.new w 157 #[.int .i64 s]).alloc (.cells (limA a) 25)).alloc (.cells (limA 0) 25)).alloc (.cells (limA 0) 25)).alloc (.cells #[.slice a0 len cap] 79)
  have g1 := (((HasC.new (w.alloc (.cells #[.int .i64 s] 157)) 25 (limA a)).alloc (.cells (limA 0) 25)).alloc (.cells (limA 0) 25)).alloc (.cells #[.slice a0 len cap] 79)
  have g2 := ((HasC.new ((w.alloc (.cells #[.int .i64 s] 157)).alloc (.cells (limA a) 25)) 25 (limA 0)).alloc (.cells (limA 0) 25)).alloc (.cells #[.slice a0 len cap] 79)
  have g3 := (HasC.new (((w.alloc (.cells #[.int .i64 s] 157)).alloc (.cells (limA a) 25)).alloc (.cells (limA 0) 25)) 25 (limA 0)).alloc (.cells #[.slice a0 len cap] 79)
  have g4 := HasC.new ((((w.alloc (.cells #[.int .i64 s] 157)).alloc (.cells (limA a) 25)).alloc (.cells (limA 0) 25)).alloc (.cells (limA 0) 25)) 79 #[.slice a0 len cap]
  have hB0 : Below w.heap.size w (((((w.alloc (.cells #[.int .i64 s] 157)).alloc (.cells (limA a) 25)).alloc (.cells (limA 0) 25)).alloc (.cells (limA 0) 25)).alloc (.cells #[.slice a0 len cap] 79)) := (((((Below.refl _ w).alloc (Nat.le_refl _) _).alloc (by simp) _).alloc (by simp; omega) _).alloc (by simp; omega) _).alloc (by simp; omega) _
  have hsz : (((((w.alloc (.cells #[.int .i64 s] 157)).alloc (.cells (limA a) 25)).alloc (.cells (limA 0) 25)).alloc (.cells (limA 0) 25)).alloc (.cells #[.slice a0 len cap] 79)).heap.size = w.heap.size + 5 := by simp
  simp only [World.size_alloc] at g1 g2 g3 g4
  obtain ⟨W0, hW0⟩ : ∃ W0, ((((w.alloc (.cells #[.int .i64 s] 157)).alloc (.cells (limA a) 25)).alloc (.cells (limA 0) 25)).alloc (.cells (limA 0) 25)).alloc (.cells #[.slice a0 len cap] 79) = W0 := ⟨_, rfl⟩
  have hW0' : ((((w.alloc (.cells #[.int .i64 s] 157)).alloc (.cells #[.int .u64 (a / p64 0 % 18446744073709551616), .int .u64 (a / p64 1 % 18446744073709551616), .int .u64 (a / p64 2 % 18446744073709551616), .int .u64 (a / p64 3 % 18446744073709551616), .int .u64 (a / p64 4 % 18446744073709551616), .int .u64 (a / p64 5 % 18446744073709551616)] 25)).alloc (.cells #[.int .u64 0, .int .u64 0, .int .u64 0, .int .u64 0, .int .u64 0, .int .u64 0] 25)).alloc (.cells #[.int .u64 0, .int .u64 0, .int .u64 0, .int .u64 0, .int .u64 0, .int .u64 0] 25)).alloc (.cells #[.slice a0 len cap] 79) = W0 := hW0
  rw [hW0] at g0 g1 g2 g3 g4 hB0 hsz
  rw [hW0']
  clear hW0 hW0'
  refine wpIn_rangeFunc_ownH rfl (by omega) (gf := 311) (lb := #[.pointer (some ⟨w.heap.size + 1 + 1 + 1 + 1, 0, none⟩)]) rfl trivial (enters_of Tryz.func311 (by kernel_rfl) rfl)
    (bw_stops Fence.wide _ trivial rfl (by omega) (w.heap.size + 1 + 1 + 1 + 1) w.heap.size (.slice a0 len cap) zs ⟨0, Int.le_refl _, rOf_pos hs⟩ hlen W0 (by omega) (by omega) ((cell_heap g4).trans rfl) ⟨w, rfl, hB0, hro⟩)
    (fun {A B C} h k => ⟨h.1.trans k.1, k.2.trans h.2⟩) (fun W l o o' hl ho hc hw => ⟨belowK_b (w := W0) (by omega) W l o o' hl ho hc hw, World.putObj_heap_other (by omega)⟩) (Below.refl _ _) (fun _ => rfl)
    (fun pre W => (HasC W w.heap.size 157 #[.int .i64 s] ∧ HasC W (w.heap.size + 1) 25 (limA a) ∧ HasC W (w.heap.size + 1 + 1) 25 (limA 0) ∧ HasC W (w.heap.size + 1 + 1 + 1) 25 (limA (horF s a pre)) ∧ HasC W (w.heap.size + 1 + 1 + 1 + 1) 79 #[.slice a0 len cap]) ∧ Below w.heap.size w W)
    (fun _ _ _ => False)
    (OwnFrom.and (OwnFrom.and (Own.from (hasC_own _ _ _) _) (OwnFrom.and (Own.from (hasC_own _ _ _) _) (OwnFrom.and (Own.from (hasC_own _ _ _) _) (OwnFrom.and (Own.from (hasC_own _ _ _) _) (Own.from (hasC_own _ _ _) _))))) (ownFrom_below (Nat.le_refl _) (by omega)))
    (fun _ _ _ _ _ hs _ _ => hs)
    ⟨⟨g0, g1, g2, g3, g4⟩, hB0⟩
    (fun x a' W => ∃ Bx, w.heap.size + 1 + 1 + 1 + 1 < Bx ∧ HasC W Bx 25 (limA x.2.1) ∧ a'.defers = [] ∧ a'.tmps.size = 22 ∧ a'.tmps[3]? = some (.pointer (some ⟨w.heap.size, 0, none⟩)) ∧ a'.tmps[5]? = some (.pointer (some ⟨w.heap.size + 1, 0, none⟩)) ∧ a'.tmps[7]? = some (.pointer (some ⟨w.heap.size + 1 + 1 + 1, 0, none⟩)) ∧ a'.tmps[9]? = some (.pointer (some ⟨Bx, 0, none⟩)))
    (fun x a' _ X Y row hs hg hr => by obtain ⟨Bx, h1, h2, h3⟩ := hs; exact ⟨Bx, h1, hasC_own Bx 25 (fun (_ : Unit) => limA x.2.1) () X Y row h2 hg (fun r e => (hr r e).2), h3⟩)
    ?assign ?body ?done ?stop
  case assign =>
    rintro l pre x W K ⟨⟨h0, h1, h2, h3, h4⟩, hB1⟩ hK
    simp only [encP]
    gi_wp2
    refine hK _ _ ((KeepsOthers.alloc _ _).from _) ⟨(Below.refl _ W).alloc hB1.size _, Below.heap_alloc W _ _ h4.lt⟩ ⟨⟨h0.alloc _, h1.alloc _, h2.alloc _, h3.alloc _, h4.alloc _⟩, hB1.alloc hB1.size _⟩ ⟨W.heap.size, h4.lt, HasC.new W 25 (limA x.2.1), rfl, rfl, rfl, rfl, rfl, rfl⟩
  case body =>
    rintro l pre x a' W hl ⟨r, hr⟩ ⟨⟨h0, h1, h2, h3, h4⟩, hB1⟩ ⟨Bx, hBx, bX, hd, hz, t3, t5, t7, t9⟩ hlt
    refine wpIn_block ?_
    have key := fval_round hT hs ha (horF_lt hs pre) x.2.2 (l := l) (n := 5 - 1 - 1) (Q := Exit.inBlock 1 (ownPostG W0.heap.size (Kept w.heap.size (w.heap.size + 1 + 1 + 1 + 1)) (fun pre W => (HasC W w.heap.size 157 #[.int .i64 s] ∧ HasC W (w.heap.size + 1) 25 (limA a) ∧ HasC W (w.heap.size + 1 + 1) 25 (limA 0) ∧ HasC W (w.heap.size + 1 + 1 + 1) 25 (limA (horF s a pre)) ∧ HasC W (w.heap.size + 1 + 1 + 1 + 1) 79 #[.slice a0 len cap]) ∧ Below w.heap.size w W) (fun _ _ _ => False) (pre ++ [x]) W)) h0 h1 h3 bX hd hz t3 t5 t7 t9 fun a1 w1 hw1 => by
      have hsame : ∀ k, k < W.heap.size → k ≠ w.heap.size + 1 + 1 + 1 → (w1.setRow (w.heap.size + 1 + 1 + 1) (limA (stepF s a (horF s a pre) x.2.1))).heap[k]? = W.heap[k]? := fun k hk hne => (setRow_other _ _ _ _ hne).trans (hw1.block k hk)
      have hh3 : (w1.setRow (w.heap.size + 1 + 1 + 1) (limA (stepF s a (horF s a pre) x.2.1))).heap[w.heap.size + 1 + 1 + 1]? = some (.cells (limA (horF s a (pre ++ [x]))) 25 (0, 0)) := by
        rw [horF_snoc]; exact setRow_heap _ _ _ _ _ _ ((hw1.block _ h3.lt).trans h3)
      have hbel : Below w.heap.size W (w1.setRow (w.heap.size + 1 + 1 + 1) (limA (stepF s a (horF s a pre) x.2.1))) := ⟨hw1.os, hw1.tape, hw1.output, by rw [setRow_size]; exact hw1.size, fun k hk => hsame k (by have := hB1.size; omega) (by omega)⟩
      refine ⟨⟨by rw [setRow_size]; exact hw1.size, fun k o hk ho hc => ?_⟩, ⟨hbel, hsame _ h4.lt (by omega)⟩, ⟨?_, ?_, ?_, hh3, ?_⟩, hB1.trans hbel⟩
      · have hlt := (Array.getElem?_eq_some_iff.1 ho).1
        rw [hsame k hlt (fun e => by subst e; rw [show W.heap[_]? = _ from h3] at ho; cases ho; cases hc)]
        exact ho
      · exact (hsame _ h0.lt (by omega)).trans h0
      · exact (hsame _ h1.lt (by omega)).trans h1
      · exact (hsame _ h2.lt (by omega)).trans h2
      · exact (hsame _ h4.lt (by omega)).trans h4
    exact key
  case done =>
    rintro D ys W hD rfl ⟨⟨h0, h1, h2, h3, h4⟩, hB1⟩ hK
    have c0 : W.cell? ⟨w.heap.size + 1 + 1 + 1, 0, none⟩ = some _ := (cell_heap (j := 0) h3).trans (limA_get (by omega))
    have c1 : W.cell? ⟨w.heap.size + 1 + 1 + 1, 1, none⟩ = some _ := (cell_heap (j := 1) h3).trans (limA_get (by omega))
    have c2 : W.cell? ⟨w.heap.size + 1 + 1 + 1, 2, none⟩ = some _ := (cell_heap (j := 2) h3).trans (limA_get (by omega))
    have c3 : W.cell? ⟨w.heap.size + 1 + 1 + 1, 3, none⟩ = some _ := (cell_heap (j := 3) h3).trans (limA_get (by omega))
    have c4 : W.cell? ⟨w.heap.size + 1 + 1 + 1, 4, none⟩ = some _ := (cell_heap (j := 4) h3).trans (limA_get (by omega))
    have c5 : W.cell? ⟨w.heap.size + 1 + 1 + 1, 5, none⟩ = some _ := (cell_heap (j := 5) h3).trans (limA_get (by omega))
    have d0 : W.cell? ⟨w.heap.size + 1 + 1, 0, none⟩ = some _ := (cell_heap (j := 0) h2).trans (limA_get (by omega))
    have d1 : W.cell? ⟨w.heap.size + 1 + 1, 1, none⟩ = some _ := (cell_heap (j := 1) h2).trans (limA_get (by omega))
    have d2 : W.cell? ⟨w.heap.size + 1 + 1, 2, none⟩ = some _ := (cell_heap (j := 2) h2).trans (limA_get (by omega))
    have d3 : W.cell? ⟨w.heap.size + 1 + 1, 3, none⟩ = some _ := (cell_heap (j := 3) h2).trans (limA_get (by omega))
    have d4 : W.cell? ⟨w.heap.size + 1 + 1, 4, none⟩ = some _ := (cell_heap (j := 4) h2).trans (limA_get (by omega))
    have d5 : W.cell? ⟨w.heap.size + 1 + 1, 5, none⟩ = some _ := (cell_heap (j := 5) h2).trans (limA_get (by omega))
    have f0 : ∀ j, W.frozen? ⟨w.heap.size + 1 + 1, j, none⟩ = false := fun j => by simp [World.frozen?, show W.heap[w.heap.size + 1 + 1]? = _ from h2]
    have f1 := f0 0
    have f2 := f0 1
    have f3 := f0 2
    have f4 := f0 3
    have f5 := f0 4
    have f6 := f0 5
    gi_wp2
    have hK' := ((((((KeepsOthers.setCell W ⟨w.heap.size + 1 + 1, 0, none⟩ (.int .u64 (horF s a (upto (fromEnd zs ⟨0, Int.le_refl _, rOf_pos hs⟩) zs.length) / p64 0 % 18446744073709551616))).trans (KeepsOthers.setCell _ ⟨w.heap.size + 1 + 1, 1, none⟩ (.int .u64 (horF s a (upto (fromEnd zs ⟨0, Int.le_refl _, rOf_pos hs⟩) zs.length) / p64 1 % 18446744073709551616)))).trans (KeepsOthers.setCell _ ⟨w.heap.size + 1 + 1, 2, none⟩ (.int .u64 (horF s a (upto (fromEnd zs ⟨0, Int.le_refl _, rOf_pos hs⟩) zs.length) / p64 2 % 18446744073709551616)))).trans (KeepsOthers.setCell _ ⟨w.heap.size + 1 + 1, 3, none⟩ (.int .u64 (horF s a (upto (fromEnd zs ⟨0, Int.le_refl _, rOf_pos hs⟩) zs.length) / p64 3 % 18446744073709551616)))).trans (KeepsOthers.setCell _ ⟨w.heap.size + 1 + 1, 4, none⟩ (.int .u64 (horF s a (upto (fromEnd zs ⟨0, Int.le_refl _, rOf_pos hs⟩) zs.length) / p64 4 % 18446744073709551616)))).trans (KeepsOthers.setCell _ ⟨w.heap.size + 1 + 1, 5, none⟩ (.int .u64 (horF s a (upto (fromEnd zs ⟨0, Int.le_refl _, rOf_pos hs⟩) zs.length) / p64 5 % 18446744073709551616)))).same D _ hK rfl
    refine ⟨by simp, .inl ⟨_, _, rfl, run_takeDeferred hK', ?_⟩⟩
    generalize horF s a (upto (fromEnd zs ⟨0, Int.le_refl _, rOf_pos hs⟩) zs.length) = y at *
    have e6 := (((((h2.setC 0 (.int .u64 (y / p64 0 % 18446744073709551616))).setC 1 (.int .u64 (y / p64 1 % 18446744073709551616))).setC 2 (.int .u64 (y / p64 2 % 18446744073709551616))).setC 3 (.int .u64 (y / p64 3 % 18446744073709551616))).setC 4 (.int .u64 (y / p64 4 % 18446744073709551616))).setC 5 (.int .u64 (y / p64 5 % 18446744073709551616))
    have hDne : D ≠ w.heap.size + 1 + 1 := by have := h2.lt; omega
    have hBel := ((((((hB1.setCell (p := ⟨w.heap.size + 1 + 1, 0, none⟩) (by simp; omega) (.int .u64 (y / p64 0 % 18446744073709551616))).setCell (p := ⟨w.heap.size + 1 + 1, 1, none⟩) (by simp; omega) (.int .u64 (y / p64 1 % 18446744073709551616))).setCell (p := ⟨w.heap.size + 1 + 1, 2, none⟩) (by simp; omega) (.int .u64 (y / p64 2 % 18446744073709551616))).setCell (p := ⟨w.heap.size + 1 + 1, 3, none⟩) (by simp; omega) (.int .u64 (y / p64 3 % 18446744073709551616))).setCell (p := ⟨w.heap.size + 1 + 1, 4, none⟩) (by simp; omega) (.int .u64 (y / p64 4 % 18446744073709551616))).setCell (p := ⟨w.heap.size + 1 + 1, 5, none⟩) (by simp; omega) (.int .u64 (y / p64 5 % 18446744073709551616)))
    refine ⟨_, results_cell_row (cs := limA y) rfl _ _ (w.heap.size + 1 + 1) 25 (0, 0) _ rfl ((World.putObj_heap_other (Ne.symm hDne)).trans e6) Tryz.underlying25 rfl (by rw [sz25']; rfl), rfl, hBel.trans (belowK_b (w := w) (Nat.le_refl _) _ D _ _ (by omega) hK' rfl rfl)⟩
  case stop =>
    rintro D c pre W _ _ h _
    exact h.elim
end Go.Sx

/- A polynomial's value by share: the contract. -/
namespace Go.Sx
open Go Go.Proofs Go.RowKit Go.Shelf
theorem upto_map {B : Int} (zs : List (Sub B)) (d : Sub B) : (upto (fromEnd zs d) zs.length).map (·.2) = zs.reverse := by
  apply List.ext_getElem?
  intro i
  by_cases h : i < zs.length
  · have h' : zs.length - (i + 1) < zs.length := by omega
    rw [List.getElem?_reverse h, List.getElem?_map, upto, List.getElem?_map, List.getElem?_range h]
    simp only [Option.map_some, fromEnd]
    rw [show zs.length - 1 - i = zs.length - (i + 1) by omega, List.getElem?_eq_getElem h']
    rfl
  · rw [List.getElem?_eq_none (by simp [upto]; omega), List.getElem?_eq_none (by simp; omega)]
theorem hor_fold {B : Int} (s a : Int) (pre : List (Nat × Sub B)) : horF s a pre = (pre.map (·.2)).foldl (fun acc x => stepF s a acc x.1) 0 := by
  rw [List.foldl_map]; rfl
theorem hor_poly {B : Int} {s a : Int} (hs : isS s) : ∀ zs : List (Sub B), zs.foldr (fun x acc => stepF s a acc x.1) 0 = polyV (zs.map (·.1)) a % rOf s
  | [] => by simp [polyV]
  | z :: zs => by
    rw [List.foldr_cons, hor_poly hs zs, List.map_cons]
    simp only [stepF, polyV]
    generalize polyV (zs.map (·.1)) a = p
    rw [Int.emod_add_emod, Int.add_emod (p % rOf s * a), Int.mul_emod (p % rOf s), Int.emod_emod, ← Int.mul_emod, ← Int.add_emod]
    rw [Int.add_comm, Int.mul_comm]
theorem fval_ok (hT : ∀ (g : Nat) κ, fT[g]? = some κ → κ.ok Tryz.prog) : (kFVal 112).ok Tryz.prog := by
  intro w args xs hin hpre
  rcases xs with _ | ⟨s, _ | ⟨x, _ | ⟨a, _ | ⟨_, xs⟩⟩⟩⟩
  case cons.cons.cons.nil =>
    rcases args with _ | ⟨v0, _ | ⟨v1, _ | ⟨v2, _ | ⟨v3, args⟩⟩⟩⟩
    case cons.cons.cons.nil =>
      obtain ⟨hs, hl, hn, ha⟩ : isS s ∧ allLt (rOf s) (dec x) ∧ (dec x).length ≤ 64 ∧ a < rOf s := hpre
      obtain ⟨_, r0, h1, r1, h2, r2, _⟩ := hin
      have r0' : v0 = .agg #[.int .i64 s] := r0
      have r1' : RoRow w w .num v1 (dec x) := r1
      have r2' : v2 = .agg (limbs a ++ []).toArray := r2
      rw [List.append_nil, limA_eq] at r2'
      have h2' : (0 ≤ a ∧ a < N384) ∧ lhas [] [] := h2
      have h1' : LK.num.hasL (dec x) ∧ lhas [] [] := h1
      obtain ⟨zs, hzs⟩ := lift_sub (B := rOf s) (dec x) fun z hz => ⟨(h1'.1.2 z hz).1, hl z hz⟩
      have hzl : zs.length ≤ 1000 := by rw [← List.length_map (f := fun z : Sub (rOf s) => z.1), hzs]; omega
      subst r0' r2'
      refine ⟨enters_of Tryz.func112 (by kernel_rfl) rfl _ _, ?_⟩
      have hw := fval_walk hT s a hs ⟨h2'.1.1, ha⟩ v1 (by
        rcases r1' with ⟨h, _⟩ | ⟨ad, cap, h, _⟩
        · exact ⟨_, _, _, h⟩
        · exact ⟨_, _, _, h⟩) zs hzl w (by rw [hzs]; exact r1')
      refine (callsIn_wide (n := 5)).1 (hw.mono fun e w' he => ?_)
      obtain ⟨rfl, hb⟩ := he
      rw [hor_fold, upto_map, List.foldl_reverse, hor_poly hs, hzs]
      have hr := rOf_pos hs
      have hN := rOf_N hs
      have p0 : 0 ≤ polyV (dec x) a % rOf s := Int.emod_nonneg _ (by omega)
      have p1 : polyV (dec x) a % rOf s < rOf s := Int.emod_lt_of_pos _ hr
      refine ⟨[.agg (limA (polyV (dec x) a % rOf s))], rfl, ⟨⟨⟨p0, by omega⟩, trivial⟩, ?_, rfl, rfl⟩, hb⟩
      show _ = Value.agg (limbs _ ++ []).toArray
      rw [List.append_nil, limA_eq]
    all_goals exact False.elim (by simp [kFVal, insRel] at hin)
  all_goals exact False.elim hpre
theorem fval_of (h1 : (kF2 215 (fun a b => a * b)).ok Tryz.prog) (h2 : (kF2 214 (fun a b => a + b)).ok Tryz.prog) : (kFVal 112).ok Tryz.prog := fval_ok (by
  intro g κ h
  rcases g with _ | _ | g
  · cases h; exact h1
  · cases h; exact h2
  · cases h)
end Go.Sx
