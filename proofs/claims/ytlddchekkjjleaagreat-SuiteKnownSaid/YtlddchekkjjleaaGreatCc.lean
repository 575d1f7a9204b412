/- Part Cc of the proof. -/
import Derived.Test.YtlddchekkjjleaaGreatGa
import Derived.ProofKit
import Derived.OpenShut
import Derived.WideKeyArr2
import Derived.Carry
import Derived.Test.YtlddchekkjjleaaGreatGb
import Derived.Deep.Slices
import Derived.Test.YtlddchekkjjleaaGreatHi
import Derived.Test.YtlddchekkjjleaaGreatRows
import Derived.WalkKit
set_option linter.unusedVariables false
set_option linter.unusedSimpArgs false
namespace Go.Sx
open Go Go.ChangeShapes Go.WideShapes Go.RowKit
set_option linter.unusedVariables false
variable {H : Type} {enc : TypeId × Value → H} {P : Program} {w : World} {base : Nat} {spare : Nat → Bool} {held : Bool}
theorem mapM_each {α β : Type} {f : α → Option β} : ∀ (L : List α) (ys : List β), L.mapM f = some ys → ∀ i ∈ L, ∃ y, f i = some y
  | [], _, _, i, hi => by cases hi
  | a :: L, ys, h, i, hi => by
    rw [List.mapM_cons] at h
    simp only [bind, Option.bind_eq_some_iff, pure, Option.some.injEq] at h
    obtain ⟨y, hy, zs, hz, rfl⟩ := h
    rcases List.mem_cons.1 hi with rfl | hi
    · exact ⟨y, hy⟩
    · exact mapM_each L zs hz i hi
theorem int_of_wf {n : Int} (h : (Lit.int .u64 n).wf = true) : 0 ≤ n ∧ n < 18446744073709551616 := by
  simp [Lit.wf] at h
  have a : IntKind.u64.min = 0 := by decide +kernel
  have b : IntKind.u64.max = 18446744073709551615 := by decide +kernel
  omega
theorem arr_ints {t e : TypeId} {n : Nat} {k : IntKind} (ht : P.underlying t = some (.array n e)) (he : P.underlying e = some (.int k)) (hce : P.cellsOf e = 1) (hct : P.cellsOf t = n)
    {r : Reach} {b0 : Nat} {v : Value} {d : DataW H} {p : List MemPlace} (hval : Value.okWide P w r b0 t v) (hd : DataW.Trod enc P w base spare held t v d p) :
    ∃ zs : List Int, zs.length = n ∧ v = .agg (zs.map fun z => .int k z).toArray ∧ ∀ z ∈ zs, (Lit.int k z).wf = true := by
  simp only [Value.okWide, ht] at hval
  obtain ⟨cs, rfl, h2, _⟩ := hval
  obtain ⟨fuel, hf⟩ := hd
  cases fuel with
  | zero => simp [DataW.trod] at hf
  | succ m =>
    rw [DataW.trod_step] at hf
    unfold DataW.trodStep at hf
    simp only [ht, Value.cells] at hf
    rw [if_pos (by rw [hct]; simpa [hct] using h2)] at hf
    simp only [Option.map_eq_some_iff] at hf
    obtain ⟨ys, hy, _⟩ := hf
    have hall := mapM_each _ _ hy
    have hz : ∀ i, i < n → ∃ z, cs.toList[i]? = some (.int k z) ∧ (Lit.int k z).wf = true := by
      intro i hi
      obtain ⟨y, hy⟩ := hall i (List.mem_range.2 hi)
      obtain ⟨z, e1, _, wz⟩ := DataW.trod_int he hy
      rw [hce, Nat.mul_one] at e1
      refine ⟨z, ?_, wz⟩
      have : ((cs.toList.drop i).take 1)[0]? = some (.int k z) := by rw [e1]; rfl
      simpa using this
    have hl : cs.toList.length = n := by simpa [hct] using h2
    generalize hL : cs.toList = L at hz hl
    have hcs : cs = L.toArray := by rw [← hL]
    subst hcs
    clear hL h2 hy hall
    have key : ∀ (L : List Value), (∀ i, i < L.length → ∃ z, L[i]? = some (.int k z) ∧ (Lit.int k z).wf = true) → ∃ zs : List Int, zs.length = L.length ∧ L = zs.map (fun z => .int k z) ∧ ∀ z ∈ zs, (Lit.int k z).wf = true := by
      intro L
      induction L with
      | nil => exact fun _ => ⟨[], rfl, rfl, fun _ h => by cases h⟩
      | cons a L ih =>
        intro h
        obtain ⟨z, e0, wz⟩ := h 0 (by simp)
        simp at e0
        subst e0
        obtain ⟨zs, h1, h2, h3⟩ := ih fun i hi => by have := h (i + 1) (by simpa using hi); simpa using this
        exact ⟨z :: zs, by simp [h1], by rw [h2]; rfl, fun y hy => by rcases List.mem_cons.1 hy with rfl | hy; exact wz; exact h3 _ hy⟩
    obtain ⟨zs, h1, h2, h3⟩ := key L (by rw [hl]; exact hz)
    exact ⟨zs, by rw [h1, hl], by rw [h2], h3⟩
theorem limbs_six (z0 z1 z2 z3 z4 z5 : Int) (h0 : 0 ≤ z0 ∧ z0 < 18446744073709551616) (h1 : 0 ≤ z1 ∧ z1 < 18446744073709551616) (h2 : 0 ≤ z2 ∧ z2 < 18446744073709551616) (h3 : 0 ≤ z3 ∧ z3 < 18446744073709551616) (h4 : 0 ≤ z4 ∧ z4 < 18446744073709551616) (h5 : 0 ≤ z5 ∧ z5 < 18446744073709551616) :
    ∃ x : Int, 0 ≤ x ∧ x < N384 ∧ limbs x = [.int .u64 z0, .int .u64 z1, .int .u64 z2, .int .u64 z3, .int .u64 z4, .int .u64 z5] := by
  refine ⟨z0 + 18446744073709551616 * z1 + 340282366920938463463374607431768211456 * z2 + 6277101735386680763835789423207666416102355444464034512896 * z3 + 115792089237316195423570985008687907853269984665640564039457584007913129639936 * z4 + 2135987035920910082395021706169552114602704522356652769947041607822219725780640550022962086936576 * z5, by omega, by simp only [N384]; omega, ?_⟩
  have q0 : p64 0 = 1 := by decide +kernel
  have q1 : p64 1 = 18446744073709551616 := by decide +kernel
  have q2 : p64 2 = 340282366920938463463374607431768211456 := by decide +kernel
  have q3 : p64 3 = 6277101735386680763835789423207666416102355444464034512896 := by decide +kernel
  have q4 : p64 4 = 115792089237316195423570985008687907853269984665640564039457584007913129639936 := by decide +kernel
  have q5 : p64 5 = 2135987035920910082395021706169552114602704522356652769947041607822219725780640550022962086936576 := by decide +kernel
  simp only [limbs, List.range, List.range.loop, List.map, q0, q1, q2, q3, q4, q5]
  simp only [List.cons.injEq, Value.int.injEq, true_and, and_true]
  omega
theorem open_num {t e : TypeId} (ht : P.underlying t = some (.array 6 e)) (he : P.underlying e = some (.int .u64)) (hce : P.cellsOf e = 1) (hct : P.cellsOf t = 6)
    {r : Reach} {b0 : Nat} {v : Value} {d : DataW H} {p : List MemPlace} (hval : Value.okWide P w r b0 t v) (hd : DataW.Trod enc P w base spare held t v d p) :
    ∃ x : Int, 0 ≤ x ∧ x < N384 ∧ v = .agg (limbs x).toArray := by
  obtain ⟨zs, hl, rfl, hw⟩ := arr_ints ht he hce hct hval hd
  match zs, hl, hw with
  | [z0, z1, z2, z3, z4, z5], _, hw =>
    obtain ⟨x, h1, h2, h3⟩ := limbs_six z0 z1 z2 z3 z4 z5 (int_of_wf (hw _ (by simp))) (int_of_wf (hw _ (by simp))) (int_of_wf (hw _ (by simp))) (int_of_wf (hw _ (by simp))) (int_of_wf (hw _ (by simp))) (int_of_wf (hw _ (by simp)))
    exact ⟨x, h1, h2, by rw [h3]; rfl⟩
end Go.Sx

namespace Go.Sx
open Go Go.ChangeShapes Go.WideShapes Go.RowKit
set_option linter.unusedVariables false
variable {H : Type} {enc' : TypeId × Value → H} {P : Program} {w : World} {base : Nat} {spare : Nat → Bool} {held : Bool}
theorem arr_cells {t e : TypeId} {n : Nat} {k : IntKind} (ht : P.underlying t = some (.array n e)) (he : P.underlying e = some (.int k)) (hce : P.cellsOf e = 1) (hct : P.cellsOf t = n)
    {m : Nat} {cs : List Value} {d : DataW H × List MemPlace} (hf : DataW.trod enc' P w base spare held m t cs = some d) (hl : cs.length = n) :
    ∃ zs : List Int, zs.length = n ∧ cs = zs.map (fun z => .int k z) ∧ ∀ z ∈ zs, (Lit.int k z).wf = true := by
  cases m with
  | zero => simp [DataW.trod] at hf
  | succ m =>
    rw [DataW.trod_step] at hf
    unfold DataW.trodStep at hf
    simp only [ht] at hf
    rw [if_pos (by rw [hct]; exact hl)] at hf
    simp only [Option.map_eq_some_iff] at hf
    obtain ⟨ys, hy, _⟩ := hf
    have hall := mapM_each _ _ hy
    have hz : ∀ i, i < n → ∃ z, cs[i]? = some (.int k z) ∧ (Lit.int k z).wf = true := by
      intro i hi
      obtain ⟨y, hy⟩ := hall i (List.mem_range.2 hi)
      obtain ⟨z, e1, _, wz⟩ := DataW.trod_int he hy
      rw [hce, Nat.mul_one] at e1
      refine ⟨z, ?_, wz⟩
      have : ((cs.drop i).take 1)[0]? = some (.int k z) := by rw [e1]; rfl
      simpa using this
    have key : ∀ (L : List Value), (∀ i, i < L.length → ∃ z, L[i]? = some (.int k z) ∧ (Lit.int k z).wf = true) → ∃ zs : List Int, zs.length = L.length ∧ L = zs.map (fun z => .int k z) ∧ ∀ z ∈ zs, (Lit.int k z).wf = true := by
      intro L
      induction L with
      | nil => exact fun _ => ⟨[], rfl, rfl, fun _ h => by cases h⟩
      | cons a L ih =>
        intro h
        obtain ⟨z, e0, wz⟩ := h 0 (by simp)
        simp at e0
        subst e0
        obtain ⟨zs, h1, h2, h3⟩ := ih fun i hi => by have := h (i + 1) (by simpa using hi); simpa using this
        exact ⟨z :: zs, by simp [h1], by rw [h2]; rfl, fun y hy => by rcases List.mem_cons.1 hy with rfl | hy; exact wz; exact h3 _ hy⟩
    obtain ⟨zs, h1, h2, h3⟩ := key cs (by rw [hl]; exact hz)
    exact ⟨zs, by rw [h1, hl], h2, h3⟩
theorem num_cells {t e : TypeId} (ht : P.underlying t = some (.array 6 e)) (he : P.underlying e = some (.int .u64)) (hce : P.cellsOf e = 1) (hct : P.cellsOf t = 6)
    {m : Nat} {cs : List Value} {d : DataW H × List MemPlace} (hf : DataW.trod enc' P w base spare held m t cs = some d) (hl : cs.length = 6) :
    ∃ x : Int, (0 ≤ x ∧ x < N384) ∧ cs = limbs x := by
  obtain ⟨zs, hl, rfl, hw⟩ := arr_cells ht he hce hct hf hl
  match zs, hl, hw with
  | [z0, z1, z2, z3, z4, z5], _, hw =>
    obtain ⟨x, h1, h2, h3⟩ := limbs_six z0 z1 z2 z3 z4 z5 (int_of_wf (hw _ (by simp))) (int_of_wf (hw _ (by simp))) (int_of_wf (hw _ (by simp))) (int_of_wf (hw _ (by simp))) (int_of_wf (hw _ (by simp))) (int_of_wf (hw _ (by simp)))
    exact ⟨x, ⟨h1, h2⟩, by rw [h3]; rfl⟩
/-- a list of numbers that came in -/
theorem open_nums {t e e' : TypeId} (ht : P.underlying t = some (.slice e)) (hte : P.underlying e = some (.array 6 e')) (he : P.underlying e' = some (.int .u64)) (hce : P.cellsOf e' = 1) (hct : P.cellsOf e = 6)
    {r : Reach} {b0 : Nat} {v : Value} {d : DataW H} {p : List MemPlace} (hval : Value.okWide P w r b0 t v) (hd : DataW.Trod enc' P w base spare held t v d p) :
    ∃ l : List Int, LK.num.hasL l ∧ RoRow w w .num v l := by
  obtain ⟨a, len, cap, rfl⟩ := okWide_slice ht hval
  obtain ⟨fuel, hf⟩ := hd
  rcases Deep.open_slice ht hf with ⟨h, _⟩ | ⟨a', len', cap', m, n, D, Pl, h, hb, hlc, hcm, hm, _, hel⟩
  · have h' : (Value.slice a len cap) = .slice none 0 0 := by simpa [Value.cells] using h
    cases h'
    exact ⟨[], ⟨by simp, fun z hz => by cases hz⟩, .inl ⟨rfl, rfl⟩⟩
  · have h' : (Value.slice a len cap) = .slice (some a') len' cap' := by simpa [Value.cells] using h
    cases h'
    have hblk : a'.block < w.heap.size := by
      simp only [Value.okWide, ht, Cell.okWide, Cell.ok] at hval
      obtain ⟨_, _, _, _, row, cells, hs, _⟩ := hval
      unfold World.shape? at hs
      cases hh : w.heap[a'.block]? with
      | none => rw [hh] at hs; simp at hs
      | some o => exact (Array.getElem?_eq_some_iff.1 hh).1
    have hmle : len ≤ m := by rw [hm]; split <;> omega
    obtain ⟨f, hfn⟩ := Deep.choose_lt (n := len) (p := fun i (x : Int) => (0 ≤ x ∧ x < N384) ∧ ∀ j, j < 6 → w.cell? (a'.add (i * 6 + j)) = (limbs x)[j]?) (fun i hi => by
      obtain ⟨cs', h1, h2⟩ := hel i (by omega)
      rw [hct] at h1
      obtain ⟨_, hl6, hcell⟩ := World.cells?_some h1
      obtain ⟨x, hx, rfl⟩ := num_cells hte he hce hct h2 hl6
      exact ⟨x, hx, fun j hj => by rw [← Deep.add_add]; exact hcell j hj⟩)
    refine ⟨(List.range len).map f, ⟨?_, ?_⟩, .inr ⟨a', cap, ?_, hblk, ?_, ?_⟩⟩
    · have : maxLen = 9223372036854775807 := by decide +kernel
      rw [List.length_map, List.length_range]; omega
    · intro z hz
      obtain ⟨i, hi, rfl⟩ := List.mem_map.1 hz
      exact (hfn i (List.mem_range.1 hi)).1
    · simp
    · rw [List.length_map, List.length_range]; exact hlc
    · intro j u hu
      have hj : j < len * 6 := by
        have := (List.getElem?_eq_some_iff.1 hu).1
        rw [flat_len] at this
        simpa [LK.sz] using this
      have e1 : j = j / 6 * 6 + j % 6 := by omega
      have hi : j / 6 < len := by omega
      have hr : j % 6 < 6 := by omega
      have h1 := flat_get .num ((List.range len).map f) (j / 6) (by simpa using hi) (j % 6) hr
      have hg : ((List.range len).map f).getD (j / 6) 0 = f (j / 6) := by
        rw [List.getD_eq_getElem?_getD, List.getElem?_map, List.getElem?_range hi]; rfl
      rw [hg] at h1
      have h1' : (flat .num ((List.range len).map f))[j]? = (limbs (f (j / 6)))[j % 6]? := by
        have h2 : j / 6 * LK.num.sz + j % 6 = j := e1.symm
        rw [h2] at h1
        exact h1
      rw [h1'] at hu
      rw [← hu, ← (hfn _ hi).2 _ hr, ← e1]
end Go.Sx

namespace Go.Sx
open Go Go.ChangeShapes Go.WideShapes Go.RowKit
set_option linter.unusedVariables false
variable {H : Type} {enc' : TypeId × Value → H} {P : Program} {w : World} {base : Nat} {spare : Nat → Bool} {held : Bool}
theorem has_i64' {a : Int} (wa : (Lit.int .i64 a).wf = true) : has .i64 a := by
  simp [Lit.wf] at wa
  have q1 : IntKind.i64.min = -9223372036854775808 := by decide +kernel
  have q2 : IntKind.i64.max = 9223372036854775807 := by decide +kernel
  have l : lo .i64 = -9223372036854775808 := by decide +kernel
  have h : hi .i64 = 9223372036854775807 := by decide +kernel
  simp only [has, l, h]
  omega
theorem flat_i64 (l : List Int) : flat (.int .i64) l = l.map (Value.int .i64) := by
  unfold flat
  induction l with
  | nil => rfl
  | cons z l ih => rw [List.flatMap_cons, ih]; rfl
/-- a list of ints that came in -/
theorem open_ints {t e : TypeId} (ht : P.underlying t = some (.slice e)) (he : P.underlying e = some (.int .i64)) (hce : P.cellsOf e = 1)
    {r : Reach} {b0 : Nat} {v : Value} {d : DataW H} {p : List MemPlace} (hval : Value.okWide P w r b0 t v) (hd : DataW.Trod enc' P w base spare held t v d p) :
    ∃ l : List Int, (LK.int .i64).hasL l ∧ RoRow w w (.int .i64) v l := by
  obtain ⟨a, len, cap, rfl⟩ := okWide_slice ht hval
  obtain ⟨fuel, hf⟩ := hd
  rcases Deep.open_slice ht hf with ⟨h, _⟩ | ⟨a', len', cap', m, n, D, Pl, h, hb, hlc, hcm, hm, _, hel⟩
  · have h' : (Value.slice a len cap) = .slice none 0 0 := by simpa [Value.cells] using h
    cases h'
    exact ⟨[], ⟨by simp, fun z hz => by cases hz⟩, .inl ⟨rfl, rfl⟩⟩
  · have h' : (Value.slice a len cap) = .slice (some a') len' cap' := by simpa [Value.cells] using h
    cases h'
    have hblk : a'.block < w.heap.size := by
      simp only [Value.okWide, ht, Cell.okWide, Cell.ok] at hval
      obtain ⟨_, _, _, _, row, cells, hs, _⟩ := hval
      unfold World.shape? at hs
      cases hh : w.heap[a'.block]? with
      | none => rw [hh] at hs; simp at hs
      | some o => exact (Array.getElem?_eq_some_iff.1 hh).1
    have hmle : len ≤ m := by rw [hm]; split <;> omega
    obtain ⟨f, hfn⟩ := Deep.choose_lt (n := len) (p := fun i (x : Int) => has .i64 x ∧ w.cell? (a'.add i) = some (.int .i64 x)) (fun i hi => by
      obtain ⟨cs', h1, h2⟩ := hel i (by omega)
      rw [hce] at h1
      obtain ⟨_, hl1, hcell⟩ := World.cells?_some h1
      obtain ⟨z, rfl, _, wz⟩ := DataW.trod_int he h2
      have h0 := hcell 0 (by omega)
      rw [Nat.mul_one] at h0
      exact ⟨z, has_i64' wz, h0⟩)
    refine ⟨(List.range len).map f, ⟨?_, ?_⟩, .inr ⟨a', cap, ?_, hblk, ?_, ?_⟩⟩
    · have : maxLen = 9223372036854775807 := by decide +kernel
      rw [List.length_map, List.length_range]; omega
    · intro z hz
      obtain ⟨i, hi, rfl⟩ := List.mem_map.1 hz
      exact (hfn i (List.mem_range.1 hi)).1
    · simp
    · rw [List.length_map, List.length_range]; exact hlc
    · intro j u hu
      rw [flat_i64, List.map_map, List.getElem?_map] at hu
      have hj : j < len := by
        rcases Nat.lt_or_ge j len with h | h
        · exact h
        · rw [List.getElem?_eq_none (by simpa using h)] at hu; cases hu
      rw [List.getElem?_range hj] at hu
      simp only [Option.map_some, Function.comp, Option.some.injEq] at hu
      rw [← hu]
      exact (hfn j hj).2
end Go.Sx

namespace Go.Proofs.YtlddchekkjjleaaGreat.suiteKnownDone
open Go Go.Sx Go.ChangeShapes Go.WideShapes Go.ChangeAt Go.RowKit
set_option linter.unusedVariables false
theorem own : ownKnob Tryz.prog.godebug = none := by kernel_rfl
theorem laidOut : laidOutB Tryz.prog = true := by kernel_rfl
theorem walk (hx : (kKnown11 5).ok Tryz.prog) (w : World) :
    Calls Tryz.prog 5 #[] w fun e w' => e = .returned (.bool true) ∧ Below w.heap.size w w' := by
  have h := hx w [] [] ⟨rfl, rfl⟩ trivial
  refine h.2.mono fun e w' ⟨vs, he, ho, hb⟩ => ⟨?_, hb⟩
  obtain ⟨v, rfl⟩ : ∃ v, vs = [v] := by
    match vs, ho with
    | [v], _ => exact ⟨v, rfl⟩
  have h1 : [v] = [Value.bool true] := ho.2.1
  rw [he, show v = Value.bool true from List.head_eq_of_cons_eq h1]
  rfl
set_option maxRecDepth 100000 in
theorem lifted (hx : (kKnown11 5).ok Tryz.prog) (os : Os) (started : os.Started) (H : Type) (enc : TypeId × Value → H) :
    ReturnsInHanded {} Tryz.checked os 5 .any (Rows.suiteKnownSpec.pre6 enc Tryz.prog Tryz.f5 Rows.suiteKnownRow.domain false) (Rows.suiteKnownSpec.post enc Tryz.prog Tryz.f5 false true false false) := by
  refine returnsInHanded_of_change (C := Tryz.checked) own started (by kernel_rfl) Tryz.func5
    (ChangeSpec.witness6 (enc := enc) (C := Tryz.checked) false ⟨#[], #[], []⟩ 8 (by kernel_rfl) (by kernel_rfl) (by kernel_rfl) (by kernel_rfl)) ?_
  intro W base args ds gs before hval0 hW hcnd _
  have hW' := hW
  obtain ⟨p, q, hA0, hV, rfl, hfz, hnd⟩ := hW
  have hA : DataW.TrodAll enc Tryz.prog W 0 (fun _ => true) true Tryz.f5.params.toList args.toList ds p := hA0
  rw [Tryz.params5] at hA
  obtain ⟨hargs, rfl, rfl⟩ := trodAll_nil hA
  obtain rfl : args = #[] := by cases args; simp_all
  obtain ⟨rfl, rfl⟩ := trodVars_none hV
  clear hA0 hval0
  refine (walk hx W).mono fun e W' ⟨he, bel⟩ => ?_
  subst he
  exact ⟨_, rfl, _, _, _, [], _, [], hW', trodAll_mk1 (shut_bool Tryz.underlying4 _), trodAll_mk0, rfl, bel.frame _, fun h => by cases h⟩
theorem closedK : joinedFacts Tryz.pinned.checked.prog 5 Tryz.f5 Rows.suiteKnownSpec Rows.suiteKnownRow = true := by kernel_rfl
theorem namedK : Tryz.pinned.checked.prog.funcNamed Rows.suiteKnownRow.func = some 5 := by kernel_rfl
theorem instK : Tryz.f5.isInstance Tryz.pinned.checked.prog Rows.suiteKnownRow.origin Rows.suiteKnownRow.targs := of_decide_eq_true (by kernel_rfl)
theorem over (hx : (kKnown11 5).ok Tryz.prog) : Rows.suiteKnownRow.holds Tryz.pinned (OpenSpec.ofChange Rows.suiteKnownSpec) :=
  OpenClaim.holds_of_wide 5 Tryz.f5 rfl rfl rfl rfl rfl rfl rfl ⟨rfl, rfl, rfl, rfl, rfl⟩ rfl rfl rfl rfl rfl namedK Tryz.func5 closedK
    instK (by unfold Func.isWrapper; first | (rw [if_pos (by decide +kernel)]; kernel_rfl) | (rw [if_neg (by decide +kernel)]; exact ⟨rfl, rfl⟩))
    (fun os started H enc _ => lifted hx os started H enc)
end Go.Proofs.YtlddchekkjjleaaGreat.suiteKnownDone
