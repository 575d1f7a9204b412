/- Laws: little's faces; suite's keys. -/
import Derived.Test.YtlddchekkjjleaaGreatHh
import Derived.Test.YtlddchekkjjleaaGreatHd
set_option linter.unusedVariables false
set_option linter.unusedSimpArgs false
namespace Go.Sx
open Go Go.RowKit
set_option maxRecDepth 100000
set_option linter.unusedVariables false
set_option linter.unusedSimpArgs false
def isL (s : Int) : Prop := s = 1 ∨ s = 2
def cvL (s : Int) : List Int := if s = 1 then [786251, 65521, 12, 9723, 164643, 0, 1] else if s = 2 then [1152921504606846223, 72057594037927889, 16, 613740293506734924, 666621259561003659, 0, 1] else [0, 0, 0, 0, 0, 0, 0]
abbrev lsKey : List L := [.int .i64, .num, .num, .bool, .int .u64, .int .u64, .bool]
def kLOf (f : FuncId) : K := { fn := f, ext := false, ins := [iI], outs := [.agg [.int .u64, .int .u64, .int .u64, .int .u64, .int .u64, .bool], oB], pre := fun _ => True, sem := fun | [s] => cvL s | _ => [] }
def tLOf : Tree := (.lett 1 .bit (.cmp .eql (.var 0) (.lit 1))
(.split 1
 (.ret [(.lit 786251), (.lit 65521), (.lit 12), (.lit 9723), (.lit 164643), (.lit 0), (.lit 1)])
 (.lett 2 .bit (.cmp .eql (.var 0) (.lit 2))
 (.split 2
  (.ret [(.lit 1152921504606846223), (.lit 72057594037927889), (.lit 16), (.lit 613740293506734924), (.lit 666621259561003659), (.lit 0), (.lit 1)])
  (.ret [(.lit 0), (.lit 0), (.lit 0), (.lit 0), (.lit 0), (.lit 0), (.lit 0)])))))
theorem law_lOf (f : FuncId) (e : Nat → Int) : tLOf.says [] ⟨fun ys => ys = (kLOf f).sem [e 0], []⟩ e := by
  show tLOf.says _ ⟨fun ys => ys = cvL (e 0), []⟩ e
  intro a1 _
  have b1 := c_eq a1
  refine ⟨fun h => ?_, fun h => ?_⟩
  · show _ = cvL (e 0)
    unfold cvL
    rw [if_pos (show e 0 = 1 from b_yes b1 h)]; rfl
  · intro a2 _
    have b2 := c_eq a2
    have n1 : ¬ e 0 = 1 := b_no b1 h
    refine ⟨fun h => ?_, fun h => ?_⟩
    · show _ = cvL (e 0)
      unfold cvL
      rw [if_neg n1, if_pos (show e 0 = 2 from b_yes b2 h)]; rfl
    · show _ = cvL (e 0)
      unfold cvL
      rw [if_neg n1, if_neg (show ¬ e 0 = 2 from b_no b2 h)]; rfl
theorem pL_ok (s : Int) : pOk (pL s) := by
  unfold pL; split <;> exact ⟨by decide, by decide⟩
theorem cvL_t {s : Int} (h : isL s) : cvL s = [pL s, rOf s, if s = 1 then 12 else 16, if s = 1 then 9723 else 613740293506734924, if s = 1 then 164643 else 666621259561003659, 0, 1] := by
  rcases h with rfl | rfl <;> rfl
theorem cvL_f {s : Int} (h : ¬ isL s) : cvL s = [0, 0, 0, 0, 0, 0, 0] := by
  unfold cvL
  rw [if_neg (fun h1 => h (.inl h1)), if_neg (fun h1 => h (.inr h1))]
open Classical in
theorem isL_6 (s : Int) : (cvL s).getD 6 0 = bj (isL s) := by
  by_cases h : isL s
  · rw [cvL_t h, bj_t h]; rfl
  · rw [cvL_f h, bj_f h]; rfl
theorem bi_bj {p : Prop} [Decidable p] : bi p = bj p := by
  by_cases h : p
  · rw [bj_t h]; exact if_pos h
  · rw [bj_f h]; exact if_neg h
noncomputable def kLIn2 (f : FuncId) : K := { fn := f, ext := false, ins := [iI, iPt], outs := [oB], pre := fun _ => True, sem := fun | [s, x, y, z] => [bj (isL s ∧ inP (pL s) (rOf s) x y z)] | _ => [] }
def tLIn2 : Tree := (.req 0 [(.var 0)]
(.lett 4 (.int .u64) (.app 0 0 [(.var 0)])
(.lett 5 (.int .u64) (.app 0 1 [(.var 0)])
(.lett 6 (.int .u64) (.app 0 2 [(.var 0)])
(.lett 7 (.int .u64) (.app 0 3 [(.var 0)])
(.lett 8 (.int .u64) (.app 0 4 [(.var 0)])
(.lett 9 .bit (.app 0 5 [(.var 0)])
(.lett 10 .bit (.app 0 6 [(.var 0)])
(.split 10
 (.req 1 [(.var 4), (.var 5), (.var 6), (.var 7), (.var 8), (.var 9), (.var 1), (.var 2), (.var 3)]
 (.lett 11 .bit (.app 1 0 [(.var 4), (.var 5), (.var 6), (.var 7), (.var 8), (.var 9), (.var 1), (.var 2), (.var 3)])
 (.ret [(.var 11)])))
 (.ret [(.lit 0)]))))))))))
theorem law_lIn2 (f1 f2 f : FuncId) (e : Nat → Int) : tLIn2.says [kLOf f1, kLIn f2] ⟨fun ys => ys = (kLIn2 f).sem [e 0, e 1, e 2, e 3], []⟩ e := by
  show tLIn2.says _ ⟨fun ys => ys = [bj (isL (e 0) ∧ inP (pL (e 0)) (rOf (e 0)) (e 1) (e 2) (e 3))], []⟩ e
  refine ⟨trivial, fun a4 _ a5 _ a6 _ a7 _ a8 _ a9 _ a10 _ => ?_⟩
  have v10 : e 10 = bj (isL (e 0)) := (show e 10 = (cvL (e 0)).getD 6 0 from a10).trans (isL_6 _)
  refine ⟨fun h => ?_, fun h => ?_⟩
  · have hl := bj_nz v10 h
    have v4 : e 4 = pL (e 0) := by rw [show e 4 = (cvL (e 0)).getD 0 0 from a4, cvL_t hl]; rfl
    have v5 : e 5 = rOf (e 0) := by rw [show e 5 = (cvL (e 0)).getD 1 0 from a5, cvL_t hl]; rfl
    refine ⟨(by show pOk (e 4); rw [v4]; exact pL_ok _), fun a11 _ => ?_⟩
    have v11 : e 11 = bi (inP (e 4) (e 5) (e 1) (e 2) (e 3)) := a11
    show [e 11] = _
    rw [v11, bi_bj, v4, v5]
    exact congrArg (fun x => [x]) (bj_iff ⟨fun h => ⟨hl, h⟩, fun h => h.2⟩)
  · show [(0 : Int)] = _
    rw [bj_f fun hh => bj_z v10 h hh.1]
noncomputable def kLMul2 (f : FuncId) : K := { fn := f, ext := false, ins := [iI, iPt, iU], outs := [.agg [.int .u64, .int .u64, .bool], oI], pre := fun | [s, x, y, z, _] => isL s ∧ onP (pL s) x y z | _ => False, sem := fun | [s, x, y, z, n] => (mulP (pL s) ⟨x, y, z⟩ 64 n.toNat).l ++ [0] | _ => [] }
theorem on_lt {p x y z : Int} (hp : 0 < p) (h : onP p x y z) : x < p ∧ y < p := by
  unfold onP at h
  split at h <;> omega
def tLMul2 : Tree := (.req 0 [(.var 0)]
(.lett 5 (.int .u64) (.app 0 0 [(.var 0)])
(.lett 6 (.int .u64) (.app 0 1 [(.var 0)])
(.lett 7 (.int .u64) (.app 0 2 [(.var 0)])
(.lett 8 (.int .u64) (.app 0 3 [(.var 0)])
(.lett 9 (.int .u64) (.app 0 4 [(.var 0)])
(.lett 10 .bit (.app 0 5 [(.var 0)])
(.lett 11 .bit (.app 0 6 [(.var 0)])
(.lett 12 .bit (.not (.var 11))
(.split 12
 (.ret [(.lit 0), (.lit 0), (.lit 0), (.lit 2)])
 (.req 1 [(.var 5), (.var 6), (.var 7), (.var 8), (.var 9), (.var 10), (.var 1), (.var 2), (.var 3)]
 (.lett 13 .bit (.app 1 0 [(.var 5), (.var 6), (.var 7), (.var 8), (.var 9), (.var 10), (.var 1), (.var 2), (.var 3)])
 (.lett 14 .bit (.not (.var 13))
 (.split 14
  (.ret [(.lit 0), (.lit 0), (.lit 0), (.lit 5)])
  (.req 2 [(.var 5), (.var 6), (.var 7), (.var 8), (.var 9), (.var 10), (.var 1), (.var 2), (.var 3), (.var 4)]
  (.lett 15 (.int .u64) (.app 2 0 [(.var 5), (.var 6), (.var 7), (.var 8), (.var 9), (.var 10), (.var 1), (.var 2), (.var 3), (.var 4)])
  (.lett 16 (.int .u64) (.app 2 1 [(.var 5), (.var 6), (.var 7), (.var 8), (.var 9), (.var 10), (.var 1), (.var 2), (.var 3), (.var 4)])
  (.lett 17 .bit (.app 2 2 [(.var 5), (.var 6), (.var 7), (.var 8), (.var 9), (.var 10), (.var 1), (.var 2), (.var 3), (.var 4)])
  (.ret [(.var 15), (.var 16), (.var 17), (.lit 0)])))))))))))))))))))
theorem law_lMul2 (f1 f2 f3 f : FuncId) (e : Nat → Int) (hp : (kLMul2 f).pre [e 0, e 1, e 2, e 3, e 4]) : tLMul2.says [kLOf f1, kLOn f2, kLTimes f3] ⟨fun ys => ys = (kLMul2 f).sem [e 0, e 1, e 2, e 3, e 4], []⟩ e := by
  obtain ⟨hl, ho⟩ : isL (e 0) ∧ onP (pL (e 0)) (e 1) (e 2) (e 3) := hp
  have hok := pL_ok (e 0)
  show tLMul2.says _ ⟨fun ys => ys = (mulP (pL (e 0)) ⟨e 1, e 2, e 3⟩ 64 (e 4).toNat).l ++ [0], []⟩ e
  refine ⟨trivial, fun a5 _ a6 _ a7 _ a8 _ a9 _ a10 _ a11 _ a12 _ => ?_⟩
  have v5 : e 5 = pL (e 0) := by rw [show e 5 = (cvL (e 0)).getD 0 0 from a5, cvL_t hl]; rfl
  have v11 : e 11 = 1 := by rw [show e 11 = (cvL (e 0)).getD 6 0 from a11, cvL_t hl]; rfl
  have b12 := c_not a12
  simp only [ev_var] at b12
  refine ⟨fun h => by omega, fun _ => ⟨(by show pOk (e 5); rw [v5]; exact hok), fun a13 _ a14 _ => ?_⟩⟩
  have v13 : e 13 = bi (onP (e 5) (e 1) (e 2) (e 3)) := a13
  rw [v5, bi_bj, bj_t ho] at v13
  have b14 := c_not a14
  simp only [ev_var] at b14
  have hlt := on_lt (show 0 < pL (e 0) by have := hok.1; omega) ho
  refine ⟨fun h => by omega, fun _ => ⟨(by show pOk (e 5) ∧ e 1 < e 5 ∧ e 2 < e 5; rw [v5]; exact ⟨hok, hlt.1, hlt.2⟩), fun a15 _ a16 _ a17 _ => ?_⟩⟩
  have hs : [e 15, e 16, e 17] = (mulP (e 5) ⟨e 1, e 2, e 3⟩ 64 (e 4).toNat).l := by
    rw [show e 15 = _ from a15, show e 16 = _ from a16, show e 17 = _ from a17]; rfl
  rw [v5] at hs
  show [e 15, e 16, e 17, 0] = _
  rw [← hs]; rfl
noncomputable def kLAdd2 (f : FuncId) : K := { fn := f, ext := false, ins := [iI, iPt, iPt], outs := [.agg [.int .u64, .int .u64, .bool], oI], pre := fun | [s, x, y, z, x', y', z'] => isL s ∧ onP (pL s) x y z ∧ onP (pL s) x' y' z' | _ => False, sem := fun | [s, x, y, z, x', y', z'] => (sumP (pL s) ⟨x, y, z⟩ ⟨x', y', z'⟩).l ++ [0] | _ => [] }
def tLAdd2 : Tree := (.req 0 [(.var 0)]
(.lett 7 (.int .u64) (.app 0 0 [(.var 0)])
(.lett 8 (.int .u64) (.app 0 1 [(.var 0)])
(.lett 9 (.int .u64) (.app 0 2 [(.var 0)])
(.lett 10 (.int .u64) (.app 0 3 [(.var 0)])
(.lett 11 (.int .u64) (.app 0 4 [(.var 0)])
(.lett 12 .bit (.app 0 5 [(.var 0)])
(.lett 13 .bit (.app 0 6 [(.var 0)])
(.lett 14 .bit (.not (.var 13))
(.split 14
 (.ret [(.lit 0), (.lit 0), (.lit 0), (.lit 2)])
 (.req 1 [(.var 7), (.var 8), (.var 9), (.var 10), (.var 11), (.var 12), (.var 1), (.var 2), (.var 3)]
 (.lett 15 .bit (.app 1 0 [(.var 7), (.var 8), (.var 9), (.var 10), (.var 11), (.var 12), (.var 1), (.var 2), (.var 3)])
 (.lett 16 .bit (.not (.var 15))
 (.split 16
  (.ret [(.lit 0), (.lit 0), (.lit 0), (.lit 5)])
  (.req 1 [(.var 7), (.var 8), (.var 9), (.var 10), (.var 11), (.var 12), (.var 4), (.var 5), (.var 6)]
  (.lett 17 .bit (.app 1 0 [(.var 7), (.var 8), (.var 9), (.var 10), (.var 11), (.var 12), (.var 4), (.var 5), (.var 6)])
  (.lett 18 .bit (.not (.var 17))
  (.split 18
   (.ret [(.lit 0), (.lit 0), (.lit 0), (.lit 5)])
   (.req 2 [(.var 7), (.var 8), (.var 9), (.var 10), (.var 11), (.var 12), (.var 1), (.var 2), (.var 3), (.var 4), (.var 5), (.var 6)]
   (.lett 19 (.int .u64) (.app 2 0 [(.var 7), (.var 8), (.var 9), (.var 10), (.var 11), (.var 12), (.var 1), (.var 2), (.var 3), (.var 4), (.var 5), (.var 6)])
   (.lett 20 (.int .u64) (.app 2 1 [(.var 7), (.var 8), (.var 9), (.var 10), (.var 11), (.var 12), (.var 1), (.var 2), (.var 3), (.var 4), (.var 5), (.var 6)])
   (.lett 21 .bit (.app 2 2 [(.var 7), (.var 8), (.var 9), (.var 10), (.var 11), (.var 12), (.var 1), (.var 2), (.var 3), (.var 4), (.var 5), (.var 6)])
   (.ret [(.var 19), (.var 20), (.var 21), (.lit 0)])))))))))))))))))))))))
theorem law_lAdd2 (f1 f2 f3 f : FuncId) (e : Nat → Int) (hp : (kLAdd2 f).pre [e 0, e 1, e 2, e 3, e 4, e 5, e 6]) : tLAdd2.says [kLOf f1, kLOn f2, kLSum f3] ⟨fun ys => ys = (kLAdd2 f).sem [e 0, e 1, e 2, e 3, e 4, e 5, e 6], []⟩ e := by
  obtain ⟨hl, ho, ho'⟩ : isL (e 0) ∧ onP (pL (e 0)) (e 1) (e 2) (e 3) ∧ onP (pL (e 0)) (e 4) (e 5) (e 6) := hp
  have hok := pL_ok (e 0)
  show tLAdd2.says _ ⟨fun ys => ys = (sumP (pL (e 0)) ⟨e 1, e 2, e 3⟩ ⟨e 4, e 5, e 6⟩).l ++ [0], []⟩ e
  refine ⟨trivial, fun a7 _ a8 _ a9 _ a10 _ a11 _ a12 _ a13 _ a14 _ => ?_⟩
  have v7 : e 7 = pL (e 0) := by rw [show e 7 = (cvL (e 0)).getD 0 0 from a7, cvL_t hl]; rfl
  have v13 : e 13 = 1 := by rw [show e 13 = (cvL (e 0)).getD 6 0 from a13, cvL_t hl]; rfl
  have b14 := c_not a14
  simp only [ev_var] at b14
  refine ⟨fun h => by omega, fun _ => ⟨(by show pOk (e 7); rw [v7]; exact hok), fun a15 _ a16 _ => ?_⟩⟩
  have v15 : e 15 = bi (onP (e 7) (e 1) (e 2) (e 3)) := a15
  rw [v7, bi_bj, bj_t ho] at v15
  have b16 := c_not a16
  simp only [ev_var] at b16
  refine ⟨fun h => by omega, fun _ => ⟨(by show pOk (e 7); rw [v7]; exact hok), fun a17 _ a18 _ => ?_⟩⟩
  have v17 : e 17 = bi (onP (e 7) (e 4) (e 5) (e 6)) := a17
  rw [v7, bi_bj, bj_t ho'] at v17
  have b18 := c_not a18
  simp only [ev_var] at b18
  have p0 : 0 < pL (e 0) := by have := hok.1; omega
  have hlt := on_lt p0 ho
  have hlt' := on_lt p0 ho'
  refine ⟨fun h => by omega, fun _ => ⟨(by show pOk (e 7) ∧ e 1 < e 7 ∧ e 2 < e 7 ∧ e 4 < e 7 ∧ e 5 < e 7; rw [v7]; exact ⟨hok, hlt.1, hlt.2, hlt'.1, hlt'.2⟩), fun a19 _ a20 _ a21 _ => ?_⟩⟩
  have hs : [e 19, e 20, e 21] = (sumP (e 7) ⟨e 1, e 2, e 3⟩ ⟨e 4, e 5, e 6⟩).l := by
    rw [show e 19 = _ from a19, show e 20 = _ from a20, show e 21 = _ from a21]; rfl
  rw [v7] at hs
  show [e 19, e 20, e 21, 0] = _
  rw [← hs]; rfl
def kLGen2 (f : FuncId) : K := { fn := f, ext := false, ins := [iI], outs := [.agg [.int .u64, .int .u64, .bool], oI], pre := fun | [s] => isL s | _ => False, sem := fun | [s] => [if s = 1 then 9723 else 613740293506734924, if s = 1 then 164643 else 666621259561003659, 0, 0] | _ => [] }
def tLGen2 : Tree := (.req 0 [(.var 0)]
(.lett 1 (.int .u64) (.app 0 0 [(.var 0)])
(.lett 2 (.int .u64) (.app 0 1 [(.var 0)])
(.lett 3 (.int .u64) (.app 0 2 [(.var 0)])
(.lett 4 (.int .u64) (.app 0 3 [(.var 0)])
(.lett 5 (.int .u64) (.app 0 4 [(.var 0)])
(.lett 6 .bit (.app 0 5 [(.var 0)])
(.lett 7 .bit (.app 0 6 [(.var 0)])
(.lett 8 .bit (.not (.var 7))
(.split 8
 (.ret [(.lit 0), (.lit 0), (.lit 0), (.lit 2)])
 (.ret [(.var 4), (.var 5), (.var 6), (.lit 0)])))))))))))
theorem law_lGen2 (f1 f : FuncId) (e : Nat → Int) (hp : (kLGen2 f).pre [e 0]) : tLGen2.says [kLOf f1] ⟨fun ys => ys = (kLGen2 f).sem [e 0], []⟩ e := by
  have hl : isL (e 0) := hp
  refine ⟨trivial, fun a1 _ a2 _ a3 _ a4 _ a5 _ a6 _ a7 _ a8 _ => ?_⟩
  have v4 : e 4 = if e 0 = 1 then 9723 else 613740293506734924 := by rw [show e 4 = (cvL (e 0)).getD 3 0 from a4, cvL_t hl]; rfl
  have v5 : e 5 = if e 0 = 1 then 164643 else 666621259561003659 := by rw [show e 5 = (cvL (e 0)).getD 4 0 from a5, cvL_t hl]; rfl
  have v6 : e 6 = 0 := by rw [show e 6 = (cvL (e 0)).getD 5 0 from a6, cvL_t hl]; rfl
  have v7 : e 7 = 1 := by rw [show e 7 = (cvL (e 0)).getD 6 0 from a7, cvL_t hl]; rfl
  have b8 := c_not a8
  simp only [ev_var] at b8
  refine ⟨fun h => by omega, fun _ => ?_⟩
  show [e 4, e 5, e 6, 0] = [if e 0 = 1 then 9723 else 613740293506734924, if e 0 = 1 then 164643 else 666621259561003659, 0, 0]
  rw [v4, v5, v6]
/-! ### keys -/
def keyOk (s px py pz x y z : Int) : Prop := (s = 0 ∧ (x = 0 ∧ y = 0 ∧ z = 0) ∧ inG px py pz) ∨ (isL s ∧ (px = 0 ∧ py = 0 ∧ pz = 0) ∧ inP (pL s) (rOf s) x y z)
noncomputable def kKeyChk (f : FuncId) : K := { fn := f, ext := false, ins := [.agg lsKey], outs := [oB], pre := fun _ => True, sem := fun | [s, px, py, pz, x, y, z] => [bj (keyOk s px py pz x y z)] | _ => [] }
theorem c_eqs {T : List K} {e : Nat → Int} {v : Int} {l : List (A × A)} (h : v = (D.eqs l).ev T e) : (v = 1 ∧ ∀ p ∈ l, p.1.ev e = p.2.ev e) ∨ (v = 0 ∧ ¬ ∀ p ∈ l, p.1.ev e = p.2.ev e) := by
  have h : v = b2i (l.all fun p => p.1.ev e == p.2.ev e) := h
  by_cases hc : ∀ p ∈ l, p.1.ev e = p.2.ev e
  · refine .inl ⟨?_, hc⟩
    rw [h, show (l.all fun p => p.1.ev e == p.2.ev e) = true from List.all_eq_true.2 fun p hp => beq_iff_eq.2 (hc p hp)]; rfl
  · refine .inr ⟨?_, hc⟩
    have : (l.all fun p => p.1.ev e == p.2.ev e) = false := by
      cases hb : (l.all fun p => p.1.ev e == p.2.ev e) with
      | false => rfl
      | true => exact absurd (fun p hp => beq_iff_eq.1 (List.all_eq_true.1 hb p hp)) hc
    rw [h, this]; rfl
theorem c_l1 {T : List K} {e : Nat → Int} {v : Int} {i j k : Nat} (h : v = (D.eqs [(.var i, .lit 0), (.var j, .lit 0), (.var k, .lit 0)]).ev T e) : (v = 1 ∧ (e i = 0 ∧ e j = 0 ∧ e k = 0)) ∨ (v = 0 ∧ ¬ (e i = 0 ∧ e j = 0 ∧ e k = 0)) := by
  have hi : (∀ p ∈ [(A.var i, A.lit 0), (.var j, .lit 0), (.var k, .lit 0)], p.1.ev e = p.2.ev e) ↔ (e i = 0 ∧ e j = 0 ∧ e k = 0) := by
    constructor
    · intro h
      exact ⟨h _ (List.mem_cons_self ..), h _ (List.mem_cons_of_mem _ (List.mem_cons_self ..)), h _ (List.mem_cons_of_mem _ (List.mem_cons_of_mem _ (List.mem_cons_self ..)))⟩
    · rintro ⟨h1, h2, h3⟩ p hp
      simp only [List.mem_cons, List.not_mem_nil, or_false] at hp
      rcases hp with rfl | rfl | rfl
      · exact h1
      · exact h2
      · exact h3
  rcases c_eqs h with ⟨h1, h2⟩ | ⟨h1, h2⟩
  · exact .inl ⟨h1, hi.1 h2⟩
  · exact .inr ⟨h1, fun hh => h2 (hi.2 hh)⟩
def tKeyChk : Tree := (.lett 7 .bit (.cmp .eql (.var 0) (.lit 0))
(.split 7
 (.lett 8 .bit (.eqs [((.var 4), (.lit 0)), ((.var 5), (.lit 0)), ((.var 6), (.lit 0))])
 (.split 8
  (.req 0 [(.var 1), (.var 2), (.var 3)]
  (.lett 9 .bit (.app 0 0 [(.var 1), (.var 2), (.var 3)])
  (.ret [(.var 9)])))
  (.ret [(.lit 0)])))
 (.lett 8 .bit (.cmp .eql (.var 0) (.lit 1))
 (.split 8
  (.lett 9 .bit (.eqs [((.limb 1 0), (.lit 0)), ((.limb 1 1), (.lit 0)), ((.limb 1 2), (.lit 0)), ((.limb 1 3), (.lit 0)), ((.limb 1 4), (.lit 0)), ((.limb 1 5), (.lit 0)), ((.limb 2 0), (.lit 0)), ((.limb 2 1), (.lit 0)), ((.limb 2 2), (.lit 0)), ((.limb 2 3), (.lit 0)), ((.limb 2 4), (.lit 0)), ((.limb 2 5), (.lit 0)), ((.var 3), (.lit 0))])
  (.split 9
   (.req 1 [(.var 0), (.var 4), (.var 5), (.var 6)]
   (.lett 10 .bit (.app 1 0 [(.var 0), (.var 4), (.var 5), (.var 6)])
   (.ret [(.var 10)])))
   (.ret [(.lit 0)])))
  (.lett 9 .bit (.cmp .eql (.var 0) (.lit 2))
  (.split 9
   (.lett 10 .bit (.eqs [((.limb 1 0), (.lit 0)), ((.limb 1 1), (.lit 0)), ((.limb 1 2), (.lit 0)), ((.limb 1 3), (.lit 0)), ((.limb 1 4), (.lit 0)), ((.limb 1 5), (.lit 0)), ((.limb 2 0), (.lit 0)), ((.limb 2 1), (.lit 0)), ((.limb 2 2), (.lit 0)), ((.limb 2 3), (.lit 0)), ((.limb 2 4), (.lit 0)), ((.limb 2 5), (.lit 0)), ((.var 3), (.lit 0))])
   (.split 10
    (.req 1 [(.var 0), (.var 4), (.var 5), (.var 6)]
    (.lett 11 .bit (.app 1 0 [(.var 0), (.var 4), (.var 5), (.var 6)])
    (.ret [(.var 11)])))
    (.ret [(.lit 0)])))
   (.ret [(.lit 0)])))))))
theorem law_keyChk (f1 f2 f : FuncId) (e : Nat → Int) (hk : kkHas [.int .i64, .num, .num, .bit, .int .u64, .int .u64, .bit] [e 0, e 1, e 2, e 3, e 4, e 5, e 6]) : tKeyChk.says [kInG1 f1, kLIn2 f2] ⟨fun ys => ys = (kKeyChk f).sem [e 0, e 1, e 2, e 3, e 4, e 5, e 6], []⟩ e := by
  obtain ⟨_, u1, u2, _⟩ := hk
  simp only [KK.has] at u1 u2
  show tKeyChk.says _ ⟨fun ys => ys = [bj (keyOk (e 0) (e 1) (e 2) (e 3) (e 4) (e 5) (e 6))], []⟩ e
  intro a7 _
  have b7 := c_eq a7
  simp only [ev_var, ev_lit] at b7
  refine ⟨fun h7 => ?_, fun h7 => ?_⟩
  · have e0 : e 0 = 0 := by omega
    intro a8 _
    have b8 := c_l1 a8
    refine ⟨fun h8 => ⟨trivial, fun a9 _ => ?_⟩, fun h8 => ?_⟩
    · have v9 : e 9 = bj (inG (e 1) (e 2) (e 3)) := a9
      show [e 9] = _
      rw [v9]
      exact congrArg (fun x => [x]) (bj_iff ⟨fun h => .inl ⟨e0, b_yes b8 h8, h⟩, fun h => by
        rcases h with h | h
        · exact h.2.2
        · rcases h.1 with h1 | h1 <;> (rw [e0] at h1; exact absurd h1 (by decide))⟩)
    · show [(0 : Int)] = _
      rw [bj_f]
      intro h
      rcases h with h | h
      · exact b_no b8 h8 h.2.1
      · rcases h.1 with h1 | h1 <;> (rw [e0] at h1; exact absurd h1 (by decide))
  · have n0 : ¬ e 0 = 0 := by omega
    intro a8 _
    have b8 := c_eq a8
    simp only [ev_var, ev_lit] at b8
    have key : ∀ (v w : Int), isL (e 0) → v = bj (isL (e 0) ∧ inP (pL (e 0)) (rOf (e 0)) (e 4) (e 5) (e 6)) → (e 1 = 0 ∧ e 2 = 0 ∧ e 3 = 0) → [v] = [bj (keyOk (e 0) (e 1) (e 2) (e 3) (e 4) (e 5) (e 6))] := fun v w hl hv hz => by
      rw [hv]
      exact congrArg (fun x => [x]) (bj_iff ⟨fun h => .inr ⟨hl, hz, h.2⟩, fun h => by
        rcases h with h | h
        · exact absurd h.1 n0
        · exact ⟨hl, h.2.2⟩⟩)
    have none : ¬ (e 1 = 0 ∧ e 2 = 0 ∧ e 3 = 0) → [(0 : Int)] = [bj (keyOk (e 0) (e 1) (e 2) (e 3) (e 4) (e 5) (e 6))] := fun hz => by
      rw [bj_f]
      intro h
      rcases h with h | h
      · exact n0 h.1
      · exact hz h.2.1
    refine ⟨fun h8 => ?_, fun h8 => ?_⟩
    · intro a9 _
      have b9 := c_p1 a9 u1 u2
      refine ⟨fun h9 => ⟨trivial, fun a10 _ => key _ 0 (.inl (by omega)) a10 (by omega)⟩, fun h9 => none (by omega)⟩
    · intro a9 _
      have b9 := c_eq a9
      simp only [ev_var, ev_lit] at b9
      refine ⟨fun h9 => ?_, fun h9 => ?_⟩
      · intro a10 _
        have b10 := c_p1 a10 u1 u2
        refine ⟨fun h10 => ⟨trivial, fun a11 _ => key _ 0 (.inr (by omega)) a11 (by omega)⟩, fun h10 => none (by omega)⟩
      · show [(0 : Int)] = _
        rw [bj_f]
        intro h
        rcases h with h | h
        · exact n0 h.1
        · rcases h.1 with h1 | h1 <;> omega
end Go.Sx

/- Laws: suite.KeyMul, KeyAdd, Gen; SigCheck of the little suites. -/
namespace Go.Sx
open Go Go.RowKit
set_option maxRecDepth 100000
set_option linter.unusedVariables false
set_option linter.unusedSimpArgs false
open Classical in
noncomputable def keyMul (s px py pz x y z n : Int) : List Int :=
  if ¬ keyOk s px py pz x y z then [0, 0, 0, 0, 0, 0, 0, 5]
  else if ¬ n < rOf s then [0, 0, 0, 0, 0, 0, 0, 2]
  else if s = 0 then [0] ++ lowV (tmJ R1 (rsV px py pz) 384 n.toNat) ++ [0, 0, 0, 0]
  else [s, 0, 0, 0] ++ (mulP (pL s) ⟨x, y, z⟩ 64 n.toNat).l ++ [0]
noncomputable def kKMul (f : FuncId) : K := { fn := f, ext := false, ins := [.agg lsKey, iN], outs := [.agg lsKey, oI], pre := fun _ => True, sem := fun | [s, px, py, pz, x, y, z, n] => keyMul s px py pz x y z n | _ => [] }
theorem keyOk_s {s px py pz x y z : Int} (h : keyOk s px py pz x y z) : isS s := by
  rcases h with h | h
  · exact ⟨by omega, by omega⟩
  · rcases h.1 with h | h <;> exact ⟨by omega, by omega⟩
theorem lim0 {n : Int} (h0 : 0 ≤ n) (h1 : n < 18446744073709551616) : lim n 0 = n := by rw [lim_0]; exact Int.emod_eq_of_lt h0 h1
theorem rOf_sm64 {s : Int} (h : isL s) : rOf s < 18446744073709551616 := by
  rcases h with rfl | rfl <;> decide
theorem rOf_pos0 (s : Int) : 0 < rOf s := by
  unfold rOf
  split
  · decide
  · split <;> decide
def tKMul : Tree := (.req 0 [(.var 0), (.var 1), (.var 2), (.var 3), (.var 4), (.var 5), (.var 6)]
(.lett 8 .bit (.app 0 0 [(.var 0), (.var 1), (.var 2), (.var 3), (.var 4), (.var 5), (.var 6)])
(.lett 9 .bit (.not (.var 8))
(.split 9
 (.ret [(.lit 0), (.lit 0), (.lit 0), (.lit 0), (.lit 0), (.lit 0), (.lit 0), (.lit 5)])
 (.lett 538 .bit (.cmp .neq (.var 0) (.var 0))
 (.split 538
  (.ret [(.lit 0), (.lit 0), (.lit 0), (.lit 0), (.lit 0), (.lit 0), (.lit 0), (.lit 2)])
  (.req 1 [(.var 0)]
  (.lett 874 .num (.app 1 0 [(.var 0)])
  (.req 2 [(.var 7), (.var 874)]
  (.lett 922 (.int .i64) (.app 2 0 [(.var 7), (.var 874)])
  (.lett 970 .bit (.cmp .geq (.var 922) (.lit 0))
  (.split 970
   (.ret [(.lit 0), (.lit 0), (.lit 0), (.lit 0), (.lit 0), (.lit 0), (.lit 0), (.lit 2)])
   (.lett 1066 .bit (.cmp .eql (.var 0) (.lit 0))
   (.split 1066
    (.req 3 [(.var 1), (.var 2), (.var 3), (.var 7)]
    (.lett 1067 .num (.app 3 0 [(.var 1), (.var 2), (.var 3), (.var 7)])
    (.lett 1068 .num (.app 3 1 [(.var 1), (.var 2), (.var 3), (.var 7)])
    (.lett 1069 .bit (.app 3 2 [(.var 1), (.var 2), (.var 3), (.var 7)])
    (.lett 1070 (.int .i64) (.app 3 3 [(.var 1), (.var 2), (.var 3), (.var 7)])
    (.ret [(.var 0), (.var 1067), (.var 1068), (.var 1069), (.lit 0), (.lit 0), (.lit 0), (.lit 0)]))))))
    (.req 4 [(.var 0), (.var 4), (.var 5), (.var 6), (.limb 7 0)]
    (.lett 1067 (.int .u64) (.app 4 0 [(.var 0), (.var 4), (.var 5), (.var 6), (.limb 7 0)])
    (.lett 1068 (.int .u64) (.app 4 1 [(.var 0), (.var 4), (.var 5), (.var 6), (.limb 7 0)])
    (.lett 1069 .bit (.app 4 2 [(.var 0), (.var 4), (.var 5), (.var 6), (.limb 7 0)])
    (.lett 1070 (.int .i64) (.app 4 3 [(.var 0), (.var 4), (.var 5), (.var 6), (.limb 7 0)])
    (.ret [(.var 0), (.lit 0), (.lit 0), (.lit 0), (.var 1067), (.var 1068), (.var 1069), (.lit 0)]))))))))))))))))))))
theorem law_kMul (f1 f2 f3 f4 f5 f : FuncId) (e : Nat → Int) (hk : kkHas [.int .i64, .num, .num, .bit, .int .u64, .int .u64, .bit, .num] [e 0, e 1, e 2, e 3, e 4, e 5, e 6, e 7]) : tKMul.says [kKeyChk f1, kOrder f2, kWCmp f3, kMul1 f4, kLMul2 f5] ⟨fun ys => ys = (kKMul f).sem [e 0, e 1, e 2, e 3, e 4, e 5, e 6, e 7], []⟩ e := by
  have h7 : 0 ≤ e 7 := hk.2.2.2.2.2.2.2.1.1
  show tKMul.says _ ⟨fun ys => ys = keyMul (e 0) (e 1) (e 2) (e 3) (e 4) (e 5) (e 6) (e 7), []⟩ e
  unfold keyMul
  refine ⟨trivial, fun a8 _ a9 _ => ?_⟩
  have v8 : e 8 = bj (keyOk (e 0) (e 1) (e 2) (e 3) (e 4) (e 5) (e 6)) := a8
  have b9 := c_not a9
  simp only [ev_var] at b9
  refine ⟨fun h => ?_, fun h => ?_⟩
  · rw [if_pos (bj_z v8 (by clear v8; omega))]; rfl
  have hok : keyOk (e 0) (e 1) (e 2) (e 3) (e 4) (e 5) (e 6) := bj_nz v8 (by clear v8; omega)
  have hs := keyOk_s hok
  rw [if_neg (fun hc => hc hok)]
  intro a538 _
  have b538 := c_ne a538
  simp only [ev_var] at b538
  refine ⟨fun h => by
    rcases b538 with ⟨_, k⟩ | ⟨k, _⟩
    · exact absurd trivial k
    · exact absurd k h, fun _ => ⟨hs, fun a874 _ => ⟨trivial, fun a922 _ a970 _ => ?_⟩⟩⟩
  have v874 : e 874 = rOf (e 0) := a874
  have v922 : e 922 < 0 ↔ e 7 < e 874 := cmpV_lt a922
  have b970 := c_ge a970
  simp only [ev_var, ev_lit] at b970
  refine ⟨fun h => ?_, fun h => ?_⟩
  · have hn : ¬ e 7 < rOf (e 0) := by rw [← v874, ← v922]; omega
    rw [if_pos hn]; rfl
  have hn : e 7 < rOf (e 0) := by rw [← v874, ← v922]; omega
  rw [if_neg (fun hc => hc hn)]
  intro a1066 _
  have b1066 := c_eq a1066
  simp only [ev_var, ev_lit] at b1066
  refine ⟨fun h => ?_, fun h => ?_⟩
  · have e0 : e 0 = 0 := by omega
    have hg : onV (e 1) (e 2) (e 3) := by
      rcases hok with hh | hh
      · exact hh.2.2.1
      · rcases hh.1 with h1 | h1 <;> omega
    refine ⟨hg, fun a1 _ a2 _ a3 _ a4 _ => ?_⟩
    have hr : [e 1067, e 1068, e 1069, e 1070] = lowV (tmJ R1 (rsV (e 1) (e 2) (e 3)) 384 (e 7).toNat) ++ [0] := by
      rw [show e 1067 = _ from a1, show e 1068 = _ from a2, show e 1069 = _ from a3, show e 1070 = _ from a4]; rfl
    rw [if_pos e0]
    show [e 0, e 1067, e 1068, e 1069, 0, 0, 0, 0] = _
    have hl : [e 1067, e 1068, e 1069] = lowV (tmJ R1 (rsV (e 1) (e 2) (e 3)) 384 (e 7).toNat) := by
      unfold lowV at hr ⊢
      injection hr with x1 hr
      injection hr with x2 hr
      injection hr with x3 hr
      rw [x1, x2, x3]
    rw [← hl, e0]; rfl
  · have n0 : ¬ e 0 = 0 := by omega
    obtain ⟨hl, hin⟩ : isL (e 0) ∧ inP (pL (e 0)) (rOf (e 0)) (e 4) (e 5) (e 6) := by
      rcases hok with hh | hh
      · exact absurd hh.1 n0
      · exact ⟨hh.1, hh.2.2⟩
    refine ⟨⟨hl, hin.1⟩, fun a1 _ a2 _ a3 _ a4 _ => ?_⟩
    have hr : [e 1067, e 1068, e 1069, e 1070] = (mulP (pL (e 0)) ⟨e 4, e 5, e 6⟩ 64 (lim (e 7) 0).toNat).l ++ [0] := by
      rw [show e 1067 = _ from a1, show e 1068 = _ from a2, show e 1069 = _ from a3, show e 1070 = _ from a4]; rfl
    rw [lim0 h7 (by have := rOf_sm64 hl; omega)] at hr
    rw [if_neg n0]
    show [e 0, 0, 0, 0, e 1067, e 1068, e 1069, 0] = _
    have hl2 : [e 1067, e 1068, e 1069] = (mulP (pL (e 0)) ⟨e 4, e 5, e 6⟩ 64 (e 7).toNat).l := by
      unfold Pt.l at hr ⊢
      injection hr with x1 hr
      injection hr with x2 hr
      injection hr with x3 hr
      rw [x1, x2, x3]
    rw [← hl2]; rfl
open Classical in
noncomputable def keyAdd (s px py pz x y z s' px' py' pz' x' y' z' : Int) : List Int :=
  if ¬ keyOk s px py pz x y z ∨ ¬ keyOk s' px' py' pz' x' y' z' then [0, 0, 0, 0, 0, 0, 0, 5]
  else if s ≠ s' then [0, 0, 0, 0, 0, 0, 0, 2]
  else if s = 0 then [0] ++ lowV (sumJ R1 (rsV px py pz) (rsV px' py' pz')) ++ [0, 0, 0, 0]
  else [s, 0, 0, 0] ++ (sumP (pL s) ⟨x, y, z⟩ ⟨x', y', z'⟩).l ++ [0]
noncomputable def kKAdd (f : FuncId) : K := { fn := f, ext := false, ins := [.agg lsKey, .agg lsKey], outs := [.agg lsKey, oI], pre := fun _ => True, sem := fun | [s, px, py, pz, x, y, z, s', px', py', pz', x', y', z'] => keyAdd s px py pz x y z s' px' py' pz' x' y' z' | _ => [] }
def tKAdd : Tree := (.req 0 [(.var 0), (.var 1), (.var 2), (.var 3), (.var 4), (.var 5), (.var 6)]
(.lett 14 .bit (.app 0 0 [(.var 0), (.var 1), (.var 2), (.var 3), (.var 4), (.var 5), (.var 6)])
(.lett 15 .bit (.not (.var 14))
(.split 15
 (.ret [(.lit 0), (.lit 0), (.lit 0), (.lit 0), (.lit 0), (.lit 0), (.lit 0), (.lit 5)])
 (.req 0 [(.var 7), (.var 8), (.var 9), (.var 10), (.var 11), (.var 12), (.var 13)]
 (.lett 16 .bit (.app 0 0 [(.var 7), (.var 8), (.var 9), (.var 10), (.var 11), (.var 12), (.var 13)])
 (.lett 17 .bit (.not (.var 16))
 (.split 17
  (.ret [(.lit 0), (.lit 0), (.lit 0), (.lit 0), (.lit 0), (.lit 0), (.lit 0), (.lit 5)])
  (.lett 546 .bit (.cmp .neq (.var 0) (.var 7))
  (.split 546
   (.ret [(.lit 0), (.lit 0), (.lit 0), (.lit 0), (.lit 0), (.lit 0), (.lit 0), (.lit 2)])
   (.req 1 [(.var 0)]
   (.lett 882 .num (.app 1 0 [(.var 0)])
   (.req 2 [(.lit 0), (.var 882)]
   (.lett 930 (.int .i64) (.app 2 0 [(.lit 0), (.var 882)])
   (.lett 978 .bit (.cmp .geq (.var 930) (.lit 0))
   (.split 978
    (.ret [(.lit 0), (.lit 0), (.lit 0), (.lit 0), (.lit 0), (.lit 0), (.lit 0), (.lit 2)])
    (.lett 1074 .bit (.cmp .eql (.var 0) (.lit 0))
    (.split 1074
     (.req 3 [(.var 1), (.var 2), (.var 3), (.var 8), (.var 9), (.var 10)]
     (.lett 1075 .num (.app 3 0 [(.var 1), (.var 2), (.var 3), (.var 8), (.var 9), (.var 10)])
     (.lett 1076 .num (.app 3 1 [(.var 1), (.var 2), (.var 3), (.var 8), (.var 9), (.var 10)])
     (.lett 1077 .bit (.app 3 2 [(.var 1), (.var 2), (.var 3), (.var 8), (.var 9), (.var 10)])
     (.lett 1078 (.int .i64) (.app 3 3 [(.var 1), (.var 2), (.var 3), (.var 8), (.var 9), (.var 10)])
     (.ret [(.var 0), (.var 1075), (.var 1076), (.var 1077), (.lit 0), (.lit 0), (.lit 0), (.lit 0)]))))))
     (.req 4 [(.var 0), (.var 4), (.var 5), (.var 6), (.var 11), (.var 12), (.var 13)]
     (.lett 1075 (.int .u64) (.app 4 0 [(.var 0), (.var 4), (.var 5), (.var 6), (.var 11), (.var 12), (.var 13)])
     (.lett 1076 (.int .u64) (.app 4 1 [(.var 0), (.var 4), (.var 5), (.var 6), (.var 11), (.var 12), (.var 13)])
     (.lett 1077 .bit (.app 4 2 [(.var 0), (.var 4), (.var 5), (.var 6), (.var 11), (.var 12), (.var 13)])
     (.lett 1078 (.int .i64) (.app 4 3 [(.var 0), (.var 4), (.var 5), (.var 6), (.var 11), (.var 12), (.var 13)])
     (.ret [(.var 0), (.lit 0), (.lit 0), (.lit 0), (.var 1075), (.var 1076), (.var 1077), (.lit 0)]))))))))))))))))))))))))
theorem law_kAdd (f1 f2 f3 f4 f5 f : FuncId) (e : Nat → Int) : tKAdd.says [kKeyChk f1, kOrder f2, kWCmp f3, kAdd1 f4, kLAdd2 f5] ⟨fun ys => ys = (kKAdd f).sem [e 0, e 1, e 2, e 3, e 4, e 5, e 6, e 7, e 8, e 9, e 10, e 11, e 12, e 13], []⟩ e := by
  show tKAdd.says _ ⟨fun ys => ys = keyAdd (e 0) (e 1) (e 2) (e 3) (e 4) (e 5) (e 6) (e 7) (e 8) (e 9) (e 10) (e 11) (e 12) (e 13), []⟩ e
  unfold keyAdd
  refine ⟨trivial, fun a14 _ a15 _ => ?_⟩
  have v14 : e 14 = bj (keyOk (e 0) (e 1) (e 2) (e 3) (e 4) (e 5) (e 6)) := a14
  have b15 := c_not a15
  simp only [ev_var] at b15
  refine ⟨fun h => ?_, fun h => ?_⟩
  · rw [if_pos (.inl (bj_z v14 (by clear v14; omega)))]; rfl
  have hok : keyOk (e 0) (e 1) (e 2) (e 3) (e 4) (e 5) (e 6) := bj_nz v14 (by clear v14; omega)
  refine ⟨trivial, fun a16 _ a17 _ => ?_⟩
  have v16 : e 16 = bj (keyOk (e 7) (e 8) (e 9) (e 10) (e 11) (e 12) (e 13)) := a16
  have b17 := c_not a17
  simp only [ev_var] at b17
  refine ⟨fun h => ?_, fun h => ?_⟩
  · rw [if_pos (.inr (bj_z v16 (by clear v16; omega)))]; rfl
  have hok' : keyOk (e 7) (e 8) (e 9) (e 10) (e 11) (e 12) (e 13) := bj_nz v16 (by clear v16; omega)
  have hs := keyOk_s hok
  rw [if_neg (fun hc => by rcases hc with hc | hc; exact hc hok; exact hc hok')]
  intro a546 _
  have b546 := c_ne a546
  simp only [ev_var] at b546
  refine ⟨fun h => ?_, fun h => ?_⟩
  · rw [if_pos (show e 0 ≠ e 7 by omega)]; rfl
  have hss : e 0 = e 7 := by omega
  rw [if_neg (fun hc => hc hss)]
  refine ⟨hs, fun a882 _ => ⟨trivial, fun a930 _ a978 _ => ?_⟩⟩
  have v882 : e 882 = rOf (e 0) := a882
  have v930 : e 930 < 0 ↔ 0 < e 882 := cmpV_lt a930
  have b978 := c_ge a978
  simp only [ev_var, ev_lit] at b978
  have hr0 := rOf_pos0 (e 0)
  refine ⟨fun h => by omega, fun _ => ?_⟩
  intro a1074 _
  have b1074 := c_eq a1074
  simp only [ev_var, ev_lit] at b1074
  refine ⟨fun h => ?_, fun h => ?_⟩
  · have e0 : e 0 = 0 := by omega
    have hg : onV (e 1) (e 2) (e 3) := by
      rcases hok with hh | hh
      · exact hh.2.2.1
      · rcases hh.1 with h1 | h1 <;> omega
    have hg' : onV (e 8) (e 9) (e 10) := by
      rcases hok' with hh | hh
      · exact hh.2.2.1
      · rcases hh.1 with h1 | h1 <;> omega
    refine ⟨⟨hg, hg'⟩, fun a1 _ a2 _ a3 _ a4 _ => ?_⟩
    have hr : [e 1075, e 1076, e 1077, e 1078] = lowV (sumJ R1 (rsV (e 1) (e 2) (e 3)) (rsV (e 8) (e 9) (e 10))) ++ [0] := by
      rw [show e 1075 = _ from a1, show e 1076 = _ from a2, show e 1077 = _ from a3, show e 1078 = _ from a4]; rfl
    rw [if_pos e0]
    show [e 0, e 1075, e 1076, e 1077, 0, 0, 0, 0] = _
    have hl : [e 1075, e 1076, e 1077] = lowV (sumJ R1 (rsV (e 1) (e 2) (e 3)) (rsV (e 8) (e 9) (e 10))) := by
      unfold lowV at hr ⊢
      injection hr with x1 hr
      injection hr with x2 hr
      injection hr with x3 hr
      rw [x1, x2, x3]
    rw [← hl, e0]; rfl
  · have n0 : ¬ e 0 = 0 := by omega
    obtain ⟨hl, hin⟩ : isL (e 0) ∧ inP (pL (e 0)) (rOf (e 0)) (e 4) (e 5) (e 6) := by
      rcases hok with hh | hh
      · exact absurd hh.1 n0
      · exact ⟨hh.1, hh.2.2⟩
    have hin' : inP (pL (e 0)) (rOf (e 0)) (e 11) (e 12) (e 13) := by
      rcases hok' with hh | hh
      · exact absurd (hss.trans hh.1) n0
      · rw [hss]; exact hh.2.2
    refine ⟨⟨hl, hin.1, hin'.1⟩, fun a1 _ a2 _ a3 _ a4 _ => ?_⟩
    have hr : [e 1075, e 1076, e 1077, e 1078] = (sumP (pL (e 0)) ⟨e 4, e 5, e 6⟩ ⟨e 11, e 12, e 13⟩).l ++ [0] := by
      rw [show e 1075 = _ from a1, show e 1076 = _ from a2, show e 1077 = _ from a3, show e 1078 = _ from a4]; rfl
    rw [if_neg n0]
    show [e 0, 0, 0, 0, e 1075, e 1076, e 1077, 0] = _
    have hl2 : [e 1075, e 1076, e 1077] = (sumP (pL (e 0)) ⟨e 4, e 5, e 6⟩ ⟨e 11, e 12, e 13⟩).l := by
      unfold Pt.l at hr ⊢
      injection hr with x1 hr
      injection hr with x2 hr
      injection hr with x3 hr
      rw [x1, x2, x3]
    rw [← hl2]; rfl
def genK (s : Int) : List Int := if s = 0 then [0, g1X, g1Y, 0, 0, 0, 0, 0] else [s, 0, 0, 0, if s = 1 then 9723 else 613740293506734924, if s = 1 then 164643 else 666621259561003659, 0, 0]
def kSGen (f : FuncId) : K := { fn := f, ext := false, ins := [iI], outs := [.agg lsKey, oI], pre := fun | [s] => isS s | _ => False, sem := fun | [s] => genK s | _ => [] }
def tSGen : Tree := (.lett 1 .bit (.cmp .eql (.var 0) (.lit 0))
(.split 1
 (.req 0 []
 (.lett 2 .num (.app 0 0 [])
 (.lett 3 .num (.app 0 1 [])
 (.lett 4 .bit (.app 0 2 [])
 (.ret [(.lit 0), (.var 2), (.var 3), (.var 4), (.lit 0), (.lit 0), (.lit 0), (.lit 0)])))))
 (.req 1 [(.var 0)]
 (.lett 2 (.int .u64) (.app 1 0 [(.var 0)])
 (.lett 3 (.int .u64) (.app 1 1 [(.var 0)])
 (.lett 4 .bit (.app 1 2 [(.var 0)])
 (.lett 5 (.int .i64) (.app 1 3 [(.var 0)])
 (.lett 6 .bit (.cmp .neq (.var 5) (.lit 0))
 (.split 6
  (.ret [(.lit 0), (.lit 0), (.lit 0), (.lit 0), (.lit 0), (.lit 0), (.lit 0), (.var 5)])
  (.ret [(.var 0), (.lit 0), (.lit 0), (.lit 0), (.var 2), (.var 3), (.var 4), (.lit 0)]))))))))))
theorem law_sGen (f1 f2 f : FuncId) (e : Nat → Int) (hp : (kSGen f).pre [e 0]) : tSGen.says [kGen1 f1, kLGen2 f2] ⟨fun ys => ys = (kSGen f).sem [e 0], []⟩ e := by
  have hs : isS (e 0) := hp
  show tSGen.says _ ⟨fun ys => ys = genK (e 0), []⟩ e
  unfold genK
  intro a1 _
  have b1 := c_eq a1
  simp only [ev_var, ev_lit] at b1
  refine ⟨fun h => ?_, fun h => ?_⟩
  · refine ⟨trivial, fun a2 _ a3 _ a4 _ => ?_⟩
    show [0, e 2, e 3, e 4, 0, 0, 0, 0] = _
    rw [if_pos (show e 0 = 0 by omega), show e 2 = g1X from a2, show e 3 = g1Y from a3, show e 4 = 0 from a4]
  · have hl : isL (e 0) := by
      obtain ⟨h1, h2⟩ := hs
      have : e 0 = 1 ∨ e 0 = 2 := by omega
      exact this
    refine ⟨hl, fun a2 _ a3 _ a4 _ a5 _ a6 _ => ?_⟩
    have v5 : e 5 = 0 := a5
    have b6 := c_ne a6
    simp only [ev_var, ev_lit] at b6
    refine ⟨fun h => by omega, fun _ => ?_⟩
    show [e 0, 0, 0, 0, e 2, e 3, e 4, 0] = _
    rw [if_neg (show ¬ e 0 = 0 by omega), show e 2 = (if e 0 = 1 then 9723 else 613740293506734924) from a2, show e 3 = (if e 0 = 1 then 164643 else 666621259561003659) from a3, show e 4 = 0 from a4]
abbrev lsSig : List L := [.int .i64, .num, .num, .num, .num, .bool, .int .u64, .int .u64, .bool]
noncomputable def kSigL (f : FuncId) : K := { fn := f, ext := false, ins := [.agg lsSig], outs := [oB], pre := fun | [s, _, _, _, _, _, _, _, _] => isL s | _ => False, sem := fun | [s, a, b, c, d, pz, x, y, z] => [bj ((a = 0 ∧ b = 0 ∧ c = 0 ∧ d = 0 ∧ pz = 0) ∧ inP (pL s) (rOf s) x y z)] | _ => [] }
end Go.Sx

/- Laws: SuiteKnown. -/
namespace Go.Sx
open Go Go.RowKit
set_option maxRecDepth 100000
set_option linter.unusedVariables false
set_option linter.unusedSimpArgs false
theorem tblc {T : List K} {r : Sem1} {l : List Sem1} {κ : K} (h : T[r.g]? = some κ) (h1 : κ.pre (r.args.map W.toI)) (h2 : κ.sem (r.args.map W.toI) = r.outs.map W.toI) (h3 : TblOk T l) : TblOk T (r :: l) :=
  ⟨by rw [h]; exact ⟨h1, h2⟩, h3⟩
/-! ### a little multiple, reckoned -/
def pwF (p a n : Int) : Int := ((Np.pm p.toNat 64 a.toNat n.toNat : Nat) : Int)
theorem pwM_F {p a n : Int} (h : n.toNat < 2 ^ 64) : pwM p a n = pwF p a n := by unfold pwM pwF; rw [Np.pm_ok _ _ _ _ h]
def slopeF (p x y x' y' : Int) : Int × Int :=
  if x ≠ x' then ((y' - y) % p * pwF p ((x' - x) % p) (p - 2) % p, 1)
  else if y ≠ y' ∨ y = 0 then (0, 0)
  else ((((x * x % p + x * x % p) % p + x * x % p) % p + 1) % p * pwF p ((y + y) % p) (p - 2) % p, 1)
theorem slopeF_eq {p x y x' y' : Int} (h : (p - 2).toNat < 2 ^ 64) : slopeP p x y x' y' = slopeF p x y x' y' := by
  unfold slopeP slopeF invP
  rw [pwM_F h, pwM_F h]
def sumF (p : Int) (a b : Pt) : Pt :=
  if a.z ≠ 0 then b else if b.z ≠ 0 then a else
  let s := slopeF p a.x a.y b.x b.y
  if s.2 = 0 then ⟨0, 0, 1⟩ else
  let x := ((s.1 * s.1 % p - a.x) % p - b.x) % p
  ⟨x, (s.1 * ((a.x - x) % p) % p - a.y) % p, 0⟩
theorem sumF_eq {p : Int} {a b : Pt} (h : (p - 2).toNat < 2 ^ 64) : sumP p a b = sumF p a b := by
  unfold sumP sumF
  rw [slopeF_eq h]
def mulF (p : Int) (a : Pt) : Nat → Nat → Pt
  | 0, _ => ⟨0, 0, 1⟩
  | k + 1, n => if n = 0 then ⟨0, 0, 1⟩ else
    let h := mulF p a k (n / 2)
    let d := sumF p h h
    if n % 2 = 1 then sumF p d a else d
theorem mulF_eq {p : Int} {a : Pt} (h : (p - 2).toNat < 2 ^ 64) : ∀ k n, mulP p a k n = mulF p a k n
  | 0, _ => rfl
  | k + 1, n => by
    unfold mulP mulF
    rw [mulF_eq h k (n / 2)]
    simp only [sumF_eq h]
theorem gen2_in : inP (pL 2) (rOf 2) 613740293506734924 666621259561003659 0 := by
  refine ⟨by decide, ?_⟩
  rw [mulF_eq (by decide)]
  decide +kernel
theorem key_0 : keyOk 0 g1X g1Y 0 0 0 0 := by
  refine .inl ⟨rfl, ⟨rfl, rfl, rfl⟩, ⟨⟨by decide, by decide⟩, ?_⟩, ?_⟩
  · rw [if_pos rfl]; decide +kernel
  · rw [show rsV g1X g1Y 0 = ⟨g1X, g1Y, 1⟩ by unfold rsV; rw [if_pos rfl]]
    decide +kernel
theorem key_1 : keyOk 1 0 0 0 9723 164643 0 := .inr ⟨.inl rfl, ⟨rfl, rfl, rfl⟩, gen_in'⟩
theorem key_2 : keyOk 2 0 0 0 613740293506734924 666621259561003659 0 := .inr ⟨.inr rfl, ⟨rfl, rfl, rfl⟩, gen2_in⟩
theorem key_no : ¬ keyOk 0 0 0 0 0 0 0 := by
  rintro (h | h)
  · have := h.2.2.1.2
    rw [if_pos rfl] at this
    exact absurd this (by decide)
  · rcases h.1 with h | h <;> exact absurd h (by decide)
theorem key_3 : ¬ keyOk 3 0 0 0 0 0 0 := by
  rintro (h | h)
  · exact absurd h.1 (by decide)
  · rcases h.1 with h | h <;> exact absurd h (by decide)
theorem mul_zero' : keyMul 0 g1X g1Y 0 0 0 0 0 = [0, 0, 0, 1, 0, 0, 0, 0] := by
  unfold keyMul
  rw [if_neg (fun h => h key_0), if_neg (fun h => h (by decide)), if_pos rfl, Int.toNat_zero, tm_0]
  have : lowV (oJ R1) = [0, 0, 1] := by
    unfold lowV lowJ
    rw [if_pos (by decide)]; decide
  rw [this]; rfl
theorem add_no : keyAdd 1 0 0 0 9723 164643 0 2 0 0 0 613740293506734924 666621259561003659 0 = [0, 0, 0, 0, 0, 0, 0, 2] := by
  unfold keyAdd
  rw [if_neg (by rintro (h | h); exact h key_1; exact h key_2), if_pos (by decide)]
theorem inv_zero : ∀ f, (kSInv f).sem [0, 0] = [0, 6] := fun f => by
  simp only [kSInv]
  rw [if_pos (show isS 0 ∧ (0 : Int) < rOf 0 by decide)]
  have hn : ¬ ∃ y, 0 ≤ y ∧ y < rOf 0 ∧ 0 * y % rOf 0 = 1 := by
    rintro ⟨y, _, _, h⟩
    rw [Int.zero_mul] at h
    exact absurd h (by decide)
  rw [if_neg hn]
  unfold invM
  rw [dif_neg hn]
noncomputable def kSigZ (f : FuncId) : K := { fn := f, ext := false, ins := [.agg lsSig], outs := [oB], pre := fun | [s, a, b, c, d, pz, x, y, z] => isL s ∧ a = 0 ∧ b = 0 ∧ c = 0 ∧ d = 0 ∧ pz = 0 | _ => False, sem := fun | [s, a, b, c, d, pz, x, y, z] => [bj (inP (pL s) (rOf s) x y z)] | _ => [] }
theorem lim_z (j : Nat) : lim 0 j = 0 := by unfold lim; rw [Int.zero_ediv]; rfl
def tSigChk : Tree := (.lett 9 .bit (.cmp .eql (.var 0) (.lit 0))
(.split 9
 (.lett 10 .bit (.eqs [((.var 6), (.lit 0)), ((.var 7), (.lit 0)), ((.var 8), (.lit 0))])
 (.split 10
  (.req 0 [(.var 1), (.var 2), (.var 3), (.var 4), (.var 5)]
  (.lett 11 .bit (.app 0 0 [(.var 1), (.var 2), (.var 3), (.var 4), (.var 5)])
  (.ret [(.var 11)])))
  (.ret [(.lit 0)])))
 (.lett 10 .bit (.cmp .eql (.var 0) (.lit 1))
 (.split 10
  (.lett 11 .bit (.eqs [((.limb 1 0), (.lit 0)), ((.limb 1 1), (.lit 0)), ((.limb 1 2), (.lit 0)), ((.limb 1 3), (.lit 0)), ((.limb 1 4), (.lit 0)), ((.limb 1 5), (.lit 0)), ((.limb 2 0), (.lit 0)), ((.limb 2 1), (.lit 0)), ((.limb 2 2), (.lit 0)), ((.limb 2 3), (.lit 0)), ((.limb 2 4), (.lit 0)), ((.limb 2 5), (.lit 0)), ((.limb 3 0), (.lit 0)), ((.limb 3 1), (.lit 0)), ((.limb 3 2), (.lit 0)), ((.limb 3 3), (.lit 0)), ((.limb 3 4), (.lit 0)), ((.limb 3 5), (.lit 0)), ((.limb 4 0), (.lit 0)), ((.limb 4 1), (.lit 0)), ((.limb 4 2), (.lit 0)), ((.limb 4 3), (.lit 0)), ((.limb 4 4), (.lit 0)), ((.limb 4 5), (.lit 0)), ((.var 5), (.lit 0))])
  (.split 11
   (.req 1 [(.var 0), (.var 6), (.var 7), (.var 8)]
   (.lett 12 .bit (.app 1 0 [(.var 0), (.var 6), (.var 7), (.var 8)])
   (.ret [(.var 12)])))
   (.ret [(.lit 0)])))
  (.lett 11 .bit (.cmp .eql (.var 0) (.lit 2))
  (.split 11
   (.lett 12 .bit (.eqs [((.limb 1 0), (.lit 0)), ((.limb 1 1), (.lit 0)), ((.limb 1 2), (.lit 0)), ((.limb 1 3), (.lit 0)), ((.limb 1 4), (.lit 0)), ((.limb 1 5), (.lit 0)), ((.limb 2 0), (.lit 0)), ((.limb 2 1), (.lit 0)), ((.limb 2 2), (.lit 0)), ((.limb 2 3), (.lit 0)), ((.limb 2 4), (.lit 0)), ((.limb 2 5), (.lit 0)), ((.limb 3 0), (.lit 0)), ((.limb 3 1), (.lit 0)), ((.limb 3 2), (.lit 0)), ((.limb 3 3), (.lit 0)), ((.limb 3 4), (.lit 0)), ((.limb 3 5), (.lit 0)), ((.limb 4 0), (.lit 0)), ((.limb 4 1), (.lit 0)), ((.limb 4 2), (.lit 0)), ((.limb 4 3), (.lit 0)), ((.limb 4 4), (.lit 0)), ((.limb 4 5), (.lit 0)), ((.var 5), (.lit 0))])
   (.split 12
    (.req 1 [(.var 0), (.var 6), (.var 7), (.var 8)]
    (.lett 13 .bit (.app 1 0 [(.var 0), (.var 6), (.var 7), (.var 8)])
    (.ret [(.var 13)])))
    (.ret [(.lit 0)])))
   (.ret [(.lit 0)])))))))
theorem law_sigZ (f1 f2 f : FuncId) (i1 : List Sh) (o1 : List Oh) (e : Nat → Int) (hp : (kSigZ f).pre [e 0, e 1, e 2, e 3, e 4, e 5, e 6, e 7, e 8]) : tSigChk.says [kNever f1 i1 o1, kLIn2 f2] ⟨fun ys => ys = (kSigZ f).sem [e 0, e 1, e 2, e 3, e 4, e 5, e 6, e 7, e 8], []⟩ e := by
  obtain ⟨hl, h1, h2, h3, h4, h5⟩ : isL (e 0) ∧ e 1 = 0 ∧ e 2 = 0 ∧ e 3 = 0 ∧ e 4 = 0 ∧ e 5 = 0 := hp
  show tSigChk.says _ ⟨fun ys => ys = [bj (inP (pL (e 0)) (rOf (e 0)) (e 6) (e 7) (e 8))], []⟩ e
  have hn : ¬ e 0 = 0 := fun h => by rcases hl with h' | h' <;> (rw [h] at h'; exact absurd h' (by decide))
  have fin : ∀ v : Int, v = bj (isL (e 0) ∧ inP (pL (e 0)) (rOf (e 0)) (e 6) (e 7) (e 8)) → [v] = [bj (inP (pL (e 0)) (rOf (e 0)) (e 6) (e 7) (e 8))] := fun v hv => by
    rw [hv]; exact congrArg (fun x => [x]) (bj_iff ⟨fun h => h.2, fun h => ⟨hl, h⟩⟩)
  intro a9 _
  have b9 := c_eq a9
  simp only [ev_var, ev_lit] at b9
  refine ⟨fun h => by omega, fun _ => ?_⟩
  intro a10 _
  have b10 := c_eq a10
  simp only [ev_var, ev_lit] at b10
  refine ⟨fun h => ?_, fun h => ?_⟩
  · intro a11 _
    simp only [D.ev, List.all_cons, List.all_nil, ev_limb, ev_lit, ev_var, h1, h2, h3, h4, h5, lim_z] at a11
    have v11 : e 11 = 1 := a11
    exact ⟨fun _ => ⟨trivial, fun a12 _ => fin _ a12⟩, fun hz => by omega⟩
  · intro a11 _
    have b11 := c_eq a11
    simp only [ev_var, ev_lit] at b11
    have e2 : e 0 = 2 := by
      rcases hl with h' | h'
      · omega
      · exact h'
    refine ⟨fun _ => ?_, fun hz => by omega⟩
    intro a12 _
    simp only [D.ev, List.all_cons, List.all_nil, ev_limb, ev_lit, ev_var, h1, h2, h3, h4, h5, lim_z] at a12
    have v12 : e 12 = 1 := a12
    exact ⟨fun _ => ⟨trivial, fun a13 _ => fin _ a13⟩, fun hz => by omega⟩
noncomputable def kKnown11 (f : FuncId) : K := { fn := f, ext := false, ins := [], outs := [oB], pre := fun _ => True, sem := fun _ => [1] }
def tKnown11 : Tree := (.req 0 [(.lit 1), (.lit 0)]
(.lett 0 .num (.app 0 0 [(.lit 1), (.lit 0)])
(.lett 1 (.int .i64) (.app 0 1 [(.lit 1), (.lit 0)])
(.req 2 [(.lit 65521)]
(.lett 2 .num (.app 2 0 [(.lit 65521)])
(.req 1 [(.lit 1), (.var 2), (.lit 0)]
(.lett 3 .num (.app 1 0 [(.lit 1), (.var 2), (.lit 0)])
(.lett 4 (.int .i64) (.app 1 1 [(.lit 1), (.var 2), (.lit 0)])
(.req 3 [(.lit 3)]
(.lett 5 .num (.app 3 0 [(.lit 3)])
(.lett 6 (.int .i64) (.app 3 1 [(.lit 3)])
(.req 4 [(.lit 0), (.lit 0)]
(.lett 7 .num (.app 4 0 [(.lit 0), (.lit 0)])
(.lett 8 (.int .i64) (.app 4 1 [(.lit 0), (.lit 0)])
(.req 5 [(.lit 0)]
(.lett 9 (.int .i64) (.app 5 0 [(.lit 0)])
(.lett 10 .num (.app 5 1 [(.lit 0)])
(.lett 11 .num (.app 5 2 [(.lit 0)])
(.lett 12 .bit (.app 5 3 [(.lit 0)])
(.lett 13 (.int .u64) (.app 5 4 [(.lit 0)])
(.lett 14 (.int .u64) (.app 5 5 [(.lit 0)])
(.lett 15 .bit (.app 5 6 [(.lit 0)])
(.lett 16 (.int .i64) (.app 5 7 [(.lit 0)])
(.req 6 [(.var 9), (.var 10), (.var 11), (.var 12), (.var 13), (.var 14), (.var 15), (.lit 0)]
(.lett 17 (.int .i64) (.app 6 0 [(.var 9), (.var 10), (.var 11), (.var 12), (.var 13), (.var 14), (.var 15), (.lit 0)])
(.lett 18 .num (.app 6 1 [(.var 9), (.var 10), (.var 11), (.var 12), (.var 13), (.var 14), (.var 15), (.lit 0)])
(.lett 19 .num (.app 6 2 [(.var 9), (.var 10), (.var 11), (.var 12), (.var 13), (.var 14), (.var 15), (.lit 0)])
(.lett 20 .bit (.app 6 3 [(.var 9), (.var 10), (.var 11), (.var 12), (.var 13), (.var 14), (.var 15), (.lit 0)])
(.lett 21 (.int .u64) (.app 6 4 [(.var 9), (.var 10), (.var 11), (.var 12), (.var 13), (.var 14), (.var 15), (.lit 0)])
(.lett 22 (.int .u64) (.app 6 5 [(.var 9), (.var 10), (.var 11), (.var 12), (.var 13), (.var 14), (.var 15), (.lit 0)])
(.lett 23 .bit (.app 6 6 [(.var 9), (.var 10), (.var 11), (.var 12), (.var 13), (.var 14), (.var 15), (.lit 0)])
(.lett 24 (.int .i64) (.app 6 7 [(.var 9), (.var 10), (.var 11), (.var 12), (.var 13), (.var 14), (.var 15), (.lit 0)])
(.req 5 [(.lit 1)]
(.lett 25 (.int .i64) (.app 5 0 [(.lit 1)])
(.lett 26 .num (.app 5 1 [(.lit 1)])
(.lett 27 .num (.app 5 2 [(.lit 1)])
(.lett 28 .bit (.app 5 3 [(.lit 1)])
(.lett 29 (.int .u64) (.app 5 4 [(.lit 1)])
(.lett 30 (.int .u64) (.app 5 5 [(.lit 1)])
(.lett 31 .bit (.app 5 6 [(.lit 1)])
(.lett 32 (.int .i64) (.app 5 7 [(.lit 1)])
(.req 5 [(.lit 2)]
(.lett 33 (.int .i64) (.app 5 0 [(.lit 2)])
(.lett 34 .num (.app 5 1 [(.lit 2)])
(.lett 35 .num (.app 5 2 [(.lit 2)])
(.lett 36 .bit (.app 5 3 [(.lit 2)])
(.lett 37 (.int .u64) (.app 5 4 [(.lit 2)])
(.lett 38 (.int .u64) (.app 5 5 [(.lit 2)])
(.lett 39 .bit (.app 5 6 [(.lit 2)])
(.lett 40 (.int .i64) (.app 5 7 [(.lit 2)])
(.req 7 [(.var 25), (.var 26), (.var 27), (.var 28), (.var 29), (.var 30), (.var 31), (.var 33), (.var 34), (.var 35), (.var 36), (.var 37), (.var 38), (.var 39)]
(.lett 41 (.int .i64) (.app 7 0 [(.var 25), (.var 26), (.var 27), (.var 28), (.var 29), (.var 30), (.var 31), (.var 33), (.var 34), (.var 35), (.var 36), (.var 37), (.var 38), (.var 39)])
(.lett 42 .num (.app 7 1 [(.var 25), (.var 26), (.var 27), (.var 28), (.var 29), (.var 30), (.var 31), (.var 33), (.var 34), (.var 35), (.var 36), (.var 37), (.var 38), (.var 39)])
(.lett 43 .num (.app 7 2 [(.var 25), (.var 26), (.var 27), (.var 28), (.var 29), (.var 30), (.var 31), (.var 33), (.var 34), (.var 35), (.var 36), (.var 37), (.var 38), (.var 39)])
(.lett 44 .bit (.app 7 3 [(.var 25), (.var 26), (.var 27), (.var 28), (.var 29), (.var 30), (.var 31), (.var 33), (.var 34), (.var 35), (.var 36), (.var 37), (.var 38), (.var 39)])
(.lett 45 (.int .u64) (.app 7 4 [(.var 25), (.var 26), (.var 27), (.var 28), (.var 29), (.var 30), (.var 31), (.var 33), (.var 34), (.var 35), (.var 36), (.var 37), (.var 38), (.var 39)])
(.lett 46 (.int .u64) (.app 7 5 [(.var 25), (.var 26), (.var 27), (.var 28), (.var 29), (.var 30), (.var 31), (.var 33), (.var 34), (.var 35), (.var 36), (.var 37), (.var 38), (.var 39)])
(.lett 47 .bit (.app 7 6 [(.var 25), (.var 26), (.var 27), (.var 28), (.var 29), (.var 30), (.var 31), (.var 33), (.var 34), (.var 35), (.var 36), (.var 37), (.var 38), (.var 39)])
(.lett 48 (.int .i64) (.app 7 7 [(.var 25), (.var 26), (.var 27), (.var 28), (.var 29), (.var 30), (.var 31), (.var 33), (.var 34), (.var 35), (.var 36), (.var 37), (.var 38), (.var 39)])
(.req 8 [(.lit 0), (.lit 0), (.lit 0), (.lit 0), (.lit 0), (.lit 0), (.lit 0)]
(.lett 49 .bit (.app 8 0 [(.lit 0), (.lit 0), (.lit 0), (.lit 0), (.lit 0), (.lit 0), (.lit 0)])
(.lett 50 .bit (.not (.var 49))
(.split 50
 (.req 9 [(.lit 1), (.lit 0), (.lit 0), (.lit 0), (.lit 0), (.lit 0), (.lit 0), (.lit 0), (.lit 1)]
 (.lett 51 .bit (.app 9 0 [(.lit 1), (.lit 0), (.lit 0), (.lit 0), (.lit 0), (.lit 0), (.lit 0), (.lit 0), (.lit 1)])
 (.split 51
  (.req 8 [(.lit 3), (.lit 0), (.lit 0), (.lit 0), (.lit 0), (.lit 0), (.lit 0)]
  (.lett 52 .bit (.app 8 0 [(.lit 3), (.lit 0), (.lit 0), (.lit 0), (.lit 0), (.lit 0), (.lit 0)])
  (.lett 53 .bit (.not (.var 52))
  (.req 10 []
  (.lett 54 .bit (.app 10 0 [])
  (.split 54
   (.lett 55 .bit (.eqs [((.limb 0 0), (.lit 0)), ((.limb 0 1), (.lit 0)), ((.limb 0 2), (.lit 0)), ((.limb 0 3), (.lit 0)), ((.limb 0 4), (.lit 0)), ((.limb 0 5), (.lit 0))])
   (.split 55
    (.lett 56 .bit (.cmp .eql (.var 1) (.lit 0))
    (.split 56
     (.lett 57 .bit (.cmp .eql (.var 4) (.lit 2))
     (.split 57
      (.lett 58 .bit (.cmp .eql (.var 6) (.lit 2))
      (.split 58
       (.lett 59 .bit (.cmp .eql (.var 8) (.lit 6))
       (.split 59
        (.lett 60 .bit (.cmp .eql (.var 16) (.lit 0))
        (.split 60
         (.lett 61 .bit (.eqs [((.var 17), (.lit 0)), ((.limb 18 0), (.lit 0)), ((.limb 18 1), (.lit 0)), ((.limb 18 2), (.lit 0)), ((.limb 18 3), (.lit 0)), ((.limb 18 4), (.lit 0)), ((.limb 18 5), (.lit 0)), ((.limb 19 0), (.lit 0)), ((.limb 19 1), (.lit 0)), ((.limb 19 2), (.lit 0)), ((.limb 19 3), (.lit 0)), ((.limb 19 4), (.lit 0)), ((.limb 19 5), (.lit 0)), ((.var 20), (.lit 1)), ((.var 21), (.lit 0)), ((.var 22), (.lit 0)), ((.var 23), (.lit 0))])
         (.split 61
          (.lett 62 .bit (.cmp .eql (.var 24) (.lit 0))
          (.split 62
           (.lett 63 .bit (.cmp .eql (.var 48) (.lit 2))
           (.split 63
            (.ret [(.var 53)])
            (.ret [(.lit 0)])))
           (.ret [(.lit 0)])))
          (.ret [(.lit 0)])))
         (.ret [(.lit 0)])))
        (.ret [(.lit 0)])))
       (.ret [(.lit 0)])))
      (.ret [(.lit 0)])))
     (.ret [(.lit 0)])))
    (.ret [(.lit 0)])))
   (.ret [(.lit 0)])))))))
  (.req 10 []
  (.lett 52 .bit (.app 10 0 [])
  (.split 52
   (.lett 53 .bit (.eqs [((.limb 0 0), (.lit 0)), ((.limb 0 1), (.lit 0)), ((.limb 0 2), (.lit 0)), ((.limb 0 3), (.lit 0)), ((.limb 0 4), (.lit 0)), ((.limb 0 5), (.lit 0))])
   (.split 53
    (.lett 54 .bit (.cmp .eql (.var 1) (.lit 0))
    (.split 54
     (.lett 55 .bit (.cmp .eql (.var 4) (.lit 2))
     (.split 55
      (.lett 56 .bit (.cmp .eql (.var 6) (.lit 2))
      (.split 56
       (.lett 57 .bit (.cmp .eql (.var 8) (.lit 6))
       (.split 57
        (.lett 58 .bit (.cmp .eql (.var 16) (.lit 0))
        (.split 58
         (.lett 59 .bit (.eqs [((.var 17), (.lit 0)), ((.limb 18 0), (.lit 0)), ((.limb 18 1), (.lit 0)), ((.limb 18 2), (.lit 0)), ((.limb 18 3), (.lit 0)), ((.limb 18 4), (.lit 0)), ((.limb 18 5), (.lit 0)), ((.limb 19 0), (.lit 0)), ((.limb 19 1), (.lit 0)), ((.limb 19 2), (.lit 0)), ((.limb 19 3), (.lit 0)), ((.limb 19 4), (.lit 0)), ((.limb 19 5), (.lit 0)), ((.var 20), (.lit 1)), ((.var 21), (.lit 0)), ((.var 22), (.lit 0)), ((.var 23), (.lit 0))])
         (.split 59
          (.lett 60 .bit (.cmp .eql (.var 24) (.lit 0))
          (.split 60
           (.lett 61 .bit (.cmp .eql (.var 48) (.lit 2))
           (.split 61
            (.ret [(.lit 0)])
            (.ret [(.lit 0)])))
           (.ret [(.lit 0)])))
          (.ret [(.lit 0)])))
         (.ret [(.lit 0)])))
        (.ret [(.lit 0)])))
       (.ret [(.lit 0)])))
      (.ret [(.lit 0)])))
     (.ret [(.lit 0)])))
    (.ret [(.lit 0)])))
   (.ret [(.lit 0)])))))))
 (.req 10 []
 (.lett 51 .bit (.app 10 0 [])
 (.split 51
  (.lett 52 .bit (.eqs [((.limb 0 0), (.lit 0)), ((.limb 0 1), (.lit 0)), ((.limb 0 2), (.lit 0)), ((.limb 0 3), (.lit 0)), ((.limb 0 4), (.lit 0)), ((.limb 0 5), (.lit 0))])
  (.split 52
   (.lett 53 .bit (.cmp .eql (.var 1) (.lit 0))
   (.split 53
    (.lett 54 .bit (.cmp .eql (.var 4) (.lit 2))
    (.split 54
     (.lett 55 .bit (.cmp .eql (.var 6) (.lit 2))
     (.split 55
      (.lett 56 .bit (.cmp .eql (.var 8) (.lit 6))
      (.split 56
       (.lett 57 .bit (.cmp .eql (.var 16) (.lit 0))
       (.split 57
        (.lett 58 .bit (.eqs [((.var 17), (.lit 0)), ((.limb 18 0), (.lit 0)), ((.limb 18 1), (.lit 0)), ((.limb 18 2), (.lit 0)), ((.limb 18 3), (.lit 0)), ((.limb 18 4), (.lit 0)), ((.limb 18 5), (.lit 0)), ((.limb 19 0), (.lit 0)), ((.limb 19 1), (.lit 0)), ((.limb 19 2), (.lit 0)), ((.limb 19 3), (.lit 0)), ((.limb 19 4), (.lit 0)), ((.limb 19 5), (.lit 0)), ((.var 20), (.lit 1)), ((.var 21), (.lit 0)), ((.var 22), (.lit 0)), ((.var 23), (.lit 0))])
        (.split 58
         (.lett 59 .bit (.cmp .eql (.var 24) (.lit 0))
         (.split 59
          (.lett 60 .bit (.cmp .eql (.var 48) (.lit 2))
          (.split 60
           (.ret [(.lit 0)])
           (.ret [(.lit 0)])))
          (.ret [(.lit 0)])))
         (.ret [(.lit 0)])))
        (.ret [(.lit 0)])))
       (.ret [(.lit 0)])))
      (.ret [(.lit 0)])))
     (.ret [(.lit 0)])))
    (.ret [(.lit 0)])))
   (.ret [(.lit 0)])))
  (.ret [(.lit 0)])))))))))))))))))))))))))))))))))))))))))))))))))))))))))))))))))))
def tblKnown11 : List Sem1 := [
  ⟨0, [.wi 1, .wi 0], [.wi 0, .wi 0]⟩,
  ⟨1, [.wi 1, .wi 65521, .wi 0], [.wi 0, .wi 2]⟩,
  ⟨2, [.wi 65521], [.wi 65521]⟩,
  ⟨3, [.wi 3], [.wi 0, .wi 2]⟩,
  ⟨4, [.wi 0, .wi 0], [.wi 0, .wi 6]⟩,
  ⟨5, [.wi 0], [.wi 0, .wi g1X, .wi g1Y, .wi 0, .wi 0, .wi 0, .wi 0, .wi 0]⟩,
  ⟨5, [.wi 1], [.wi 1, .wi 0, .wi 0, .wi 0, .wi 9723, .wi 164643, .wi 0, .wi 0]⟩,
  ⟨5, [.wi 2], [.wi 2, .wi 0, .wi 0, .wi 0, .wi 613740293506734924, .wi 666621259561003659, .wi 0, .wi 0]⟩,
  ⟨6, [.wi 0, .wi g1X, .wi g1Y, .wi 0, .wi 0, .wi 0, .wi 0, .wi 0], [.wi 0, .wi 0, .wi 0, .wi 1, .wi 0, .wi 0, .wi 0, .wi 0]⟩,
  ⟨7, [.wi 1, .wi 0, .wi 0, .wi 0, .wi 9723, .wi 164643, .wi 0, .wi 2, .wi 0, .wi 0, .wi 0, .wi 613740293506734924, .wi 666621259561003659, .wi 0], [.wi 0, .wi 0, .wi 0, .wi 0, .wi 0, .wi 0, .wi 0, .wi 2]⟩,
  ⟨8, [.wi 0, .wi 0, .wi 0, .wi 0, .wi 0, .wi 0, .wi 0], [.wi 0]⟩,
  ⟨8, [.wi 3, .wi 0, .wi 0, .wi 0, .wi 0, .wi 0, .wi 0], [.wi 0]⟩,
  ⟨9, [.wi 1, .wi 0, .wi 0, .wi 0, .wi 0, .wi 0, .wi 0, .wi 0, .wi 1], [.wi 1]⟩,
  ⟨10, [], [.wi 1]⟩]
theorem known11_clo : tKnown11.clo (findS tblKnown11) isOne [] = true := by kernel_rfl
theorem sig_one : inP (pL 1) (rOf 1) 0 0 1 := by decide +kernel
theorem known11_tbl (f0 f1 f2 f3 f4 f5 f6 f7 f8 f9 f10 : FuncId) : TblOk [kSNeg f0, kS2 f1 (· + ·), kOf f2, kSOrder f3, kSInv f4, kSGen f5, kKMul f6, kKAdd f7, kKeyChk f8, kSigZ f9, kAwake f10] tblKnown11 :=
  tblc (κ := kSNeg f0) rfl trivial (by show (if isS 1 ∧ (0 : Int) < rOf 1 then [(-0) % rOf 1, 0] else [0, 2]) = [0, 0]; rw [if_pos (by decide)]; rfl) <|
  tblc (κ := kS2 f1 (· + ·)) rfl trivial (by show sem2 (· + ·) [1, 65521, 0] = [0, 2]; decide) <|
  tblc (κ := kOf f2) rfl trivial rfl <|
  tblc (κ := kSOrder f3) rfl trivial (by show (if isS 3 then [rOf 3, 0] else [0, 2]) = [0, 2]; rw [if_neg (by decide)]) <|
  tblc (κ := kSInv f4) rfl trivial (inv_zero f4) <|
  tblc (κ := kSGen f5) rfl (show isS 0 by decide) rfl <|
  tblc (κ := kSGen f5) rfl (show isS 1 by decide) rfl <|
  tblc (κ := kSGen f5) rfl (show isS 2 by decide) rfl <|
  tblc (κ := kKMul f6) rfl trivial mul_zero' <|
  tblc (κ := kKAdd f7) rfl trivial add_no <|
  tblc (κ := kKeyChk f8) rfl trivial (by show [bj (keyOk 0 0 0 0 0 0 0)] = [0]; rw [bj_f key_no]) <|
  tblc (κ := kKeyChk f8) rfl trivial (by show [bj (keyOk 3 0 0 0 0 0 0)] = [0]; rw [bj_f key_3]) <|
  tblc (κ := kSigZ f9) rfl ⟨.inl rfl, rfl, rfl, rfl, rfl, rfl⟩ (by show [bj (inP (pL 1) (rOf 1) 0 0 1)] = [1]; rw [bj_t sig_one]) <|
  tblc (κ := kAwake f10) rfl trivial rfl trivial
theorem law_known11 (f0 f1 f2 f3 f4 f5 f6 f7 f8 f9 f10 f : FuncId) (e : Nat → Int) : tKnown11.says [kSNeg f0, kS2 f1 (· + ·), kOf f2, kSOrder f3, kSInv f4, kSGen f5, kKMul f6, kKAdd f7, kKeyChk f8, kSigZ f9, kAwake f10] ⟨fun ys => ys = (kKnown11 f).sem [], []⟩ e :=
  clo_says (tbl_or (known11_tbl f0 f1 f2 f3 f4 f5 f6 f7 f8 f9 f10)) (fun ws h => isOne_ok h) tKnown11 [] known11_clo fun p hp => absurd hp (List.not_mem_nil)
end Go.Sx
