/- Laws: points gathered: gathered, Sum1, Mul1, Add1. -/
import Derived.Test.YtlddchekkjjleaaGreatHf
set_option linter.unusedVariables false
set_option linter.unusedSimpArgs false
namespace Go.Sx
open Go Go.RowKit
set_option maxRecDepth 100000
set_option linter.unusedVariables false
set_option linter.unusedSimpArgs false
noncomputable def cX (c : Int) : Int := (dec c).getD 0 0
noncomputable def cY (c : Int) : Int := (dec c).getD 1 0
noncomputable def cZ (c : Int) : Int := (dec c).getD 2 0
def plK : LK := .tup .num [.num, .bit]
noncomputable def gathI (l n : List Int) (i : Nat) : J Int := ((l.zip n).take i).foldl (fun acc p => J.md R1 (sumJ R1 acc (tmJ R1 (rsE (cX p.1) (cY p.1) (cZ p.1)) 384 p.2.toNat))) (oJ R1)
theorem getD_lt {l : List Int} {i : Nat} (h : i < l.length) : l.getD i 0 = l[i] := by
  rw [List.getD_eq_getElem?_getD, List.getElem?_eq_getElem h]; rfl
theorem gathI_step {l n : List Int} {i : Nat} (h : i < l.length) (hl : l.length = n.length) : gathI l n (i + 1) = J.md R1 (sumJ R1 (gathI l n i) (tmJ R1 (rsE (cX (l.getD i 0)) (cY (l.getD i 0)) (cZ (l.getD i 0))) 384 (n.getD i 0).toNat)) := by
  have hz : i < (l.zip n).length := by rw [List.length_zip]; omega
  unfold gathI
  rw [List.take_succ_eq_append_getElem hz, List.foldl_append, List.getElem_zip, getD_lt h, getD_lt (by omega)]; rfl
def gathOk (l : List Int) : Prop := ∀ c ∈ l, (cX c < bP ∧ cY c < bP) ∧ onE (cX c) (cY c) (cZ c)
noncomputable def kGath (o : Fo) (f : FuncId) : K := { fn := f, ext := false, ins := [.agg o.ls, .lst plK, .lst .num], outs := [.agg lsPl, oI]
                                                       pre := fun | [u, b, l, n] => u = toE 1 ∧ b = toE 4 ∧ (dec l).length = (dec n).length ∧ gathOk (dec l) | _ => False
                                                       sem := fun | [_, _, l, n] => lowE (gathI (dec l) (dec n) (dec l).length) ++ [0] | _ => [] }
def tGath : Tree := (.lett 4 (.int .i64) (.llen (.var 2))
(.lett 5 (.int .i64) (.llen (.var 3))
(.lett 6 .bit (.cmp .neq (.var 4) (.var 5))
(.split 6
 (.ret [(.lit 0), (.lit 0), (.lit 0), (.lit 2)])
 (.lett 7 (.int .i64) (.llen (.var 2))
 (.loop [(.lit 0)] [(.int .i64)] 8
 (.lett 9 .bit (.cmp .lss (.var 8) (.var 7))
 (.split 9
  (.lett 10 (.int .i64) (.llen (.var 2))
  (.lett 11 .bit (.cmp .leq (.lit 0) (.var 8))
  (.lett 12 .bit (.cmp .lss (.var 8) (.var 10))
  (.nz (.var 11)
  (.nz (.var 12)
  (.lett 13 .any (.lget (.var 2) (.var 8))
  (.lett 14 .num (.lget (.var 13) (.lit 0))
  (.lett 15 .num (.lget (.var 13) (.lit 1))
  (.lett 16 .bit (.lget (.var 13) (.lit 2))
  (.req 0 [(.var 0), (.var 1), (.var 14), (.var 15), (.var 16)]
  (.lett 17 .bit (.app 0 0 [(.var 0), (.var 1), (.var 14), (.var 15), (.var 16)])
  (.lett 18 .bit (.not (.var 17))
  (.split 18
   (.ret [(.lit 0), (.lit 0), (.lit 0), (.lit 5)])
   (.lett 19 (.int .i64) (.bin .add .i64 (.var 8) (.lit 1))
   (.back 0 [(.var 19)])))))))))))))))
  (.lett 10 (.int .i64) (.llen (.var 2))
  (.loop [(.lit 0), (.var 0), (.var 0), (.lit 0)] [(.int .i64), .num, .num, .num] 11
  (.lett 15 .bit (.cmp .lss (.var 11) (.var 10))
  (.split 15
   (.lett 16 (.int .i64) (.llen (.var 2))
   (.lett 17 .bit (.cmp .leq (.lit 0) (.var 11))
   (.lett 18 .bit (.cmp .lss (.var 11) (.var 16))
   (.nz (.var 17)
   (.nz (.var 18)
   (.lett 19 .any (.lget (.var 2) (.var 11))
   (.lett 20 .num (.lget (.var 19) (.lit 0))
   (.lett 21 .num (.lget (.var 19) (.lit 1))
   (.lett 22 .bit (.lget (.var 19) (.lit 2))
   (.req 3 [(.var 0), (.var 1), (.var 20), (.var 21), (.var 22)]
   (.lett 263 .num (.app 3 0 [(.var 0), (.var 1), (.var 20), (.var 21), (.var 22)])
   (.lett 264 .num (.app 3 1 [(.var 0), (.var 1), (.var 20), (.var 21), (.var 22)])
   (.lett 265 .num (.app 3 2 [(.var 0), (.var 1), (.var 20), (.var 21), (.var 22)])
   (.lett 407 (.int .i64) (.llen (.var 3))
   (.lett 408 .bit (.cmp .leq (.lit 0) (.var 11))
   (.lett 409 .bit (.cmp .lss (.var 11) (.var 407))
   (.nz (.var 408)
   (.nz (.var 409)
   (.lett 455 .num (.lget (.var 3) (.var 11))
   (.req 2 [(.var 0), (.var 1), (.var 263), (.var 264), (.var 265), (.var 455)]
   (.lett 503 .num (.app 2 0 [(.var 0), (.var 1), (.var 263), (.var 264), (.var 265), (.var 455)])
   (.lett 504 .num (.app 2 1 [(.var 0), (.var 1), (.var 263), (.var 264), (.var 265), (.var 455)])
   (.lett 505 .num (.app 2 2 [(.var 0), (.var 1), (.var 263), (.var 264), (.var 265), (.var 455)])
   (.req 1 [(.var 0), (.var 1), (.var 12), (.var 13), (.var 14), (.var 503), (.var 504), (.var 505)]
   (.lett 551 .num (.app 1 0 [(.var 0), (.var 1), (.var 12), (.var 13), (.var 14), (.var 503), (.var 504), (.var 505)])
   (.lett 552 .num (.app 1 1 [(.var 0), (.var 1), (.var 12), (.var 13), (.var 14), (.var 503), (.var 504), (.var 505)])
   (.lett 553 .num (.app 1 2 [(.var 0), (.var 1), (.var 12), (.var 13), (.var 14), (.var 503), (.var 504), (.var 505)])
   (.lett 647 (.int .i64) (.bin .add .i64 (.var 11) (.lit 1))
   (.back 1 [(.var 647), (.var 551), (.var 552), (.var 553)])))))))))))))))))))))))))))))
   (.req 4 [(.var 0), (.var 1), (.var 12), (.var 13), (.var 14)]
   (.lett 16 .num (.app 4 0 [(.var 0), (.var 1), (.var 12), (.var 13), (.var 14)])
   (.lett 17 .num (.app 4 1 [(.var 0), (.var 1), (.var 12), (.var 13), (.var 14)])
   (.lett 18 .bit (.app 4 2 [(.var 0), (.var 1), (.var 12), (.var 13), (.var 14)])
   (.ret [(.var 16), (.var 17), (.var 18), (.lit 0)])))))))))))))))))
theorem law_gath (o : Fo) (f1 f2 f3 f4 f5 f : FuncId) (e : Nat → Int) (hk : kkHas [.num, .num, .lst plK, .lst .num] [e 0, e 1, e 2, e 3]) (hp : (kGath o f).pre [e 0, e 1, e 2, e 3]) : tGath.says [kOn o f1, kSum o f2, kTimes o f3, kRaise o f4, kLower o f5] ⟨fun ys => ys = (kGath o f).sem [e 0, e 1, e 2, e 3], []⟩ e := by
  obtain ⟨q0, q1, hlen, hok⟩ : e 0 = toE 1 ∧ e 1 = toE 4 ∧ (dec (e 2)).length = (dec (e 3)).length ∧ gathOk (dec (e 2)) := hp
  obtain ⟨l, d2⟩ : ∃ l, dec (e 2) = l := ⟨_, rfl⟩
  obtain ⟨n, d3⟩ : ∃ n, dec (e 3) = n := ⟨_, rfl⟩
  have hll : l.length ≤ 9223372036854775807 := by rw [← d2]; exact hk.2.2.1.1
  have hr : (kGath o f).sem [e 0, e 1, e 2, e 3] = lowE (gathI l n l.length) ++ [0] := by rw [← d2, ← d3]; rfl
  rw [hr]
  rw [d2, d3] at hlen
  rw [d2] at hok
  clear hr hk
  intro a4 _ a5 _ a6 _
  have v4 : e 4 = (l.length : Int) := by rw [← d2]; exact a4
  have v5 : e 5 = (n.length : Int) := by rw [← d3]; exact a5
  have b6 := c_ne a6
  simp only [ev_var] at b6
  refine ⟨fun h => by omega, fun _ => ?_⟩
  intro a7 _
  have v7 : e 7 = (l.length : Int) := by rw [← d2]; exact a7
  clear a4 a5 a6 b6 a7 v4 v5
  refine ⟨fun | [i] => 0 ≤ i ∧ i ≤ l.length | _ => False, fun | [i] => (l.length - i).toNat | _ => 0, ⟨Int.le_refl _, (show (0 : Int) ≤ l.length by omega)⟩, fun e' he hkk hI => ?_⟩
  obtain ⟨i0, i1⟩ : 0 ≤ e' 8 ∧ e' 8 ≤ l.length := hI
  have v7 := (he 7 (by decide)).trans v7
  have q0 := (he 0 (by decide)).trans q0
  have q1 := (he 1 (by decide)).trans q1
  have d2 := (congrArg dec (he 2 (by decide))).trans d2
  have d3 := (congrArg dec (he 3 (by decide))).trans d3
  clear he hkk
  intro a9 _
  have b9 := c_lt a9
  simp only [ev_var] at b9
  refine ⟨fun hs => ?_, fun hs => ?_⟩
  · have c9 : e' 8 < l.length := by omega
    intro a10 _ a11 _ a12 _
    have v10 : e' 10 = (l.length : Int) := by rw [← d2]; exact a10
    refine ⟨bit_nz a11 i0, lt_nz a12 (by show e' 8 < e' 10; omega), fun a13 _ a14 k14 a15 k15 a16 _ => ?_⟩
    have v13 : e' 13 = l.getD (e' 8).toNat 0 := by rw [← d2]; exact a13
    have hm : e' 13 ∈ l := by rw [v13, getD_lt (by omega)]; exact List.getElem_mem _
    have v14 : e' 14 = cX (e' 13) := a14
    have v15 : e' 15 = cY (e' 13) := a15
    have v16 : e' 16 = cZ (e' 13) := a16
    have ho := hok _ hm
    rw [← v14, ← v15, ← v16] at ho
    refine ⟨⟨q1, ho.1.1, ho.1.2⟩, fun a17 _ a18 _ => ?_⟩
    have v17 : e' 17 = bj (onE (e' 14) (e' 15) (e' 16)) := a17
    rw [bj_t ho.2] at v17
    have b18 := c_not a18
    simp only [ev_var] at b18
    refine ⟨fun h => by omega, fun _ => ?_⟩
    intro a19 _
    have v19 : e' 19 = e' 8 + 1 := by
      have h : e' 19 = binE .add .i64 (e' 8) 1 := a19
      rw [h]; simp only [binE, wr]; omega
    show (0 ≤ e' 19 ∧ e' 19 ≤ l.length) ∧ (l.length - e' 19).toNat < (l.length - e' 8).toNat
    omega
  · intro a10 _
    have v10 : e' 10 = (l.length : Int) := by rw [← d2]; exact a10
    clear a9 b9 a10
    refine ⟨fun | [i, x, y, z] => 0 ≤ i ∧ i ≤ l.length ∧ [x, y, z] = (gathI l n i.toNat).l | _ => False, fun | [i, _, _, _] => (l.length - i).toNat | _ => 0, ⟨Int.le_refl _, (show (0 : Int) ≤ l.length by omega), ?_⟩, fun e'' he hkk hI => ?_⟩
    · show [e' 0, e' 0, 0] = (oJ R1).l
      rw [q0, oJ_l]
    · obtain ⟨i0, i1, i2⟩ : 0 ≤ e'' 11 ∧ e'' 11 ≤ l.length ∧ [e'' 12, e'' 13, e'' 14] = (gathI l n (e'' 11).toNat).l := hI
      have v10 := (he 10 (by decide)).trans v10
      have q0 := (he 0 (by decide)).trans q0
      have q1 := (he 1 (by decide)).trans q1
      have d2 := (congrArg dec (he 2 (by decide))).trans d2
      have d3 := (congrArg dec (he 3 (by decide))).trans d3
      clear he hkk
      obtain ⟨w12, w13, w14⟩ := l3 i2
      intro a15 _
      have b15 := c_lt a15
      simp only [ev_var] at b15
      refine ⟨fun hs => ?_, fun hs => ?_⟩
      · have c15 : e'' 11 < l.length := by omega
        intro a16 _ a17 _ a18 _
        have v16 : e'' 16 = (l.length : Int) := by rw [← d2]; exact a16
        refine ⟨bit_nz a17 i0, lt_nz a18 (by show e'' 11 < e'' 16; omega), fun a19 _ a20 k20 a21 k21 a22 _ => ?_⟩
        have v19 : e'' 19 = l.getD (e'' 11).toNat 0 := by rw [← d2]; exact a19
        have hm : e'' 19 ∈ l := by rw [v19, getD_lt (by omega)]; exact List.getElem_mem _
        have v20 : e'' 20 = cX (e'' 19) := a20
        have v21 : e'' 21 = cY (e'' 19) := a21
        have v22 : e'' 22 = cZ (e'' 19) := a22
        have ho := hok _ hm
        rw [← v20, ← v21, ← v22] at ho
        refine ⟨trivial, fun a263 _ a264 _ a265 _ a407 _ a408 _ a409 _ => ?_⟩
        have r1 : [e'' 263, e'' 264, e'' 265] = (rsE (e'' 20) (e'' 21) (e'' 22)).l := by
          rw [← rs_l ⟨k20.1, ho.1.1⟩ ⟨k21.1, ho.1.2⟩, ← q0, show e'' 263 = _ from a263, show e'' 264 = _ from a264, show e'' 265 = _ from a265]
          show [(if e'' 22 = 0 then [e'' 20, e'' 21, e'' 0] else [e'' 0, e'' 0, 0]).getD 0 0, (if e'' 22 = 0 then [e'' 20, e'' 21, e'' 0] else [e'' 0, e'' 0, 0]).getD 1 0, (if e'' 22 = 0 then [e'' 20, e'' 21, e'' 0] else [e'' 0, e'' 0, 0]).getD 2 0] = _
          split <;> rfl
        obtain ⟨w263, w264, w265⟩ := l3 r1
        have v407 : e'' 407 = (n.length : Int) := by rw [← d3]; exact a407
        refine ⟨bit_nz a408 i0, lt_nz a409 (by show e'' 11 < e'' 407; omega), fun a455 _ => ⟨⟨q0, E_lt w263, E_lt w264, E_lt w265⟩, fun a503 _ a504 _ a505 _ => ?_⟩⟩
        have v455 : e'' 455 = n.getD (e'' 11).toNat 0 := by rw [← d3]; exact a455
        have r2 : [e'' 503, e'' 504, e'' 505] = (tmJ R1 (ofJ (e'' 263) (e'' 264) (e'' 265)) 384 (e'' 455).toNat).l := by
          rw [show e'' 503 = _ from a503, show e'' 504 = _ from a504, show e'' 505 = _ from a505]; rfl
        have r2 := r2.trans (tmJ_jeq (ofJ_eq r1) 384 _).l
        obtain ⟨w503, w504, w505⟩ := l3 r2
        refine ⟨⟨q0, ⟨E_lt w12, E_lt w13, E_lt w14⟩, E_lt w503, E_lt w504, E_lt w505⟩, fun a551 _ a552 _ a553 _ a647 _ => ?_⟩
        have r3 : [e'' 551, e'' 552, e'' 553] = (sumJ R1 (ofJ (e'' 12) (e'' 13) (e'' 14)) (ofJ (e'' 503) (e'' 504) (e'' 505))).l := by
          rw [show e'' 551 = _ from a551, show e'' 552 = _ from a552, show e'' 553 = _ from a553]; rfl
        have r3 := r3.trans ((sumJ_jeq (ofJ_eq i2) (ofJ_eq r2)).trans (J_md _).symm).l
        have v647 : e'' 647 = e'' 11 + 1 := by
          have h : e'' 647 = binE .add .i64 (e'' 11) 1 := a647
          rw [h]; simp only [binE, wr]; omega
        show (0 ≤ e'' 647 ∧ e'' 647 ≤ l.length ∧ [e'' 551, e'' 552, e'' 553] = (gathI l n (e'' 647).toNat).l) ∧ (l.length - e'' 647).toNat < (l.length - e'' 11).toNat
        refine ⟨⟨by omega, by omega, ?_⟩, by omega⟩
        rw [v647, show (e'' 11 + 1).toNat = (e'' 11).toNat + 1 by omega, gathI_step (by omega) hlen, ← v19, ← v455, r3, v20, v21, v22]
      · refine ⟨⟨E_lt w12, E_lt w13, E_lt w14⟩, fun a16 _ a17 _ a18 _ => ?_⟩
        have r1 : [e'' 16, e'' 17, e'' 18] = lowE (ofJ (e'' 12) (e'' 13) (e'' 14)) := by
          rw [show e'' 16 = _ from a16, show e'' 17 = _ from a17, show e'' 18 = _ from a18]; rfl
        rw [lowJ_eq (ofJ_eq i2), show (e'' 11).toNat = l.length by omega] at r1
        show [e'' 16, e'' 17, e'' 18, 0] = lowE (gathI l n l.length) ++ [0]
        rw [← r1]; rfl
end Go.Sx

/- Laws: Sum1, Mul1, Add1. -/
namespace Go.Sx
open Go Go.RowKit
set_option maxRecDepth 100000
set_option linter.unusedVariables false
set_option linter.unusedSimpArgs false
noncomputable def inC (c : Int) : Int := enc [toE (cX c), toE (cY c), cZ c]
theorem inC_x (c : Int) : cX (inC c) = toE (cX c) := by unfold inC; rw [cX, dec_enc]; rfl
theorem inC_y (c : Int) : cY (inC c) = toE (cY c) := by unfold inC; rw [cY, dec_enc]; rfl
theorem inC_z (c : Int) : cZ (inC c) = cZ c := by unfold inC; rw [cZ, dec_enc]; rfl
noncomputable def gathV (l n : List Int) : J Int := ((l.zip n)).foldl (fun acc p => J.md R1 (sumJ R1 acc (tmJ R1 (rsV (cX p.1) (cY p.1) (cZ p.1)) 384 p.2.toNat))) (oJ R1)
def onC (c : Int) : Prop := onV (cX c) (cY c) (cZ c) ∧ 0 ≤ cX c ∧ 0 ≤ cY c
theorem fold_in (F : J Int → J Int → Int → J Int) : ∀ (l n : List Int) (a : J Int), (∀ c ∈ l, onC c) → ((l.map inC).zip n).foldl (fun acc p => F acc (rsE (cX p.1) (cY p.1) (cZ p.1)) p.2) a = (l.zip n).foldl (fun acc p => F acc (rsV (cX p.1) (cY p.1) (cZ p.1)) p.2) a
  | [], n, a, _ => rfl
  | c :: l, [], a, _ => rfl
  | c :: l, m :: n, a, h => by
    have hc := h c (List.mem_cons_self ..)
    simp only [List.map_cons, List.zip_cons_cons, List.foldl_cons]
    rw [inC_x, inC_y, inC_z, rsE_to ⟨hc.2.1, hc.1.1.1⟩ ⟨hc.2.2, hc.1.1.2⟩]
    exact fold_in F l n _ fun d hd => h d (List.mem_cons_of_mem _ hd)
theorem gathV_of {l n : List Int} (h : ∀ c ∈ l, onC c) : gathI (l.map inC) n (l.map inC).length = gathV l n := by
  unfold gathI gathV
  rw [List.take_of_length_le (by rw [List.length_zip]; exact Nat.min_le_left _ _)]
  exact fold_in (fun acc P m => J.md R1 (sumJ R1 acc (tmJ R1 P 384 m.toNat))) l n (oJ R1) h
def lowV (P : J Int) : List Int := [(lowJ P).1 % bP, (lowJ P).2.1 % bP, (lowJ P).2.2]
theorem lowV_eq {P Q : J Int} (h : Jeq P Q) : lowV P = lowV Q := by
  have := lowJ_eq h
  unfold lowE at this
  injection this with h1 h
  injection h with h2 h
  injection h with h3 h
  unfold lowV
  rw [toE_inj h1, toE_inj h2, h3]
noncomputable def kSum1 (f : FuncId) : K := { fn := f, ext := false, ins := [.lst plK, .lst .num], outs := [.agg lsPl, oI]
                                              pre := fun | [l, n] => (dec l).length = (dec n).length ∧ (dec l).length ≤ 1000 ∧ ∀ c ∈ dec l, onV (cX c) (cY c) (cZ c) | _ => False
                                              sem := fun | [l, n] => lowV (gathV (dec l) (dec n)) ++ [0] | _ => [] }
def kMul1 (f : FuncId) : K := { fn := f, ext := false, ins := [.agg lsPl, iN], outs := [.agg lsPl, oI], pre := fun | [x, y, z, _] => onV x y z | _ => False, sem := fun | [x, y, z, n] => lowV (tmJ R1 (rsV x y z) 384 n.toNat) ++ [0] | _ => [] }
def kAdd1 (f : FuncId) : K := { fn := f, ext := false, ins := [.agg lsPl, .agg lsPl], outs := [.agg lsPl, oI], pre := fun | [x, y, z, x', y', z'] => onV x y z ∧ onV x' y' z' | _ => False, sem := fun | [x, y, z, x', y', z'] => lowV (sumJ R1 (rsV x y z) (rsV x' y' z')) ++ [0] | _ => [] }
theorem plK_nn {l : List Int} (h : plK.hasL l) {c : Int} (hc : c ∈ l) : 0 ≤ cX c ∧ 0 ≤ cY c ∧ (0 ≤ cZ c ∧ cZ c ≤ 1) := by
  have h1 : llHas [.num, .num, .bit] (dec c) := h.2 c hc
  unfold cX cY cZ
  match hd : dec c, h1 with
  | [a, b, d], h1 => exact ⟨h1.1.1, h1.2.1.1, h1.2.2.1⟩
def tSum1 : Tree := (.lett 2 (.int .i64) (.llen (.var 0))
(.loop [(.lit 0), (.lit 0)] [(.int .i64), (.lst (.tup .num [.num, .bit]))] 3
(.lett 5 .bit (.cmp .lss (.var 3) (.var 2))
(.split 5
 (.lett 6 (.int .i64) (.llen (.var 0))
 (.lett 7 .bit (.cmp .leq (.lit 0) (.var 3))
 (.lett 8 .bit (.cmp .lss (.var 3) (.var 6))
 (.nz (.var 7)
 (.nz (.var 8)
 (.lett 9 .any (.lget (.var 0) (.var 3))
 (.lett 10 .num (.lget (.var 9) (.lit 0))
 (.lett 11 .num (.lget (.var 9) (.lit 1))
 (.lett 12 .bit (.lget (.var 9) (.lit 2))
 (.lett 13 (.int .i64) (.llen (.var 0))
 (.lett 14 (.int .i64) (.llen (.var 1))
 (.lett 15 .bit (.cmp .eql (.var 13) (.var 14))
 (.split 15
  (.req 0 [(.var 10), (.var 11), (.var 12)]
  (.lett 16 .bit (.app 0 0 [(.var 10), (.var 11), (.var 12)])
  (.lett 17 .bit (.not (.var 16))
  (.split 17
   (.ret [(.lit 0), (.lit 0), (.lit 0), (.lit 5)])
   (.req 1 [(.var 10), (.var 11), (.var 12)]
   (.lett 18 .num (.app 1 0 [(.var 10), (.var 11), (.var 12)])
   (.lett 19 .num (.app 1 1 [(.var 10), (.var 11), (.var 12)])
   (.lett 20 .bit (.app 1 2 [(.var 10), (.var 11), (.var 12)])
   (.lett 21 .any (.lapp (.lit 0) [(.var 18), (.var 19), (.var 20)])
   (.lett 22 (.int .i64) (.llen (.var 4))
   (.lett 23 .bit (.cmp .lss (.var 22) (.lit 4294967296))
   (.nz (.var 23)
   (.lett 24 (.lst (.tup .num [.num, .bit])) (.lapp (.var 4) [(.var 21)])
   (.lett 25 (.int .i64) (.bin .add .i64 (.var 3) (.lit 1))
   (.back 0 [(.var 25), (.var 24)])))))))))))))))
  (.req 1 [(.var 10), (.var 11), (.var 12)]
  (.lett 16 .num (.app 1 0 [(.var 10), (.var 11), (.var 12)])
  (.lett 17 .num (.app 1 1 [(.var 10), (.var 11), (.var 12)])
  (.lett 18 .bit (.app 1 2 [(.var 10), (.var 11), (.var 12)])
  (.lett 19 .any (.lapp (.lit 0) [(.var 16), (.var 17), (.var 18)])
  (.lett 20 (.int .i64) (.llen (.var 4))
  (.lett 21 .bit (.cmp .lss (.var 20) (.lit 4294967296))
  (.nz (.var 21)
  (.lett 22 (.lst (.tup .num [.num, .bit])) (.lapp (.var 4) [(.var 19)])
  (.lett 23 (.int .i64) (.bin .add .i64 (.var 3) (.lit 1))
  (.back 0 [(.var 23), (.var 22)]))))))))))))))))))))))))
 (.req 2 []
 (.lett 6 .num (.app 2 0 [])
 (.lett 7 .num (.app 2 1 [])
 (.req 3 [(.var 6), (.var 7), (.var 4), (.var 1)]
 (.lett 8 .num (.app 3 0 [(.var 6), (.var 7), (.var 4), (.var 1)])
 (.lett 9 .num (.app 3 1 [(.var 6), (.var 7), (.var 4), (.var 1)])
 (.lett 10 .bit (.app 3 2 [(.var 6), (.var 7), (.var 4), (.var 1)])
 (.lett 11 (.int .i64) (.app 3 3 [(.var 6), (.var 7), (.var 4), (.var 1)])
 (.req 4 [(.var 8), (.var 9), (.var 10)]
 (.lett 12 .num (.app 4 0 [(.var 8), (.var 9), (.var 10)])
 (.lett 13 .num (.app 4 1 [(.var 8), (.var 9), (.var 10)])
 (.lett 14 .bit (.app 4 2 [(.var 8), (.var 9), (.var 10)])
 (.ret [(.var 12), (.var 13), (.var 14), (.var 11)])))))))))))))))))
theorem law_sum1 (o : Fo) (f1 f2 f3 f4 f5 f : FuncId) (e : Nat → Int) (hk : kkHas [.lst plK, .lst .num] [e 0, e 1]) (hp : (kSum1 f).pre [e 0, e 1]) : tSum1.says [kBelow1 f1, kIn1 f2, kFirst o f3, kGath o f4, kOut1 f5] ⟨fun ys => ys = (kSum1 f).sem [e 0, e 1], []⟩ e := by
  obtain ⟨hlen, hll, hok⟩ : (dec (e 0)).length = (dec (e 1)).length ∧ (dec (e 0)).length ≤ 1000 ∧ ∀ c ∈ dec (e 0), onV (cX c) (cY c) (cZ c) := hp
  obtain ⟨l, d0⟩ : ∃ l, dec (e 0) = l := ⟨_, rfl⟩
  obtain ⟨n, d1⟩ : ∃ n, dec (e 1) = n := ⟨_, rfl⟩
  have hplk : plK.hasL l := by rw [← d0]; exact hk.1
  have hr : (kSum1 f).sem [e 0, e 1] = lowV (gathV l n) ++ [0] := by rw [← d0, ← d1]; rfl
  rw [hr]
  rw [d0, d1] at hlen
  rw [d0] at hok hll
  have hon : ∀ c ∈ l, onC c := fun c hc => ⟨hok c hc, (plK_nn hplk hc).1, (plK_nn hplk hc).2.1⟩
  clear hr hk hok
  intro a2 _
  have v2 : e 2 = (l.length : Int) := by rw [← d0]; exact a2
  refine ⟨fun | [i, q] => 0 ≤ i ∧ i ≤ l.length ∧ dec q = (l.take i.toNat).map inC | _ => False, fun | [i, _] => (l.length - i).toNat | _ => 0, ⟨Int.le_refl _, (show (0 : Int) ≤ l.length by omega), dec_zero⟩, fun e' he hkk hI => ?_⟩
  obtain ⟨i0, i1, d4⟩ : 0 ≤ e' 3 ∧ e' 3 ≤ l.length ∧ dec (e' 4) = (l.take (e' 3).toNat).map inC := hI
  have v2 := (he 2 (by decide)).trans v2
  have d0 := (congrArg dec (he 0 (by decide))).trans d0
  have d1 := (congrArg dec (he 1 (by decide))).trans d1
  clear he hkk a2
  intro a5 _
  have b5 := c_lt a5
  simp only [ev_var] at b5
  refine ⟨fun hs => ?_, fun hs => ?_⟩
  · have c5 : e' 3 < l.length := by omega
    intro a6 _ a7 _ a8 _
    have v6 : e' 6 = (l.length : Int) := by rw [← d0]; exact a6
    refine ⟨bit_nz a7 i0, lt_nz a8 (by show e' 3 < e' 6; omega), fun a9 _ a10 _ a11 _ a12 _ a13 _ a14 _ a15 _ => ?_⟩
    have v9 : e' 9 = l.getD (e' 3).toNat 0 := by rw [← d0]; exact a9
    have hm : e' 9 ∈ l := by rw [v9, getD_lt (by omega)]; exact List.getElem_mem _
    have v10 : e' 10 = cX (e' 9) := a10
    have v11 : e' 11 = cY (e' 9) := a11
    have v12 : e' 12 = cZ (e' 9) := a12
    have ho := (hon _ hm).1
    have v13 : e' 13 = (l.length : Int) := by rw [← d0]; exact a13
    have v14 : e' 14 = (n.length : Int) := by rw [← d1]; exact a14
    have b15 := c_eq a15
    simp only [ev_var] at b15
    refine ⟨fun _ => ?_, fun h => by omega⟩
    refine ⟨trivial, fun a16 _ a17 _ => ?_⟩
    have v16 : e' 16 = bj (e' 10 < bP ∧ e' 11 < bP) := a16
    rw [v10, v11, bj_t ho.1] at v16
    have b17 := c_not a17
    simp only [ev_var] at b17
    refine ⟨fun h => by omega, fun _ => ⟨trivial, fun a18 _ a19 _ a20 _ a21 _ a22 _ a23 _ => ?_⟩⟩
    have v18 : e' 18 = toE (e' 10) := a18
    have v19 : e' 19 = toE (e' 11) := a19
    have v20 : e' 20 = e' 12 := a20
    have v21 : e' 21 = inC (e' 9) := by
      have h : e' 21 = enc (dec 0 ++ [e' 18, e' 19, e' 20]) := a21
      rw [h, dec_zero, v18, v19, v20, v10, v11, v12]; rfl
    have v22 : e' 22 = ((dec (e' 4)).length : Int) := a22
    rw [d4, List.length_map, List.length_take] at v22
    refine ⟨lt_nz a23 (by show e' 22 < 4294967296; omega), fun a24 _ a25 _ => ?_⟩
    have d24 : dec (e' 24) = dec (e' 4) ++ [e' 21] := by
      have h : e' 24 = enc (dec (e' 4) ++ [e' 21]) := a24
      rw [h, dec_enc]
    have v25 : e' 25 = e' 3 + 1 := by
      have h : e' 25 = binE .add .i64 (e' 3) 1 := a25
      rw [h]; simp only [binE, wr]; omega
    show (0 ≤ e' 25 ∧ e' 25 ≤ l.length ∧ dec (e' 24) = (l.take (e' 25).toNat).map inC) ∧ (l.length - e' 25).toNat < (l.length - e' 3).toNat
    refine ⟨⟨by omega, by omega, ?_⟩, by omega⟩
    rw [v25, show (e' 3 + 1).toNat = (e' 3).toNat + 1 by omega, d24, d4, v21, List.take_succ_eq_append_getElem (by omega), List.map_append, v9, getD_lt (by omega)]; rfl
  · rw [show (e' 3).toNat = l.length by omega, List.take_of_length_le (Nat.le_refl _)] at d4
    refine ⟨trivial, fun a6 _ a7 _ => ?_⟩
    have v6 : e' 6 = toE 1 := a6
    have v7 : e' 7 = toE 4 := a7
    have hg : gathOk (l.map inC) := fun c hc => by
      obtain ⟨d, hd, rfl⟩ := List.mem_map.1 hc
      have h := hon d hd
      rw [inC_x, inC_y, inC_z]
      exact ⟨⟨(toE_lt _).2, (toE_lt _).2⟩, (onE_to ⟨h.2.1, h.1.1.1⟩ ⟨h.2.2, h.1.1.2⟩).2 h.1⟩
    refine ⟨⟨v6, v7, (by show (dec (e' 4)).length = (dec (e' 1)).length; rw [d4, d1, List.length_map, hlen]), (by show gathOk (dec (e' 4)); rw [d4]; exact hg)⟩, fun a8 _ a9 _ a10 _ a11 _ => ?_⟩
    obtain ⟨G, hG⟩ : ∃ G, G = gathV l n := ⟨_, rfl⟩
    have hs : (kGath o f4).sem [e' 6, e' 7, e' 4, e' 1] = lowE G ++ [0] := by
      show lowE (gathI (dec (e' 4)) (dec (e' 1)) (dec (e' 4)).length) ++ [0] = _
      rw [d4, d1, gathV_of hon, hG]
    have v8 : e' 8 = toE (lowJ G).1 := by
      have h : e' 8 = ((kGath o f4).sem [e' 6, e' 7, e' 4, e' 1]).getD 0 0 := a8
      rw [h, hs]; rfl
    have v9 : e' 9 = toE (lowJ G).2.1 := by
      have h : e' 9 = ((kGath o f4).sem [e' 6, e' 7, e' 4, e' 1]).getD 1 0 := a9
      rw [h, hs]; rfl
    have v10 : e' 10 = (lowJ G).2.2 := by
      have h : e' 10 = ((kGath o f4).sem [e' 6, e' 7, e' 4, e' 1]).getD 2 0 := a10
      rw [h, hs]; rfl
    have v11 : e' 11 = 0 := by
      have h : e' 11 = ((kGath o f4).sem [e' 6, e' 7, e' 4, e' 1]).getD 3 0 := a11
      rw [h, hs]; rfl
    refine ⟨⟨E_lt v8, E_lt v9⟩, fun a12 _ a13 _ a14 _ => ?_⟩
    have v12 : e' 12 = ofE (e' 8) := a12
    have v13 : e' 13 = ofE (e' 9) := a13
    have v14 : e' 14 = e' 10 := a14
    show [e' 12, e' 13, e' 14, e' 11] = lowV (gathV l n) ++ [0]
    rw [← hG, v12, v13, v14, v8, v9, v10, v11, ofE_toE, ofE_toE]; rfl
theorem sum_o (Q : J Int) : sumJ R1 (oJ R1) Q = Q := sumJ_z1 (isz_t (by decide))
theorem tm_0 {P : J Int} : tmJ R1 P 384 0 = oJ R1 := by unfold tmJ; rw [if_pos rfl]
theorem lt1_pow (k : Nat) (h : k ≠ 0) : 1 < 2 ^ k := Nat.one_lt_two_pow h
theorem tm_1 (P : J Int) : Jeq (tmJ R1 P 384 1) P := by
  have h1 : (1 : Nat) < 2 ^ 384 := lt1_pow 384 (by decide)
  rw [tmJ_step (P := P) (n := 1) (by decide) h1, if_pos rfl, show 1 / 2 = 0 from rfl, tm_0]
  rw [sumJ_z1 (isz_t (by decide))]
  exact J_md P
def tMul1 : Tree := (.lett 4 .any (.lapp (.lit 0) [(.var 0), (.var 1), (.var 2)])
(.lett 5 (.lst (.tup .num [.num, .bit])) (.lapp (.lit 0) [(.var 4)])
(.lett 6 (.lst .num) (.lapp (.lit 0) [(.var 3)])
(.req 0 [(.var 5), (.var 6)]
(.lett 7 .num (.app 0 0 [(.var 5), (.var 6)])
(.lett 8 .num (.app 0 1 [(.var 5), (.var 6)])
(.lett 9 .bit (.app 0 2 [(.var 5), (.var 6)])
(.lett 10 (.int .i64) (.app 0 3 [(.var 5), (.var 6)])
(.ret [(.var 7), (.var 8), (.var 9), (.var 10)])))))))))
theorem law_mul1 (f1 f : FuncId) (e : Nat → Int) (hp : (kMul1 f).pre [e 0, e 1, e 2, e 3]) : tMul1.says [kSum1 f1] ⟨fun ys => ys = (kMul1 f).sem [e 0, e 1, e 2, e 3], []⟩ e := by
  have hon : onV (e 0) (e 1) (e 2) := hp
  intro a4 _ a5 _ a6 _
  have d4 : dec (e 4) = [e 0, e 1, e 2] := by
    have h : e 4 = enc (dec 0 ++ [e 0, e 1, e 2]) := a4
    rw [h, dec_enc, dec_zero]; rfl
  have d5 : dec (e 5) = [e 4] := by
    have h : e 5 = enc (dec 0 ++ [e 4]) := a5
    rw [h, dec_enc, dec_zero]; rfl
  have d6 : dec (e 6) = [e 3] := by
    have h : e 6 = enc (dec 0 ++ [e 3]) := a6
    rw [h, dec_enc, dec_zero]; rfl
  have x4 : cX (e 4) = e 0 := by rw [cX, d4]; rfl
  have y4 : cY (e 4) = e 1 := by rw [cY, d4]; rfl
  have z4 : cZ (e 4) = e 2 := by rw [cZ, d4]; rfl
  refine ⟨⟨(by show (dec (e 5)).length = (dec (e 6)).length; rw [d5, d6]; rfl), (by show (dec (e 5)).length ≤ 1000; rw [d5]; simp), (by
    show ∀ c ∈ dec (e 5), _
    rw [d5]
    intro c hc
    rw [List.mem_singleton.1 hc, x4, y4, z4]; exact hon)⟩, fun a7 _ a8 _ a9 _ a10 _ => ?_⟩
  have hs : (kSum1 f1).sem [e 5, e 6] = lowV (tmJ R1 (rsV (e 0) (e 1) (e 2)) 384 (e 3).toNat) ++ [0] := by
    show lowV (gathV (dec (e 5)) (dec (e 6))) ++ [0] = _
    rw [d5, d6]
    show lowV (J.md R1 (sumJ R1 (oJ R1) (tmJ R1 (rsV (cX (e 4)) (cY (e 4)) (cZ (e 4))) 384 (e 3).toNat))) ++ [0] = _
    rw [x4, y4, z4, sum_o, lowV_eq (J_md _)]
  show [e 7, e 8, e 9, e 10] = (kMul1 f).sem [e 0, e 1, e 2, e 3]
  rw [show e 7 = ((kSum1 f1).sem [e 5, e 6]).getD 0 0 from a7, show e 8 = ((kSum1 f1).sem [e 5, e 6]).getD 1 0 from a8, show e 9 = ((kSum1 f1).sem [e 5, e 6]).getD 2 0 from a9, show e 10 = ((kSum1 f1).sem [e 5, e 6]).getD 3 0 from a10, hs]
  rfl
def tAdd1 : Tree := (.req 1 [(.lit 1)]
(.lett 150 .num (.app 1 0 [(.lit 1)])
(.req 1 [(.lit 1)]
(.lett 198 .num (.app 1 0 [(.lit 1)])
(.lett 294 .any (.lapp (.lit 0) [(.var 0), (.var 1), (.var 2)])
(.lett 295 .any (.lapp (.lit 0) [(.var 3), (.var 4), (.var 5)])
(.lett 296 (.lst (.tup .num [.num, .bit])) (.lapp (.lit 0) [(.var 294), (.var 295)])
(.lett 297 (.lst .num) (.lapp (.lit 0) [(.var 150), (.var 198)])
(.req 0 [(.var 296), (.var 297)]
(.lett 298 .num (.app 0 0 [(.var 296), (.var 297)])
(.lett 299 .num (.app 0 1 [(.var 296), (.var 297)])
(.lett 300 .bit (.app 0 2 [(.var 296), (.var 297)])
(.lett 301 (.int .i64) (.app 0 3 [(.var 296), (.var 297)])
(.ret [(.var 298), (.var 299), (.var 300), (.var 301)]))))))))))))))
theorem law_add1 (f1 f2 f : FuncId) (e : Nat → Int) (hp : (kAdd1 f).pre [e 0, e 1, e 2, e 3, e 4, e 5]) : tAdd1.says [kSum1 f1, kOf f2] ⟨fun ys => ys = (kAdd1 f).sem [e 0, e 1, e 2, e 3, e 4, e 5], []⟩ e := by
  obtain ⟨hon, hon'⟩ : onV (e 0) (e 1) (e 2) ∧ onV (e 3) (e 4) (e 5) := hp
  refine ⟨trivial, fun a150 _ => ⟨trivial, fun a198 _ a294 _ a295 _ a296 _ a297 _ => ?_⟩⟩
  have v150 : e 150 = 1 := a150
  have v198 : e 198 = 1 := a198
  have d294 : dec (e 294) = [e 0, e 1, e 2] := by
    have h : e 294 = enc (dec 0 ++ [e 0, e 1, e 2]) := a294
    rw [h, dec_enc, dec_zero]; rfl
  have d295 : dec (e 295) = [e 3, e 4, e 5] := by
    have h : e 295 = enc (dec 0 ++ [e 3, e 4, e 5]) := a295
    rw [h, dec_enc, dec_zero]; rfl
  have d296 : dec (e 296) = [e 294, e 295] := by
    have h : e 296 = enc (dec 0 ++ [e 294, e 295]) := a296
    rw [h, dec_enc, dec_zero]; rfl
  have d297 : dec (e 297) = [e 150, e 198] := by
    have h : e 297 = enc (dec 0 ++ [e 150, e 198]) := a297
    rw [h, dec_enc, dec_zero]; rfl
  rw [v150, v198] at d297
  have x1 : cX (e 294) = e 0 := by rw [cX, d294]; rfl
  have y1 : cY (e 294) = e 1 := by rw [cY, d294]; rfl
  have z1 : cZ (e 294) = e 2 := by rw [cZ, d294]; rfl
  have x2 : cX (e 295) = e 3 := by rw [cX, d295]; rfl
  have y2 : cY (e 295) = e 4 := by rw [cY, d295]; rfl
  have z2 : cZ (e 295) = e 5 := by rw [cZ, d295]; rfl
  refine ⟨⟨(by show (dec (e 296)).length = (dec (e 297)).length; rw [d296, d297]; rfl), (by show (dec (e 296)).length ≤ 1000; rw [d296]; simp), (by
    show ∀ c ∈ dec (e 296), _
    rw [d296]
    intro c hc
    rcases List.mem_cons.1 hc with rfl | hc
    · rw [x1, y1, z1]; exact hon
    · rw [List.mem_singleton.1 hc, x2, y2, z2]; exact hon')⟩, fun a298 _ a299 _ a300 _ a301 _ => ?_⟩
  have hs : (kSum1 f1).sem [e 296, e 297] = lowV (sumJ R1 (rsV (e 0) (e 1) (e 2)) (rsV (e 3) (e 4) (e 5))) ++ [0] := by
    show lowV (gathV (dec (e 296)) (dec (e 297))) ++ [0] = _
    rw [d296, d297]
    show lowV (J.md R1 (sumJ R1 (J.md R1 (sumJ R1 (oJ R1) (tmJ R1 (rsV (cX (e 294)) (cY (e 294)) (cZ (e 294))) 384 1))) (tmJ R1 (rsV (cX (e 295)) (cY (e 295)) (cZ (e 295))) 384 1))) ++ [0] = _
    rw [x1, y1, z1, x2, y2, z2, sum_o, lowV_eq ((J_md _).trans (sumJ_jeq ((J_md _).trans (tm_1 _)) (tm_1 _)))]
  show [e 298, e 299, e 300, e 301] = (kAdd1 f).sem [e 0, e 1, e 2, e 3, e 4, e 5]
  rw [show e 298 = ((kSum1 f1).sem [e 296, e 297]).getD 0 0 from a298, show e 299 = ((kSum1 f1).sem [e 296, e 297]).getD 1 0 from a299, show e 300 = ((kSum1 f1).sem [e 296, e 297]).getD 2 0 from a300, show e 301 = ((kSum1 f1).sem [e 296, e 297]).getD 3 0 from a301, hs]
  rfl
end Go.Sx
