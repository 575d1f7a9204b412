/- Laws: what is wrong with ids, shares and a place; Lagrange, Join, Fit; lent lists of ints. -/
import Derived.Test.YtlddchekkjjleaaGreatHe
set_option linter.unusedVariables false
set_option linter.unusedSimpArgs false
namespace Go.Sx
open Go Go.RowKit
set_option linter.unusedVariables false
set_option linter.unusedSimpArgs false
abbrev iLi : Sh := .lst (.int .i64)
instance (l : List Int) : Decidable (idsOk l) := by unfold idsOk; exact inferInstance
def okTo (l : List Int) (n : Nat) : Prop := ∀ j, j < n → 1 ≤ l.getD j 0 ∧ l.getD j 0 ≤ 1000
theorem okTo_iff (l : List Int) : idsOk l ↔ okTo l l.length := by
  constructor
  · intro h j hj; exact h _ (getD_mem hj)
  · intro h z hz
    obtain ⟨j, hj, rfl⟩ := List.mem_iff_getElem.1 hz
    have := h j hj
    rw [List.getD_eq_getElem?_getD, List.getElem?_eq_getElem hj] at this
    exact this
def farTo (l : List Int) (n : Nat) : Prop := ∀ a b, a < b → b < n → l.getD a 0 ≠ l.getD b 0
theorem farTo_iff (l : List Int) : l.Nodup ↔ farTo l l.length := by
  constructor
  · intro h a b hab hb
    exact (nodup_get h hb (by omega)).2 (by omega)
  · intro h
    refine List.pairwise_iff_getElem.2 fun i j hi hj hij => ?_
    have := h i j hij hj
    rwa [List.getD_eq_getElem?_getD, List.getD_eq_getElem?_getD, List.getElem?_eq_getElem hi, List.getElem?_eq_getElem hj] at this
theorem take_getD {l : List Int} {n j : Nat} (hj : j < n) : (l.take n).getD j 0 = l.getD j 0 := by
  rw [List.getD_eq_getElem?_getD, List.getD_eq_getElem?_getD, List.getElem?_take, if_pos hj]
theorem idsOk_take {l : List Int} (h : idsOk l) (n : Nat) : idsOk (l.take n) := fun z hz => h z (List.mem_of_mem_take hz)
theorem allLt_takeN {r : Int} {l : List Int} (h : allLt r l) (n : Nat) : allLt r (l.take n) := fun z hz => h z (List.mem_of_mem_take hz)
theorem nodup_take {l : List Int} (h : l.Nodup) (n : Nat) : (l.take n).Nodup := List.Pairwise.sublist (List.take_sublist n l) h
noncomputable def kUnlike (f : FuncId) : K := { fn := f, ext := false, ins := [iLi], outs := [oB], pre := fun _ => True, sem := fun | [x] => [bi (dec x).Nodup] | _ => [] }
def tUnlike : Tree := (.loop [(.lit 0)] [(.int .i64)] 1
(.lett 2 (.int .i64) (.llen (.var 0))
(.lett 3 .bit (.cmp .lss (.var 1) (.var 2))
(.split 3
 (.loop [(.lit 0)] [(.int .i64)] 4
 (.lett 5 .bit (.cmp .lss (.var 4) (.var 1))
 (.split 5
  (.lett 102 (.int .i64) (.llen (.var 0))
  (.lett 103 .bit (.cmp .leq (.lit 0) (.var 4))
  (.lett 104 .bit (.cmp .lss (.var 4) (.var 102))
  (.nz (.var 103)
  (.nz (.var 104)
  (.lett 150 (.int .i64) (.lget (.var 0) (.var 4))
  (.lett 294 (.int .i64) (.llen (.var 0))
  (.lett 295 .bit (.cmp .leq (.lit 0) (.var 1))
  (.lett 296 .bit (.cmp .lss (.var 1) (.var 294))
  (.nz (.var 295)
  (.nz (.var 296)
  (.lett 342 (.int .i64) (.lget (.var 0) (.var 1))
  (.lett 390 .bit (.cmp .eql (.var 150) (.var 342))
  (.split 390
   (.ret [(.lit 0)])
   (.lett 438 (.int .i64) (.bin .add .i64 (.var 4) (.lit 1))
   (.back 1 [(.var 438)]))))))))))))))))
  (.lett 6 (.int .i64) (.bin .add .i64 (.var 1) (.lit 1))
  (.back 0 [(.var 6)])))))
 (.ret [(.lit 1)])))))
theorem law_unlike (f : FuncId) (e : Nat → Int) (hk : kkHas [.lst (.int .i64)] [e 0]) : tUnlike.says [] ⟨fun ys => ys = (kUnlike f).sem [e 0], []⟩ e := by
  have hl : (dec (e 0)).length ≤ 9223372036854775807 := hk.1.1
  show tUnlike.says [] ⟨fun ys => ys = [bi (dec (e 0)).Nodup], []⟩ e
  generalize hL : dec (e 0) = l at *
  refine ⟨fun | [i] => 0 ≤ i ∧ i ≤ l.length ∧ farTo l i.toNat | _ => False, fun | [i] => (l.length - i).toNat | _ => 0, ⟨Int.le_refl _, (show (0 : Int) ≤ l.length by omega), fun a b _ hb => by cases hb⟩, fun e' he hkk hI => ?_⟩
  obtain ⟨i0, i1, i2⟩ : 0 ≤ e' 1 ∧ e' 1 ≤ l.length ∧ farTo l (e' 1).toNat := hI
  have e0 := he 0 (by decide)
  have len : ∀ {v : Int}, v = ((dec (e' 0)).length : Int) → v = (l.length : Int) := fun h => by rw [h, e0, hL]
  intro a2 _ a3 _
  have v2 := len a2
  have b3 := c_lt a3
  simp only [ev_var, ev_lit] at b3
  refine ⟨fun h => ?_, fun h => ?_⟩
  · have c3 := yes_ h b3
    have hit : (e' 1).toNat < l.length := by omega
    refine ⟨fun | [k] => 0 ≤ k ∧ k ≤ e' 1 ∧ ∀ a : Nat, a < k.toNat → l.getD a 0 ≠ l.getD (e' 1).toNat 0 | _ => False, fun | [k] => (l.length - k).toNat | _ => 0, ⟨Int.le_refl _, i0, fun a ha => by cases ha⟩, fun e'' he' hkk' hI' => ?_⟩
    obtain ⟨k0, k1, k2⟩ : 0 ≤ e'' 4 ∧ e'' 4 ≤ e' 1 ∧ ∀ a : Nat, a < (e'' 4).toNat → l.getD a 0 ≠ l.getD (e' 1).toNat 0 := hI'
    have f0 := (he' 0 (by decide)).trans e0
    have f1 := he' 1 (by decide)
    have len' : ∀ {v : Int}, v = ((dec (e'' 0)).length : Int) → v = (l.length : Int) := fun h => by rw [h, f0, hL]
    intro a5 _
    have b5 := c_lt a5
    simp only [ev_var, ev_lit] at b5
    refine ⟨fun h => ?_, fun h => ?_⟩
    · have c5 := yes_ h b5
      intro a102 _ a103 _ a104 _
      have v102 := len' a102
      have b103 := c_le a103
      have b104 := c_lt a104
      simp only [ev_var, ev_lit] at b103 b104
      refine ⟨(show e'' 103 ≠ 0 by omega), (show e'' 104 ≠ 0 by omega), fun a150 _ a294 _ a295 _ a296 _ => ?_⟩
      have v150 : e'' 150 = l.getD (e'' 4).toNat 0 := by
        have : e'' 150 = (dec (e'' 0)).getD (e'' 4).toNat 0 := a150
        rw [this, f0, hL]
      have v294 := len' a294
      have b295 := c_le a295
      have b296 := c_lt a296
      simp only [ev_var, ev_lit] at b295 b296
      refine ⟨(show e'' 295 ≠ 0 by omega), (show e'' 296 ≠ 0 by omega), fun a342 _ a390 _ => ?_⟩
      have v342 : e'' 342 = l.getD (e' 1).toNat 0 := by
        have : e'' 342 = (dec (e'' 0)).getD (e'' 1).toNat 0 := a342
        rw [this, f0, hL, f1]
      have b390 := c_eq a390
      simp only [ev_var, ev_lit] at b390
      refine ⟨fun h => ?_, fun h => ?_⟩
      · have c390 := yes_ h b390
        have : ¬ l.Nodup := fun hn => (farTo_iff l).1 hn (e'' 4).toNat (e' 1).toNat (by omega) hit (by rw [← v150, ← v342]; exact c390)
        show [(0 : Int)] = [bi l.Nodup]
        rw [bi_0 this]
      · have c390 := no_ h b390
        intro a438 _
        have v438 : e'' 438 = e'' 4 + 1 := by
          have : e'' 438 = binE .add .i64 (e'' 4) 1 := a438
          rw [this]; simp only [binE, wr]; omega
        show (0 ≤ e'' 438 ∧ e'' 438 ≤ e' 1 ∧ ∀ a : Nat, a < (e'' 438).toNat → l.getD a 0 ≠ l.getD (e' 1).toNat 0) ∧ (l.length - e'' 438).toNat < (l.length - e'' 4).toNat
        refine ⟨⟨by omega, by omega, fun a ha => ?_⟩, by omega⟩
        by_cases hae : a = (e'' 4).toNat
        · subst hae; rw [← v150, ← v342]; exact c390
        · exact k2 a (by omega)
    · have c5 := no_ h b5
      intro a6 _
      have v6 : e'' 6 = e' 1 + 1 := by
        have : e'' 6 = binE .add .i64 (e'' 1) 1 := a6
        rw [this, f1]; simp only [binE, wr]; omega
      show (0 ≤ e'' 6 ∧ e'' 6 ≤ l.length ∧ farTo l (e'' 6).toNat) ∧ (l.length - e'' 6).toNat < (l.length - e' 1).toNat
      refine ⟨⟨by omega, by omega, fun a b hab hb => ?_⟩, by omega⟩
      by_cases hbe : b = (e' 1).toNat
      · subst hbe; exact k2 a (by omega)
      · exact i2 a b hab (by omega)
  · have c3 := no_ h b3
    have : l.Nodup := (farTo_iff l).2 (by rw [show (e' 1).toNat = l.length by omega] at i2; exact i2)
    show [(1 : Int)] = [bi l.Nodup]
    rw [bi_1 this]
noncomputable def kRPlaces (f : FuncId) : K := { fn := f, ext := false, ins := [iLi, iI], outs := [oB], pre := fun _ => True, sem := fun | [x, a] => [bi (idsOk (dec x) ∧ 0 ≤ a ∧ a ≤ 1000)] | _ => [] }
def tRPlaces : Tree := (.loop [(.lit 0)] [(.int .i64)] 2
(.lett 3 (.int .i64) (.llen (.var 0))
(.lett 4 .bit (.cmp .lss (.var 2) (.var 3))
(.split 4
 (.lett 5 (.int .i64) (.llen (.var 0))
 (.lett 6 .bit (.cmp .leq (.lit 0) (.var 2))
 (.lett 7 .bit (.cmp .lss (.var 2) (.var 5))
 (.nz (.var 6)
 (.nz (.var 7)
 (.lett 8 (.int .i64) (.lget (.var 0) (.var 2))
 (.lett 9 .bit (.cmp .lss (.var 8) (.lit 1))
 (.split 9
  (.ret [(.lit 0)])
  (.lett 10 (.int .i64) (.llen (.var 0))
  (.lett 11 .bit (.cmp .leq (.lit 0) (.var 2))
  (.lett 12 .bit (.cmp .lss (.var 2) (.var 10))
  (.nz (.var 11)
  (.nz (.var 12)
  (.lett 13 (.int .i64) (.lget (.var 0) (.var 2))
  (.lett 14 .bit (.cmp .gtr (.var 13) (.lit 1000))
  (.split 14
   (.ret [(.lit 0)])
   (.lett 15 (.int .i64) (.bin .add .i64 (.var 2) (.lit 1))
   (.back 0 [(.var 15)]))))))))))))))))))
 (.lett 5 .bit (.cmp .geq (.var 1) (.lit 0))
 (.split 5
  (.lett 6 .bit (.cmp .leq (.var 1) (.lit 1000))
  (.ret [(.var 6)]))
  (.ret [(.lit 0)])))))))
theorem law_rPlaces (f : FuncId) (e : Nat → Int) (hk : kkHas [.lst (.int .i64), .int .i64] [e 0, e 1]) : tRPlaces.says [] ⟨fun ys => ys = (kRPlaces f).sem [e 0, e 1], []⟩ e := by
  have hl : (dec (e 0)).length ≤ 9223372036854775807 := hk.1.1
  show tRPlaces.says [] ⟨fun ys => ys = [bi (idsOk (dec (e 0)) ∧ 0 ≤ e 1 ∧ e 1 ≤ 1000)], []⟩ e
  generalize hL : dec (e 0) = l at *
  refine ⟨fun | [i] => 0 ≤ i ∧ i ≤ l.length ∧ okTo l i.toNat | _ => False, fun | [i] => (l.length - i).toNat | _ => 0, ⟨Int.le_refl _, (show (0 : Int) ≤ l.length by omega), fun j hj => by cases hj⟩, fun e' he hkk hI => ?_⟩
  obtain ⟨i0, i1, i2⟩ : 0 ≤ e' 2 ∧ e' 2 ≤ l.length ∧ okTo l (e' 2).toNat := hI
  have e0 := he 0 (by decide)
  have e1 := he 1 (by decide)
  have len : ∀ {v : Int}, v = ((dec (e' 0)).length : Int) → v = (l.length : Int) := fun h => by rw [h, e0, hL]
  intro a3 _ a4 _
  have v3 := len a3
  have b4 := c_lt a4
  simp only [ev_var, ev_lit] at b4
  refine ⟨fun h => ?_, fun h => ?_⟩
  · have c4 := yes_ h b4
    have hit : (e' 2).toNat < l.length := by omega
    intro a5 _ a6 _ a7 _
    have v5 := len a5
    have b6 := c_le a6
    have b7 := c_lt a7
    simp only [ev_var, ev_lit] at b6 b7
    refine ⟨(show e' 6 ≠ 0 by omega), (show e' 7 ≠ 0 by omega), fun a8 _ a9 _ => ?_⟩
    have v8 : e' 8 = l.getD (e' 2).toNat 0 := by
      have : e' 8 = (dec (e' 0)).getD (e' 2).toNat 0 := a8
      rw [this, e0, hL]
    have b9 := c_lt a9
    simp only [ev_var, ev_lit] at b9
    have bad : (¬ (1 ≤ l.getD (e' 2).toNat 0 ∧ l.getD (e' 2).toNat 0 ≤ 1000)) → [(0 : Int)] = [bi (idsOk l ∧ 0 ≤ e 1 ∧ e 1 ≤ 1000)] := fun h => by
      rw [bi_0 (fun hc => h ((okTo_iff l).1 hc.1 _ hit))]
    refine ⟨fun h => ?_, fun h => ?_⟩
    · have c9 := yes_ h b9
      exact bad (by omega)
    · have c9 := no_ h b9
      intro a10 _ a11 _ a12 _
      have v10 := len a10
      have b11 := c_le a11
      have b12 := c_lt a12
      simp only [ev_var, ev_lit] at b11 b12
      refine ⟨(show e' 11 ≠ 0 by omega), (show e' 12 ≠ 0 by omega), fun a13 _ a14 _ => ?_⟩
      have v13 : e' 13 = l.getD (e' 2).toNat 0 := by
        have : e' 13 = (dec (e' 0)).getD (e' 2).toNat 0 := a13
        rw [this, e0, hL]
      have b14 := c_gt a14
      simp only [ev_var, ev_lit] at b14
      refine ⟨fun h => ?_, fun h => ?_⟩
      · have c14 := yes_ h b14
        exact bad (by omega)
      · have c14 := no_ h b14
        intro a15 _
        have v15 : e' 15 = e' 2 + 1 := by
          have : e' 15 = binE .add .i64 (e' 2) 1 := a15
          rw [this]; simp only [binE, wr]; omega
        show (0 ≤ e' 15 ∧ e' 15 ≤ l.length ∧ okTo l (e' 15).toNat) ∧ (l.length - e' 15).toNat < (l.length - e' 2).toNat
        refine ⟨⟨by omega, by omega, fun j hj => ?_⟩, by omega⟩
        by_cases hje : j = (e' 2).toNat
        · subst hje; omega
        · exact i2 j (by omega)
  · have c4 := no_ h b4
    have hok : idsOk l := (okTo_iff l).2 (by rw [show (e' 2).toNat = l.length by omega] at i2; exact i2)
    intro a5 _
    have b5 := c_ge a5
    simp only [ev_var, ev_lit] at b5
    refine ⟨fun h => ?_, fun h => ?_⟩
    · have c5 := yes_ h b5
      intro a6 _
      have b6 := c_le a6
      simp only [ev_var, ev_lit] at b6
      show [e' 6] = [bi (idsOk l ∧ 0 ≤ e 1 ∧ e 1 ≤ 1000)]
      by_cases hc : e 1 ≤ 1000
      · rw [bi_1 ⟨hok, by omega, hc⟩, show e' 6 = 1 by omega]
      · rw [bi_0 (fun h => hc h.2.2), show e' 6 = 0 by omega]
    · have c5 := no_ h b5
      show [(0 : Int)] = [bi (idsOk l ∧ 0 ≤ e 1 ∧ e 1 ≤ 1000)]
      rw [bi_0 (fun h => by omega)]
def errPl (ids : List Int) (n x : Int) : Int := if x < 0 ∨ 1000 < x ∨ n ≠ ids.length ∨ ¬ idsOk ids then 2 else if ¬ ids.Nodup then 7 else 0
def errIds (ids : List Int) (n x : Int) : Int := if 64 < ids.length ∨ 64 < n then 3 else errPl ids n x
def errSh (s : Int) (ids l : List Int) (x : Int) : Int := if ¬ isS s then 2 else if 64 < ids.length ∨ 64 < l.length then 3 else if ¬ allLt (rOf s) l then 2 else errPl ids l.length x
noncomputable def kIds (f : FuncId) : K := { fn := f, ext := false, ins := [iLi, iI, iI], outs := [oI], pre := fun _ => True, sem := fun | [x, n, a] => [errIds (dec x) n a] | _ => [] }
theorem bi_cases (p : Prop) [Decidable p] : (bi p = 1 ∧ p) ∨ (bi p = 0 ∧ ¬ p) := by
  by_cases h : p
  · exact .inl ⟨bi_1 h, h⟩
  · exact .inr ⟨bi_0 h, h⟩
def tIds : Tree := (.lett 3 (.int .i64) (.llen (.var 0))
(.lett 4 .bit (.cmp .gtr (.var 3) (.lit 64))
(.split 4
 (.ret [(.lit 3)])
 (.lett 5 .bit (.cmp .gtr (.var 1) (.lit 64))
 (.split 5
  (.ret [(.lit 3)])
  (.req 0 [(.var 0), (.var 2)]
  (.lett 6 .bit (.app 0 0 [(.var 0), (.var 2)])
  (.lett 7 .bit (.not (.var 6))
  (.split 7
   (.ret [(.lit 2)])
   (.lett 8 (.int .i64) (.llen (.var 0))
   (.lett 9 .bit (.cmp .neq (.var 1) (.var 8))
   (.split 9
    (.ret [(.lit 2)])
    (.req 1 [(.var 0)]
    (.lett 10 .bit (.app 1 0 [(.var 0)])
    (.lett 11 .bit (.not (.var 10))
    (.split 11
     (.ret [(.lit 7)])
     (.ret [(.lit 0)])))))))))))))))))
theorem law_ids (f1 f2 f : FuncId) (e : Nat → Int) : tIds.says [kRPlaces f1, kUnlike f2] ⟨fun ys => ys = (kIds f).sem [e 0, e 1, e 2], []⟩ e := by
  show tIds.says [kRPlaces f1, kUnlike f2] ⟨fun ys => ys = [errIds (dec (e 0)) (e 1) (e 2)], []⟩ e
  intro a3 _ a4 _
  have v3 : e 3 = ((dec (e 0)).length : Int) := a3
  have b4 := c_gt a4
  simp only [ev_var, ev_lit] at b4
  refine ⟨fun h => ?_, fun h => ?_⟩
  · have c4 := yes_ h b4
    show [(3 : Int)] = _
    unfold errIds; rw [if_pos (.inl (by omega))]
  · have c4 := no_ h b4
    intro a5 _
    have b5 := c_gt a5
    simp only [ev_var, ev_lit] at b5
    refine ⟨fun h => ?_, fun h => ?_⟩
    · have c5 := yes_ h b5
      show [(3 : Int)] = _
      unfold errIds; rw [if_pos (.inr (by omega))]
    · have c5 := no_ h b5
      have e1 : errIds (dec (e 0)) (e 1) (e 2) = errPl (dec (e 0)) (e 1) (e 2) := by unfold errIds; rw [if_neg (by omega)]
      rw [e1]
      refine ⟨trivial, fun a6 _ a7 _ => ?_⟩
      have v6 : e 6 = bi (idsOk (dec (e 0)) ∧ 0 ≤ e 2 ∧ e 2 ≤ 1000) := a6
      have b6 := bi_cases (idsOk (dec (e 0)) ∧ 0 ≤ e 2 ∧ e 2 ≤ 1000)
      rw [← v6] at b6
      have b7 := c_not a7
      simp only [ev_var] at b7
      refine ⟨fun h => ?_, fun h => ?_⟩
      · have c6 := no_ (yes_ h b7) b6
        show [(2 : Int)] = _
        unfold errPl
        rw [if_pos (by
          by_cases hi : idsOk (dec (e 0))
          · by_cases hx : 0 ≤ e 2
            · by_cases hy : e 2 ≤ 1000
              · exact absurd ⟨hi, hx, hy⟩ c6
              · exact .inr (.inl (by omega))
            · exact .inl (by omega)
          · exact .inr (.inr (.inr hi)))]
      · have c6 := yes_ (no_ h b7) b6
        intro a8 _ a9 _
        have v8 : e 8 = ((dec (e 0)).length : Int) := a8
        have b9 := c_ne a9
        simp only [ev_var, ev_lit] at b9
        refine ⟨fun h => ?_, fun h => ?_⟩
        · have c9 := yes_ h b9
          show [(2 : Int)] = _
          unfold errPl; rw [if_pos (.inr (.inr (.inl (by omega))))]
        · have c9 := no_ h b9
          refine ⟨trivial, fun a10 _ a11 _ => ?_⟩
          have v10 : e 10 = bi (dec (e 0)).Nodup := a10
          have b10 := bi_cases (dec (e 0)).Nodup
          rw [← v10] at b10
          have b11 := c_not a11
          simp only [ev_var] at b11
          have e2 : ¬ (e 2 < 0 ∨ 1000 < e 2 ∨ e 1 ≠ (dec (e 0)).length ∨ ¬ idsOk (dec (e 0))) := by
            rintro (h | h | h | h)
            · omega
            · omega
            · omega
            · exact h c6.1
          refine ⟨fun h => ?_, fun h => ?_⟩
          · have c10 := no_ (yes_ h b11) b10
            show [(7 : Int)] = _
            unfold errPl; rw [if_neg e2, if_pos c10]
          · have c10 := yes_ (no_ h b11) b10
            show [(0 : Int)] = _
            unfold errPl; rw [if_neg e2, if_neg (by simpa using c10)]
noncomputable def kShErr (f : FuncId) : K := { fn := f, ext := false, ins := [iI, iLi, iL, iI], outs := [oI], pre := fun _ => True, sem := fun | [s, x, l, a] => [errSh s (dec x) (dec l) a] | _ => [] }
def tRShares : Tree := (.req 0 [(.var 0)]
(.lett 4 .bit (.app 0 0 [(.var 0)])
(.lett 5 .bit (.not (.var 4))
(.split 5
 (.ret [(.lit 2)])
 (.lett 6 (.int .i64) (.llen (.var 1))
 (.lett 7 .bit (.cmp .gtr (.var 6) (.lit 64))
 (.split 7
  (.ret [(.lit 3)])
  (.lett 8 (.int .i64) (.llen (.var 2))
  (.lett 9 .bit (.cmp .gtr (.var 8) (.lit 64))
  (.split 9
   (.ret [(.lit 3)])
   (.req 1 [(.var 0), (.var 2)]
   (.lett 10 .bit (.app 1 0 [(.var 0), (.var 2)])
   (.lett 11 .bit (.not (.var 10))
   (.split 11
    (.ret [(.lit 2)])
    (.lett 12 (.int .i64) (.llen (.var 2))
    (.req 2 [(.var 1), (.var 12), (.var 3)]
    (.lett 13 (.int .i64) (.app 2 0 [(.var 1), (.var 12), (.var 3)])
    (.ret [(.var 13)]))))))))))))))))))
theorem law_rShares (f1 f2 f3 f : FuncId) (e : Nat → Int) : tRShares.says [kIs f1, kScs f2, kIds f3] ⟨fun ys => ys = (kShErr f).sem [e 0, e 1, e 2, e 3], []⟩ e := by
  show tRShares.says [kIs f1, kScs f2, kIds f3] ⟨fun ys => ys = [errSh (e 0) (dec (e 1)) (dec (e 2)) (e 3)], []⟩ e
  refine ⟨trivial, fun a4 _ a5 _ => ?_⟩
  have v4 : e 4 = bi (isS (e 0)) := a4
  have b4 := bi_cases (isS (e 0))
  rw [← v4] at b4
  have b5 := c_not a5
  simp only [ev_var] at b5
  refine ⟨fun h => ?_, fun h => ?_⟩
  · have c4 := no_ (yes_ h b5) b4
    show [(2 : Int)] = _
    unfold errSh; rw [if_pos c4]
  · have c4 := yes_ (no_ h b5) b4
    intro a6 _ a7 _
    have v6 : e 6 = ((dec (e 1)).length : Int) := a6
    have b7 := c_gt a7
    simp only [ev_var, ev_lit] at b7
    refine ⟨fun h => ?_, fun h => ?_⟩
    · have c7 := yes_ h b7
      show [(3 : Int)] = _
      unfold errSh; rw [if_neg (by simpa using c4), if_pos (.inl (by omega))]
    · have c7 := no_ h b7
      intro a8 _ a9 _
      have v8 : e 8 = ((dec (e 2)).length : Int) := a8
      have b9 := c_gt a9
      simp only [ev_var, ev_lit] at b9
      refine ⟨fun h => ?_, fun h => ?_⟩
      · have c9 := yes_ h b9
        show [(3 : Int)] = _
        unfold errSh; rw [if_neg (by simpa using c4), if_pos (.inr (by omega))]
      · have c9 := no_ h b9
        refine ⟨c4, fun a10 _ a11 _ => ?_⟩
        have v10 : e 10 = bi (allLt (rOf (e 0)) (dec (e 2))) := a10
        have b10 := bi_cases (allLt (rOf (e 0)) (dec (e 2)))
        rw [← v10] at b10
        have b11 := c_not a11
        simp only [ev_var] at b11
        refine ⟨fun h => ?_, fun h => ?_⟩
        · have c10 := no_ (yes_ h b11) b10
          show [(2 : Int)] = _
          unfold errSh; rw [if_neg (by simpa using c4), if_neg (by omega), if_pos c10]
        · have c10 := yes_ (no_ h b11) b10
          intro a12 _
          refine ⟨trivial, fun a13 _ => ?_⟩
          have v12 : e 12 = ((dec (e 2)).length : Int) := a12
          have v13 : e 13 = errIds (dec (e 1)) (e 12) (e 3) := a13
          show [e 13] = _
          unfold errSh
          rw [if_neg (by simpa using c4), if_neg (by omega), if_neg (by simpa using c10), v13, v12]
          unfold errIds
          rw [if_neg (by omega)]
noncomputable def kPlaces (f : FuncId) : K := { fn := f, ext := false, ins := [iLi, iI, iI], outs := [oI], pre := fun | [x, _, _] => (dec x).length ≤ 64 | _ => False, sem := fun | [x, n, a] => [errPl (dec x) n a] | _ => [] }
theorem so_cases (s : Int) : (isS s ∧ ((kSOrder 0).sem [s]).getD 1 0 = 0) ∨ (¬ isS s ∧ ((kSOrder 0).sem [s]).getD 1 0 = 2) := by
  by_cases h : isS s
  · exact .inl ⟨h, (so_yes h).2⟩
  · exact .inr ⟨h, (so_no h).2⟩
def tShares : Tree := (.req 0 [(.var 0)]
(.lett 4 .num (.app 0 0 [(.var 0)])
(.lett 5 (.int .i64) (.app 0 1 [(.var 0)])
(.lett 6 .bit (.cmp .eql (.var 5) (.lit 0))
(.lett 7 .bit (.not (.var 6))
(.split 7
 (.ret [(.lit 2)])
 (.lett 8 (.int .i64) (.llen (.var 1))
 (.lett 9 .bit (.cmp .gtr (.var 8) (.lit 64))
 (.split 9
  (.ret [(.lit 3)])
  (.lett 10 (.int .i64) (.llen (.var 2))
  (.lett 11 .bit (.cmp .gtr (.var 10) (.lit 64))
  (.split 11
   (.ret [(.lit 3)])
   (.req 1 [(.var 0), (.var 2)]
   (.lett 12 .bit (.app 1 0 [(.var 0), (.var 2)])
   (.lett 13 .bit (.not (.var 12))
   (.split 13
    (.ret [(.lit 2)])
    (.lett 14 (.int .i64) (.llen (.var 2))
    (.req 2 [(.var 1), (.var 14), (.var 3)]
    (.lett 15 (.int .i64) (.app 2 0 [(.var 1), (.var 14), (.var 3)])
    (.ret [(.var 15)]))))))))))))))))))))
theorem law_shares (f1 f2 f3 f : FuncId) (e : Nat → Int) : tShares.says [kSOrder f1, kScs f2, kPlaces f3] ⟨fun ys => ys = (kShErr f).sem [e 0, e 1, e 2, e 3], []⟩ e := by
  show tShares.says [kSOrder f1, kScs f2, kPlaces f3] ⟨fun ys => ys = [errSh (e 0) (dec (e 1)) (dec (e 2)) (e 3)], []⟩ e
  refine ⟨trivial, fun a4 _ a5 _ a6 _ a7 _ => ?_⟩
  have v5 : e 5 = ((kSOrder 0).sem [e 0]).getD 1 0 := a5
  have hso := so_cases (e 0)
  rw [← v5] at hso
  have b6 := c_eq a6
  have b7 := c_not a7
  simp only [ev_var, ev_lit] at b6 b7
  refine ⟨fun h => ?_, fun h => ?_⟩
  · have c6 := no_ (yes_ h b7) b6
    have c4 : ¬ isS (e 0) := by rcases hso with ⟨_, h⟩ | ⟨h, _⟩; exact absurd h c6; exact h
    show [(2 : Int)] = _
    unfold errSh; rw [if_pos c4]
  · have c6 := yes_ (no_ h b7) b6
    have c4 : isS (e 0) := by rcases hso with ⟨h, _⟩ | ⟨_, h⟩; exact h; omega
    intro a8 _ a9 _
    have v8 : e 8 = ((dec (e 1)).length : Int) := a8
    have b9 := c_gt a9
    simp only [ev_var, ev_lit] at b9
    refine ⟨fun h => ?_, fun h => ?_⟩
    · have c9 := yes_ h b9
      show [(3 : Int)] = _
      unfold errSh; rw [if_neg (by simpa using c4), if_pos (.inl (by omega))]
    · have c9 := no_ h b9
      intro a10 _ a11 _
      have v10 : e 10 = ((dec (e 2)).length : Int) := a10
      have b11 := c_gt a11
      simp only [ev_var, ev_lit] at b11
      refine ⟨fun h => ?_, fun h => ?_⟩
      · have c11 := yes_ h b11
        show [(3 : Int)] = _
        unfold errSh; rw [if_neg (by simpa using c4), if_pos (.inr (by omega))]
      · have c11 := no_ h b11
        refine ⟨c4, fun a12 _ a13 _ => ?_⟩
        have v12 : e 12 = bi (allLt (rOf (e 0)) (dec (e 2))) := a12
        have b12 := bi_cases (allLt (rOf (e 0)) (dec (e 2)))
        rw [← v12] at b12
        have b13 := c_not a13
        simp only [ev_var] at b13
        refine ⟨fun h => ?_, fun h => ?_⟩
        · have c12 := no_ (yes_ h b13) b12
          show [(2 : Int)] = _
          unfold errSh; rw [if_neg (by simpa using c4), if_neg (by omega), if_pos c12]
        · have c12 := yes_ (no_ h b13) b12
          intro a14 _
          refine ⟨(show (dec (e 1)).length ≤ 64 by omega), fun a15 _ => ?_⟩
          have v14 : e 14 = ((dec (e 2)).length : Int) := a14
          have v15 : e 15 = errPl (dec (e 1)) (e 14) (e 3) := a15
          show [e 15] = _
          unfold errSh
          rw [if_neg (by simpa using c4), if_neg (by omega), if_neg (by simpa using c12), v15, v14]
def errLa (s : Int) (ids : List Int) (x : Int) : Int := if ¬ isS s then 2 else errIds ids ids.length x
noncomputable def semSLagr : List Int → List Int := fun | [s, x, a] => if errLa s (dec x) a = 0 then [enc (lagV (rOf s) (dec x) a), 0] else [0, errLa s (dec x) a] | _ => []
noncomputable def kSLagr (te : TypeId) (f : FuncId) : K := { fn := f, ext := false, ins := [iI, iLi, iI], outs := [.lst te .num, oI], pre := fun _ => True, sem := semSLagr }
theorem errPl_ok {ids : List Int} {n x : Int} (h : errPl ids n x = 0) : 0 ≤ x ∧ x ≤ 1000 ∧ n = ids.length ∧ idsOk ids ∧ ids.Nodup := by
  unfold errPl at h
  split at h
  · omega
  · rename_i hc
    split at h
    · omega
    · rename_i hd
      refine ⟨by omega, by omega, by omega, ?_, by simpa using hd⟩
      by_cases hi : idsOk ids
      · exact hi
      · exact absurd (.inr (.inr (.inr hi))) hc
def tSLagr : Tree := (.req 0 [(.var 0)]
(.lett 3 .num (.app 0 0 [(.var 0)])
(.lett 4 (.int .i64) (.app 0 1 [(.var 0)])
(.lett 5 .bit (.cmp .eql (.var 4) (.lit 0))
(.lett 6 .bit (.not (.var 5))
(.split 6
 (.ret [(.lit 0), (.lit 2)])
 (.lett 7 (.int .i64) (.llen (.var 1))
 (.lett 8 .bit (.cmp .gtr (.var 7) (.lit 64))
 (.split 8
  (.ret [(.lit 0), (.lit 3)])
  (.lett 9 (.int .i64) (.llen (.var 1))
  (.req 1 [(.var 1), (.var 9), (.var 2)]
  (.lett 10 (.int .i64) (.app 1 0 [(.var 1), (.var 9), (.var 2)])
  (.lett 11 .bit (.cmp .neq (.var 10) (.lit 0))
  (.split 11
   (.ret [(.lit 0), (.var 10)])
   (.req 2 [(.var 0), (.var 1), (.var 2)]
   (.lett 12 (.lst .num) (.app 2 0 [(.var 0), (.var 1), (.var 2)])
   (.ret [(.var 12), (.lit 0)])))))))))))))))))
theorem law_sLagr (te : TypeId) (f1 f2 f3 f : FuncId) (e : Nat → Int) : tSLagr.says [kSOrder f1, kPlaces f2, kLagr te f3] ⟨fun ys => ys = (kSLagr te f).sem [e 0, e 1, e 2], []⟩ e := by
  show tSLagr.says [kSOrder f1, kPlaces f2, kLagr te f3] ⟨fun ys => ys = if errLa (e 0) (dec (e 1)) (e 2) = 0 then [enc (lagV (rOf (e 0)) (dec (e 1)) (e 2)), 0] else [0, errLa (e 0) (dec (e 1)) (e 2)], []⟩ e
  refine ⟨trivial, fun a3 _ a4 _ a5 _ a6 _ => ?_⟩
  have v4 : e 4 = ((kSOrder 0).sem [e 0]).getD 1 0 := a4
  have hso := so_cases (e 0)
  rw [← v4] at hso
  have b5 := c_eq a5
  have b6 := c_not a6
  simp only [ev_var, ev_lit] at b5 b6
  refine ⟨fun h => ?_, fun h => ?_⟩
  · have c5 := no_ (yes_ h b6) b5
    have c4 : ¬ isS (e 0) := by rcases hso with ⟨_, h⟩ | ⟨h, _⟩; exact absurd h c5; exact h
    have hE : errLa (e 0) (dec (e 1)) (e 2) = 2 := by unfold errLa; rw [if_pos c4]
    show [(0 : Int), 2] = _
    rw [hE, if_neg (by omega)]
  · have c5 := yes_ (no_ h b6) b5
    have c4 : isS (e 0) := by rcases hso with ⟨h, _⟩ | ⟨_, h⟩; exact h; omega
    have hE : errLa (e 0) (dec (e 1)) (e 2) = errIds (dec (e 1)) (dec (e 1)).length (e 2) := by unfold errLa; rw [if_neg (by simpa using c4)]
    intro a7 _ a8 _
    have v7 : e 7 = ((dec (e 1)).length : Int) := a7
    have b8 := c_gt a8
    simp only [ev_var, ev_lit] at b8
    refine ⟨fun h => ?_, fun h => ?_⟩
    · have c8 := yes_ h b8
      have hE2 : errIds (dec (e 1)) (dec (e 1)).length (e 2) = 3 := by unfold errIds; rw [if_pos (.inl (by omega))]
      show [(0 : Int), 3] = _
      rw [hE, hE2, if_neg (by omega)]
    · have c8 := no_ h b8
      have hE2 : errIds (dec (e 1)) (dec (e 1)).length (e 2) = errPl (dec (e 1)) (dec (e 1)).length (e 2) := by unfold errIds; rw [if_neg (by omega)]
      intro a9 _
      refine ⟨(show (dec (e 1)).length ≤ 64 by omega), fun a10 _ a11 _ => ?_⟩
      have v9 : e 9 = ((dec (e 1)).length : Int) := a9
      have v10 : e 10 = errPl (dec (e 1)) (e 9) (e 2) := a10
      rw [v9] at v10
      have b11 := c_ne a11
      simp only [ev_var, ev_lit] at b11
      refine ⟨fun h => ?_, fun h => ?_⟩
      · have c11 := yes_ h b11
        show [(0 : Int), e 10] = _
        rw [hE, hE2, ← v10, if_neg c11]
      · have c11 := no_ h b11
        obtain ⟨q1, q2, _, q3, _⟩ := errPl_ok (v10.symm.trans c11)
        refine ⟨⟨c4, q3, (show (dec (e 1)).length ≤ 64 by omega), q1, q2⟩, fun a12 _ => ?_⟩
        have v12 : e 12 = enc (lagV (rOf (e 0)) (dec (e 1)) (e 2)) := a12
        show [e 12, 0] = _
        rw [hE, hE2, ← v10, if_pos c11, v12]
theorem errSh_ok {s : Int} {ids l : List Int} {a : Int} (h : errSh s ids l a = 0) : joinPre s ids l a ∧ ids.Nodup := by
  unfold errSh at h
  split at h
  · omega
  · rename_i hs
    split at h
    · omega
    · rename_i hl
      split at h
      · omega
      · rename_i hlt
        obtain ⟨q1, q2, q3, q4, q5⟩ := errPl_ok h
        exact ⟨⟨by simpa using hs, q4, by omega, by omega, by simpa using hlt, q1, q2⟩, q5⟩
noncomputable def semSJoin : List Int → List Int := fun | [s, x, l, a] => if errSh s (dec x) (dec l) a = 0 then [joinV (rOf s) (dec x) (dec l) a, 0] else [0, errSh s (dec x) (dec l) a] | _ => []
noncomputable def kSJoin (f : FuncId) : K := { fn := f, ext := false, ins := [iI, iLi, iL, iI], outs := [oN, oI], pre := fun _ => True, sem := semSJoin }
def tSJoin : Tree := (.req 0 [(.var 0), (.var 1), (.var 2), (.var 3)]
(.lett 4 (.int .i64) (.app 0 0 [(.var 0), (.var 1), (.var 2), (.var 3)])
(.lett 5 .bit (.cmp .neq (.var 4) (.lit 0))
(.split 5
 (.ret [(.lit 0), (.var 4)])
 (.req 1 [(.var 0), (.var 1), (.var 2), (.var 3)]
 (.lett 6 .num (.app 1 0 [(.var 0), (.var 1), (.var 2), (.var 3)])
 (.ret [(.var 6), (.lit 0)])))))))
theorem law_sJoin (f1 f2 f : FuncId) (e : Nat → Int) : tSJoin.says [kShErr f1, kJoin f2] ⟨fun ys => ys = (kSJoin f).sem [e 0, e 1, e 2, e 3], []⟩ e := by
  show tSJoin.says [kShErr f1, kJoin f2] ⟨fun ys => ys = if errSh (e 0) (dec (e 1)) (dec (e 2)) (e 3) = 0 then [joinV (rOf (e 0)) (dec (e 1)) (dec (e 2)) (e 3), 0] else [0, errSh (e 0) (dec (e 1)) (dec (e 2)) (e 3)], []⟩ e
  refine ⟨trivial, fun a4 _ a5 _ => ?_⟩
  have v4 : e 4 = errSh (e 0) (dec (e 1)) (dec (e 2)) (e 3) := a4
  have b5 := c_ne a5
  simp only [ev_var, ev_lit] at b5
  refine ⟨fun h => ?_, fun h => ?_⟩
  · have c5 := yes_ h b5
    show [(0 : Int), e 4] = _
    rw [← v4, if_neg c5]
  · have c5 := no_ h b5
    refine ⟨(errSh_ok (v4.symm.trans c5)).1, fun a6 _ => ?_⟩
    have v6 : e 6 = joinV (rOf (e 0)) (dec (e 1)) (dec (e 2)) (e 3) := a6
    show [e 6, 0] = _
    rw [← v4, if_pos c5, v6]
end Go.Sx
