/- Laws: Pick, small numbers, scalars of numbers, unlike ids chosen. -/
import Derived.Test.YtlddchekkjjleaaGreatHg
import Derived.Test.YtlddchekkjjleaaGreatHd
set_option linter.unusedVariables false
set_option linter.unusedSimpArgs false
namespace Go.Sx
open Go Go.RowKit
set_option maxRecDepth 100000
set_option linter.unusedVariables false
set_option linter.unusedSimpArgs false
noncomputable def kPick (f : FuncId) : K := { fn := f, ext := false, ins := [iI, iI], outs := [oI], pre := fun _ => True, sem := fun | [x, n] => [if n < 1 then 0 else x % n] | _ => [] }
def tPick : Tree := (.lett 2 .bit (.cmp .lss (.var 1) (.lit 1))
(.split 2
 (.ret [(.lit 0)])
 (.lett 3 (.int .i64) (.bin .rem .i64 (.var 0) (.var 1))
 (.nz (.var 1)
 (.lett 4 .bit (.cmp .lss (.var 3) (.lit 0))
 (.split 4
  (.lett 5 (.int .i64) (.bin .add .i64 (.var 3) (.var 1))
  (.ret [(.var 5)]))
  (.ret [(.var 3)])))))))
theorem tmod_cases (x n : Int) (hn : 0 < n) : (x.tmod n < 0 ∧ x % n = x.tmod n + n) ∨ (0 ≤ x.tmod n ∧ x % n = x.tmod n) := by
  have h0 := Int.emod_nonneg x (show n ≠ 0 by omega)
  have h1 := Int.emod_lt_of_pos x hn
  have h2 : x.tmod n = x % n ∨ x.tmod n = x % n - n := by
    rw [Int.tmod_eq_emod]
    split
    · left; omega
    · right; omega
  rcases Int.lt_or_le (x.tmod n) 0 with h | h
  · left; refine ⟨h, ?_⟩; omega
  · right; refine ⟨h, ?_⟩
    rcases h2 with h2 | h2 <;> omega
theorem law_pick (f : FuncId) (e : Nat → Int) (hk : kkHas [.int .i64, .int .i64] [e 0, e 1]) : tPick.says [] ⟨fun ys => ys = (kPick f).sem [e 0, e 1], []⟩ e := by
  have hn : e 1 ≤ 9223372036854775807 := by have := hk.2.1; simp only [KK.has, has, lo, hi] at this; exact this.2
  show tPick.says [] ⟨fun ys => ys = [if e 1 < 1 then 0 else e 0 % e 1], []⟩ e
  intro a2 _
  have b2 := c_lt a2
  simp only [ev_var, ev_lit] at b2
  refine ⟨fun h => ?_, fun h => ?_⟩
  · have c2 := yes_ h b2
    show [(0 : Int)] = _
    rw [if_pos c2]
  · have c2 := no_ h b2
    intro a3 _
    have v3 : e 3 = (e 0).tmod (e 1) := a3
    refine ⟨(show e 1 ≠ 0 by omega), fun a4 _ => ?_⟩
    have b4 := c_lt a4
    simp only [ev_var, ev_lit] at b4
    have hc := tmod_cases (e 0) (e 1) (by omega)
    rw [← v3] at hc
    refine ⟨fun h => ?_, fun h => ?_⟩
    · have c4 := yes_ h b4
      intro a5 _
      have v5 : e 5 = e 3 + e 1 := by
        have : e 5 = binE .add .i64 (e 3) (e 1) := a5
        rw [this]
        have := hk.1
        have h3 : -9223372036854775808 ≤ e 3 := by
          have h0 := Int.emod_nonneg (e 0) (show e 1 ≠ 0 by omega)
          omega
        simp only [binE, wr]; omega
      show [e 5] = _
      rw [if_neg c2]
      congr 1; omega
    · have c4 := no_ h b4
      show [e 3] = _
      rw [if_neg c2]
      congr 1; omega
noncomputable def kSmall19 (te : TypeId) (f : FuncId) : K := { fn := f, ext := false, ins := [.lst (.int .u64)], outs := [.lst te .num], pre := fun | [x] => (dec x).length ≤ 1000 | _ => False, sem := fun | [x] => [enc (dec x)] | _ => [] }
def tSmall19 : Tree := (.loop [(.lit 0), (.lit 0)] [(.int .i64), (.lst .num)] 1
(.lett 3 (.int .i64) (.llen (.var 0))
(.lett 4 .bit (.cmp .lss (.var 1) (.var 3))
(.split 4
 (.lett 5 (.int .i64) (.llen (.var 0))
 (.lett 6 .bit (.cmp .leq (.lit 0) (.var 1))
 (.lett 7 .bit (.cmp .lss (.var 1) (.var 5))
 (.nz (.var 6)
 (.nz (.var 7)
 (.lett 8 (.int .u64) (.lget (.var 0) (.var 1))
 (.req 0 [(.var 8)]
 (.lett 9 .num (.app 0 0 [(.var 8)])
 (.lett 10 (.int .i64) (.llen (.var 2))
 (.lett 11 .bit (.cmp .lss (.var 10) (.lit 4294967296))
 (.nz (.var 11)
 (.lett 12 (.lst .num) (.lapp (.var 2) [(.var 9)])
 (.lett 13 (.int .i64) (.bin .add .i64 (.var 1) (.lit 1))
 (.back 0 [(.var 13), (.var 12)]))))))))))))))
 (.ret [(.var 2)])))))
theorem take_snoc {l : List Int} {i : Nat} (h : i < l.length) : l.take i ++ [l.getD i 0] = l.take (i + 1) := by
  rw [List.take_succ_eq_append_getElem h, List.getD_eq_getElem?_getD, List.getElem?_eq_getElem h]; rfl
theorem law_small19 (te : TypeId) (f1 f : FuncId) (e : Nat → Int) (hk : kkHas [.lst (.int .u64)] [e 0]) (hp : (kSmall19 te f).pre [e 0]) : tSmall19.says [kOf f1] ⟨fun ys => ys = (kSmall19 te f).sem [e 0], []⟩ e := by
  have hp : (dec (e 0)).length ≤ 1000 := hp
  show tSmall19.says [kOf f1] ⟨fun ys => ys = [enc (dec (e 0))], []⟩ e
  generalize hL : dec (e 0) = l at *
  refine ⟨fun | [i, x] => 0 ≤ i ∧ i ≤ l.length ∧ x = enc (l.take i.toNat) | _ => False, fun | [i, _] => (l.length - i).toNat | _ => 0, ⟨Int.le_refl _, (show (0 : Int) ≤ l.length by omega), rfl⟩, fun e' he hkk hI => ?_⟩
  obtain ⟨i0, i1, i2⟩ : 0 ≤ e' 1 ∧ e' 1 ≤ l.length ∧ e' 2 = enc (l.take (e' 1).toNat) := hI
  have e0 := he 0 (by decide)
  have len : ∀ {v : Int}, v = ((dec (e' 0)).length : Int) → v = (l.length : Int) := fun h => by rw [h, e0, hL]
  intro a3 _ a4 _
  have v3 := len a3
  have b4 := c_lt a4
  simp only [ev_var, ev_lit] at b4
  refine ⟨fun h => ?_, fun h => ?_⟩
  · have c4 := yes_ h b4
    have hit : (e' 1).toNat < l.length := by omega
    intro a5 _ a6 _ a7 _
    have v5 := len a5
    have b6 := c_le a6
    have b7 := c_lt a7
    simp only [ev_var, ev_lit] at b6 b7
    refine ⟨(show e' 6 ≠ 0 by omega), (show e' 7 ≠ 0 by omega), fun a8 k8 => ?_⟩
    have v8 : e' 8 = l.getD (e' 1).toNat 0 := by
      have : e' 8 = (dec (e' 0)).getD (e' 1).toNat 0 := a8
      rw [this, e0, hL]
    refine ⟨trivial, fun a9 _ a10 _ a11 _ => ?_⟩
    have v9 : e' 9 = e' 8 := a9
    have v10 : e' 10 = ((dec (e' 2)).length : Int) := a10
    rw [i2, dec_enc, List.length_take] at v10
    have b11 := c_lt a11
    simp only [ev_var, ev_lit] at b11
    refine ⟨(show e' 11 ≠ 0 by omega), fun a12 _ a13 _ => ?_⟩
    have v12 : e' 12 = enc (dec (e' 2) ++ [e' 9]) := a12
    have v13 : e' 13 = e' 1 + 1 := by
      have : e' 13 = binE .add .i64 (e' 1) 1 := a13
      rw [this]; simp only [binE, wr]; omega
    show (0 ≤ e' 13 ∧ e' 13 ≤ l.length ∧ e' 12 = enc (l.take (e' 13).toNat)) ∧ (l.length - e' 13).toNat < (l.length - e' 1).toNat
    refine ⟨⟨by omega, by omega, ?_⟩, by omega⟩
    rw [v13, show (e' 1 + 1).toNat = (e' 1).toNat + 1 by omega, v12, i2, dec_enc, v9, v8, take_snoc hit]
  · have c4 := no_ h b4
    show [e' 2] = _
    rw [i2, List.take_of_length_le (by omega)]
noncomputable def kScl (te : TypeId) (f : FuncId) : K := { fn := f, ext := false, ins := [iI, iL], outs := [.lst te .num], pre := fun | [s, x] => isS s ∧ (dec x).length ≤ 1000 | _ => False, sem := fun | [s, x] => [enc ((dec x).map (· % rOf s))] | _ => [] }
def tScl : Tree := (.req 0 [(.var 0)]
(.lett 2 .num (.app 0 0 [(.var 0)])
(.lett 3 (.int .i64) (.app 0 1 [(.var 0)])
(.loop [(.lit 0), (.lit 0)] [(.int .i64), (.lst .num)] 4
(.lett 6 (.int .i64) (.llen (.var 1))
(.lett 7 .bit (.cmp .lss (.var 4) (.var 6))
(.split 7
 (.lett 104 (.int .i64) (.llen (.var 1))
 (.lett 105 .bit (.cmp .leq (.lit 0) (.var 4))
 (.lett 106 .bit (.cmp .lss (.var 4) (.var 104))
 (.nz (.var 105)
 (.nz (.var 106)
 (.lett 152 .num (.lget (.var 1) (.var 4))
 (.req 1 [(.var 152), (.var 2)]
 (.lett 248 .num (.app 1 0 [(.var 152), (.var 2)])
 (.lett 249 .num (.app 1 1 [(.var 152), (.var 2)])
 (.lett 250 (.int .i64) (.app 1 2 [(.var 152), (.var 2)])
 (.lett 728 (.int .i64) (.llen (.var 5))
 (.lett 729 .bit (.cmp .lss (.var 728) (.lit 4294967296))
 (.nz (.var 729)
 (.lett 730 (.lst .num) (.lapp (.var 5) [(.var 249)])
 (.lett 731 (.int .i64) (.bin .add .i64 (.var 4) (.lit 1))
 (.back 0 [(.var 731), (.var 730)]))))))))))))))))
 (.ret [(.var 5)]))))))))
theorem law_scl (te : TypeId) (f1 f2 f : FuncId) (e : Nat → Int) (hp : (kScl te f).pre [e 0, e 1]) : tScl.says [kSOrder f1, kDivide f2] ⟨fun ys => ys = (kScl te f).sem [e 0, e 1], []⟩ e := by
  obtain ⟨hs, hp⟩ : isS (e 0) ∧ (dec (e 1)).length ≤ 1000 := hp
  have hr := rOf_big hs
  show tScl.says [kSOrder f1, kDivide f2] ⟨fun ys => ys = [enc ((dec (e 1)).map (· % rOf (e 0)))], []⟩ e
  generalize hL : dec (e 1) = l at *
  refine ⟨trivial, fun a2 _ a3 _ => ?_⟩
  have v2 : e 2 = rOf (e 0) := by
    have : e 2 = ((kSOrder f1).sem [e 0]).getD 0 0 := a2
    rw [this]; exact (so_yes hs).1
  refine ⟨fun | [i, x] => 0 ≤ i ∧ i ≤ l.length ∧ x = enc ((l.take i.toNat).map (· % rOf (e 0))) | _ => False, fun | [i, _] => (l.length - i).toNat | _ => 0, ⟨Int.le_refl _, (show (0 : Int) ≤ l.length by omega), rfl⟩, fun e' he hkk hI => ?_⟩
  obtain ⟨i0, i1, i2⟩ : 0 ≤ e' 4 ∧ e' 4 ≤ l.length ∧ e' 5 = enc ((l.take (e' 4).toNat).map (· % rOf (e 0))) := hI
  have e0 := he 0 (by decide)
  have e1 := he 1 (by decide)
  have e2 := (he 2 (by decide)).trans v2
  have len : ∀ {v : Int}, v = ((dec (e' 1)).length : Int) → v = (l.length : Int) := fun h => by rw [h, e1, hL]
  intro a6 _ a7 _
  have v6 := len a6
  have b7 := c_lt a7
  simp only [ev_var, ev_lit] at b7
  refine ⟨fun h => ?_, fun h => ?_⟩
  · have c7 := yes_ h b7
    have hit : (e' 4).toNat < l.length := by omega
    intro a104 _ a105 _ a106 _
    have v104 := len a104
    have b105 := c_le a105
    have b106 := c_lt a106
    simp only [ev_var, ev_lit] at b105 b106
    refine ⟨(show e' 105 ≠ 0 by omega), (show e' 106 ≠ 0 by omega), fun a152 _ => ⟨trivial, fun a248 _ a249 _ a250 _ a728 _ a729 _ => ?_⟩⟩
    have v152 : e' 152 = l.getD (e' 4).toNat 0 := by
      have : e' 152 = (dec (e' 1)).getD (e' 4).toNat 0 := a152
      rw [this, e1, hL]
    have v249 : e' 249 = e' 152 % rOf (e 0) := by
      have : e' 249 = ((kDivide f2).sem [e' 152, e' 2]).getD 1 0 := a249
      rw [this, e2]
      simp only [kDivide]
      rw [if_neg (by omega)]; rfl
    have v728 : e' 728 = ((dec (e' 5)).length : Int) := a728
    rw [i2, dec_enc, List.length_map, List.length_take] at v728
    have b729 := c_lt a729
    simp only [ev_var, ev_lit] at b729
    refine ⟨(show e' 729 ≠ 0 by omega), fun a730 _ a731 _ => ?_⟩
    have v730 : e' 730 = enc (dec (e' 5) ++ [e' 249]) := a730
    have v731 : e' 731 = e' 4 + 1 := by
      have : e' 731 = binE .add .i64 (e' 4) 1 := a731
      rw [this]; simp only [binE, wr]; omega
    show (0 ≤ e' 731 ∧ e' 731 ≤ l.length ∧ e' 730 = enc ((l.take (e' 731).toNat).map (· % rOf (e 0)))) ∧ (l.length - e' 731).toNat < (l.length - e' 4).toNat
    refine ⟨⟨by omega, by omega, ?_⟩, by omega⟩
    rw [v731, show (e' 4 + 1).toNat = (e' 4).toNat + 1 by omega, v730, i2, dec_enc, v249, v152, ← take_snoc hit, List.map_append]; rfl
  · have c7 := no_ h b7
    show [e' 5] = _
    rw [i2, List.take_of_length_le (by omega)]
/-! ### ids chosen -/
def upsL (n : Nat) : List Int := (List.range n).map fun (j : Nat) => (j : Int) + 1
theorem upsL_len (n : Nat) : (upsL n).length = n := by simp [upsL]
theorem upsL_next (n : Nat) : upsL (n + 1) = upsL n ++ [(n : Int) + 1] := by simp [upsL, List.range_succ]
def atC (x : List Int) (i : Nat) (left : List Int) : Nat := if i < x.length then (x.getD i 0 % (left.length : Int)).toNat else 0
def stepC (x : List Int) (i : Nat) (p : List Int × List Int) : List Int × List Int :=
  (p.1.take (atC x i p.1) ++ p.1.drop (atC x i p.1 + 1), p.2 ++ [p.1.getD (atC x i p.1) 0])
def chC (x : List Int) (n : Nat) : Nat → List Int × List Int
  | 0 => (upsL n, [])
  | i + 1 => stepC x i (chC x n i)
theorem atC_lt (x : List Int) (i : Nat) {left : List Int} (h : 0 < left.length) : atC x i left < left.length := by
  unfold atC
  split
  · have h0 := Int.emod_nonneg (x.getD i 0) (show (left.length : Int) ≠ 0 by omega)
    have h1 := Int.emod_lt_of_pos (x.getD i 0) (show 0 < (left.length : Int) by omega)
    omega
  · exact h
theorem chC_len (x : List Int) (n : Nat) : ∀ i, i ≤ n → (chC x n i).1.length = n - i ∧ (chC x n i).2.length = i
  | 0, _ => ⟨upsL_len n, rfl⟩
  | i + 1, h => by
    obtain ⟨h1, h2⟩ := chC_len x n i (by omega)
    have h3 := atC_lt x i (left := (chC x n i).1) (by omega)
    simp only [chC, stepC, List.length_append, List.length_take, List.length_drop, List.length_singleton]
    omega
theorem pick_perm {l : List Int} {a : Nat} (h : a < l.length) : (l.take a ++ l.drop (a + 1) ++ [l.getD a 0]).Perm l := by
  have e : l = l.take a ++ (l.getD a 0 :: l.drop (a + 1)) := by
    have h1 : l.drop a = l.getD a 0 :: l.drop (a + 1) := by
      rw [List.drop_eq_getElem_cons h, List.getD_eq_getElem?_getD, List.getElem?_eq_getElem h]; rfl
    rw [← h1, List.take_append_drop]
  conv => rhs; rw [e]
  rw [List.append_assoc]
  exact (List.perm_append_comm (l₁ := l.drop (a + 1)) (l₂ := [l.getD a 0])).append_left _
theorem chC_perm (x : List Int) (n : Nat) : ∀ i, i ≤ n → ((chC x n i).1 ++ (chC x n i).2).Perm (upsL n)
  | 0, _ => by simp [chC]
  | i + 1, h => by
    have ih := chC_perm x n i (by omega)
    have h3 := atC_lt x i (left := (chC x n i).1) (by have := (chC_len x n i (by omega)).1; omega)
    refine List.Perm.trans ?_ ih
    rw [show chC x n (i + 1) = stepC x i (chC x n i) from rfl]
    generalize (chC x n i) = p at *
    unfold stepC
    generalize atC x i p.1 = a at *
    have h4 := (pick_perm h3).append_right p.2
    refine List.Perm.trans ?_ h4
    show ((p.1.take a ++ p.1.drop (a + 1)) ++ (p.2 ++ [p.1.getD a 0])).Perm _
    rw [List.append_assoc (p.1.take a ++ p.1.drop (a + 1)) [p.1.getD a 0] p.2]
    exact (List.perm_append_comm (l₁ := p.2) (l₂ := [p.1.getD a 0])).append_left _
theorem upsL_ok {n : Nat} (h : n ≤ 1000) : idsOk (upsL n) := by
  intro z hz
  obtain ⟨j, hj, rfl⟩ := List.mem_map.1 hz
  have := List.mem_range.1 hj
  omega
theorem upsL_mem {n : Nat} {z : Int} (hz : z ∈ upsL n) : 1 ≤ z ∧ z ≤ n := by
  obtain ⟨j, hj, rfl⟩ := List.mem_map.1 hz
  have := List.mem_range.1 hj
  omega
theorem upsL_nodup (n : Nat) : (upsL n).Nodup := by
  induction n with
  | zero => simp [upsL]
  | succ n ih =>
    rw [upsL_next]
    refine List.nodup_append.2 ⟨ih, by simp, fun a ha b hb => ?_⟩
    have := upsL_mem ha
    rw [List.mem_singleton.1 hb]
    omega
theorem chC_nodup (x : List Int) {n i : Nat} (h : i ≤ n) : (chC x n i).2.Nodup := by
  have := (chC_perm x n i h).nodup_iff.2 (upsL_nodup n)
  exact (List.nodup_append.1 this).2.1
theorem chC_mem (x : List Int) {n i : Nat} (h : i ≤ n) {z : Int} (hz : z ∈ (chC x n i).2) : 1 ≤ z ∧ z ≤ n :=
  upsL_mem ((chC_perm x n i h).mem_iff.1 (List.mem_append_right _ hz))
theorem chC_nil (n : Nat) : ∀ i, i ≤ n → chC [] n i = ((upsL n).drop i, (upsL n).take i)
  | 0, _ => by simp [chC]
  | i + 1, h => by
    rw [chC, chC_nil n i (by omega)]
    have hl : i < (upsL n).length := by rw [upsL_len]; omega
    have h0 : atC [] i ((upsL n).drop i) = 0 := by simp [atC]
    unfold stepC
    simp only [h0, List.take_zero, List.nil_append, List.drop_drop, Nat.zero_add]
    refine Prod.ext (by rw [Nat.add_comm]) ?_
    show _ ++ [((upsL n).drop i).getD 0 0] = _
    rw [← take_snoc hl]
    congr 2
    rw [List.getD_eq_getElem?_getD, List.getElem?_drop, List.getD_eq_getElem?_getD, Nat.add_zero]
noncomputable def kChosen (ti : TypeId) (f : FuncId) : K := { fn := f, ext := false, ins := [iI, iI, iLi], outs := [.lst ti (.int .i64)], pre := fun | [k, n, _] => 0 ≤ k ∧ k ≤ n ∧ n ≤ 1000 | _ => False, sem := fun | [k, n, x] => [enc (chC (dec x) n.toNat k.toNat).2] | _ => [] }
def tChosen : Tree := (.loop [(.lit 1), (.lit 0)] [(.int .i64), (.lst (.int .i64))] 3
(.lett 5 .bit (.cmp .leq (.var 3) (.var 1))
(.split 5
 (.lett 6 (.int .i64) (.llen (.var 4))
 (.lett 7 .bit (.cmp .lss (.var 6) (.lit 4294967296))
 (.nz (.var 7)
 (.lett 8 (.lst (.int .i64)) (.lapp (.var 4) [(.var 3)])
 (.lett 9 (.int .i64) (.bin .add .i64 (.var 3) (.lit 1))
 (.back 0 [(.var 9), (.var 8)]))))))
 (.loop [(.lit 0), (.var 4), (.lit 0)] [(.int .i64), (.lst (.int .i64)), (.lst (.int .i64))] 6
 (.lett 9 .bit (.cmp .lss (.var 6) (.var 0))
 (.split 9
  (.lett 10 (.int .i64) (.llen (.var 2))
  (.lett 11 .bit (.cmp .lss (.var 6) (.var 10))
  (.split 11
   (.lett 12 (.int .i64) (.llen (.var 2))
   (.lett 13 .bit (.cmp .leq (.lit 0) (.var 6))
   (.lett 14 .bit (.cmp .lss (.var 6) (.var 12))
   (.nz (.var 13)
   (.nz (.var 14)
   (.lett 15 (.int .i64) (.lget (.var 2) (.var 6))
   (.lett 16 (.int .i64) (.llen (.var 7))
   (.req 0 [(.var 15), (.var 16)]
   (.lett 17 (.int .i64) (.app 0 0 [(.var 15), (.var 16)])
   (.lett 18 (.int .i64) (.llen (.var 7))
   (.lett 19 .bit (.cmp .leq (.lit 0) (.var 17))
   (.lett 20 .bit (.cmp .lss (.var 17) (.var 18))
   (.nz (.var 19)
   (.nz (.var 20)
   (.lett 21 (.int .i64) (.lget (.var 7) (.var 17))
   (.lett 22 (.int .i64) (.llen (.var 8))
   (.lett 23 .bit (.cmp .lss (.var 22) (.lit 4294967296))
   (.nz (.var 23)
   (.lett 24 (.lst (.int .i64)) (.lapp (.var 8) [(.var 21)])
   (.lett 25 (.int .i64) (.llen (.var 7))
   (.lett 26 .bit (.cmp .leq (.lit 0) (.lit 0))
   (.lett 27 .bit (.cmp .leq (.lit 0) (.var 17))
   (.lett 28 .bit (.cmp .leq (.var 17) (.var 25))
   (.nz (.var 26)
   (.nz (.var 27)
   (.nz (.var 28)
   (.lett 29 (.lst (.int .i64)) (.lsub (.var 7) (.lit 0) (.var 17))
   (.lett 30 (.int .i64) (.llen (.lit 0))
   (.lett 31 .bit (.cmp .lss (.var 30) (.lit 2147483648))
   (.lett 32 (.int .i64) (.llen (.var 29))
   (.lett 33 .bit (.cmp .lss (.var 32) (.lit 2147483648))
   (.nz (.var 31)
   (.nz (.var 33)
   (.lett 34 (.lst (.int .i64)) (.lcat (.lit 0) (.var 29))
   (.lett 35 (.int .i64) (.bin .add .i64 (.var 17) (.lit 1))
   (.lett 36 (.int .i64) (.llen (.var 7))
   (.lett 37 .bit (.cmp .leq (.lit 0) (.var 35))
   (.lett 38 .bit (.cmp .leq (.var 35) (.var 36))
   (.lett 39 .bit (.cmp .leq (.var 36) (.var 36))
   (.nz (.var 37)
   (.nz (.var 38)
   (.nz (.var 39)
   (.lett 40 (.lst (.int .i64)) (.lsub (.var 7) (.var 35) (.var 36))
   (.lett 41 (.int .i64) (.llen (.var 34))
   (.lett 42 .bit (.cmp .lss (.var 41) (.lit 2147483648))
   (.lett 43 (.int .i64) (.llen (.var 40))
   (.lett 44 .bit (.cmp .lss (.var 43) (.lit 2147483648))
   (.nz (.var 42)
   (.nz (.var 44)
   (.lett 45 (.lst (.int .i64)) (.lcat (.var 34) (.var 40))
   (.lett 46 (.int .i64) (.bin .add .i64 (.var 6) (.lit 1))
   (.back 1 [(.var 46), (.var 45), (.var 24)]))))))))))))))))))))))))))))))))))))))))))))))))))))
   (.lett 12 (.int .i64) (.llen (.var 7))
   (.lett 13 .bit (.cmp .leq (.lit 0) (.lit 0))
   (.lett 14 .bit (.cmp .lss (.lit 0) (.var 12))
   (.nz (.var 13)
   (.nz (.var 14)
   (.lett 15 (.int .i64) (.lget (.var 7) (.lit 0))
   (.lett 16 (.int .i64) (.llen (.var 8))
   (.lett 17 .bit (.cmp .lss (.var 16) (.lit 4294967296))
   (.nz (.var 17)
   (.lett 18 (.lst (.int .i64)) (.lapp (.var 8) [(.var 15)])
   (.lett 19 (.int .i64) (.llen (.var 7))
   (.lett 20 .bit (.cmp .leq (.lit 0) (.lit 0))
   (.lett 21 .bit (.cmp .leq (.lit 0) (.lit 0))
   (.lett 22 .bit (.cmp .leq (.lit 0) (.var 19))
   (.nz (.var 20)
   (.nz (.var 21)
   (.nz (.var 22)
   (.lett 23 (.lst (.int .i64)) (.lsub (.var 7) (.lit 0) (.lit 0))
   (.lett 24 (.int .i64) (.llen (.lit 0))
   (.lett 25 .bit (.cmp .lss (.var 24) (.lit 2147483648))
   (.lett 26 (.int .i64) (.llen (.var 23))
   (.lett 27 .bit (.cmp .lss (.var 26) (.lit 2147483648))
   (.nz (.var 25)
   (.nz (.var 27)
   (.lett 28 (.lst (.int .i64)) (.lcat (.lit 0) (.var 23))
   (.lett 29 (.int .i64) (.llen (.var 7))
   (.lett 30 .bit (.cmp .leq (.lit 0) (.lit 1))
   (.lett 31 .bit (.cmp .leq (.lit 1) (.var 29))
   (.lett 32 .bit (.cmp .leq (.var 29) (.var 29))
   (.nz (.var 30)
   (.nz (.var 31)
   (.nz (.var 32)
   (.lett 33 (.lst (.int .i64)) (.lsub (.var 7) (.lit 1) (.var 29))
   (.lett 34 (.int .i64) (.llen (.var 28))
   (.lett 35 .bit (.cmp .lss (.var 34) (.lit 2147483648))
   (.lett 36 (.int .i64) (.llen (.var 33))
   (.lett 37 .bit (.cmp .lss (.var 36) (.lit 2147483648))
   (.nz (.var 35)
   (.nz (.var 37)
   (.lett 38 (.lst (.int .i64)) (.lcat (.var 28) (.var 33))
   (.lett 39 (.int .i64) (.bin .add .i64 (.var 6) (.lit 1))
   (.back 1 [(.var 39), (.var 38), (.var 18)])))))))))))))))))))))))))))))))))))))))))))))
  (.ret [(.var 8)])))))))
set_option maxHeartbeats 4000000 in
theorem law_chosen (ti : TypeId) (f1 f : FuncId) (e : Nat → Int) (hk : kkHas [.int .i64, .int .i64, .lst (.int .i64)] [e 0, e 1, e 2]) (hp : (kChosen ti f).pre [e 0, e 1, e 2]) : tChosen.says [kPick f1] ⟨fun ys => ys = (kChosen ti f).sem [e 0, e 1, e 2], []⟩ e := by
  obtain ⟨p0, p1, p2⟩ : 0 ≤ e 0 ∧ e 0 ≤ e 1 ∧ e 1 ≤ 1000 := hp
  have hxl : (dec (e 2)).length ≤ 9223372036854775807 := hk.2.2.1.1
  show tChosen.says [kPick f1] ⟨fun ys => ys = [enc (chC (dec (e 2)) (e 1).toNat (e 0).toNat).2], []⟩ e
  generalize hL : dec (e 2) = x at *
  refine ⟨fun | [i, l] => 1 ≤ i ∧ i ≤ e 1 + 1 ∧ l = enc (upsL (i - 1).toNat) | _ => False, fun | [i, _] => (e 1 + 1 - i).toNat | _ => 0, ⟨Int.le_refl _, (show (1 : Int) ≤ e 1 + 1 by omega), rfl⟩, fun e' he hkk hI => ?_⟩
  obtain ⟨i0, i1, i2⟩ : 1 ≤ e' 3 ∧ e' 3 ≤ e 1 + 1 ∧ e' 4 = enc (upsL (e' 3 - 1).toNat) := hI
  have e0 := he 0 (by decide)
  have e1 := he 1 (by decide)
  have e2 := he 2 (by decide)
  intro a5 _
  have b5 := c_le a5
  simp only [ev_var, ev_lit] at b5
  refine ⟨fun h => ?_, fun h => ?_⟩
  · have c5 := yes_ h b5
    intro a6 _ a7 _
    have v6 : e' 6 = ((dec (e' 4)).length : Int) := a6
    rw [i2, dec_enc, upsL_len] at v6
    have b7 := c_lt a7
    simp only [ev_var, ev_lit] at b7
    refine ⟨(show e' 7 ≠ 0 by omega), fun a8 _ a9 _ => ?_⟩
    have v8 : e' 8 = enc (dec (e' 4) ++ [e' 3]) := a8
    have v9 : e' 9 = e' 3 + 1 := by
      have : e' 9 = binE .add .i64 (e' 3) 1 := a9
      rw [this]; simp only [binE, wr]; omega
    show (1 ≤ e' 9 ∧ e' 9 ≤ e 1 + 1 ∧ e' 8 = enc (upsL (e' 9 - 1).toNat)) ∧ (e 1 + 1 - e' 9).toNat < (e 1 + 1 - e' 3).toNat
    refine ⟨⟨by omega, by omega, ?_⟩, by omega⟩
    rw [v8, i2, dec_enc, v9, show (e' 3 + 1 - 1).toNat = (e' 3 - 1).toNat + 1 by omega, upsL_next, show ((e' 3 - 1).toNat : Int) + 1 = e' 3 by omega]
  · have c5 := no_ h b5
    have v4 : e' 4 = enc (upsL (e 1).toNat) := by rw [i2, show (e' 3 - 1).toNat = (e 1).toNat by omega]
    obtain ⟨n, hn⟩ : ∃ n, n = (e 1).toNat := ⟨_, rfl⟩
    rw [← hn] at v4 ⊢
    refine ⟨fun | [i, l, o] => 0 ≤ i ∧ i ≤ e 0 ∧ l = enc (chC x n i.toNat).1 ∧ o = enc (chC x n i.toNat).2 | _ => False, fun | [i, _, _] => (e 0 - i).toNat | _ => 0, ⟨Int.le_refl _, p0, v4, rfl⟩, fun e'' he' hkk' hI' => ?_⟩
    obtain ⟨j0, j1, j2, j3⟩ : 0 ≤ e'' 6 ∧ e'' 6 ≤ e 0 ∧ e'' 7 = enc (chC x n (e'' 6).toNat).1 ∧ e'' 8 = enc (chC x n (e'' 6).toNat).2 := hI'
    have f0 := (he' 0 (by decide)).trans e0
    have f2 := (he' 2 (by decide)).trans e2
    have lenx : ∀ {v : Int}, v = ((dec (e'' 2)).length : Int) → v = (x.length : Int) := fun h => by rw [h, f2, hL]
    obtain ⟨i, hi⟩ : ∃ i, i = (e'' 6).toNat := ⟨_, rfl⟩
    have hin : i ≤ n := by omega
    obtain ⟨l1, l2⟩ := chC_len x n i hin
    rw [← hi] at j2 j3
    have d7 : dec (e'' 7) = (chC x n i).1 := by rw [j2, dec_enc]
    have d8 : dec (e'' 8) = (chC x n i).2 := by rw [j3, dec_enc]
    have len7 : ∀ {v : Int}, v = ((dec (e'' 7)).length : Int) → v = (n : Int) - i := fun h => by rw [h, d7, l1]; omega
    have len8 : ∀ {v : Int}, v = ((dec (e'' 8)).length : Int) → v = (i : Int) := fun h => by rw [h, d8, l2]
    intro a9 _
    have b9 := c_lt a9
    simp only [ev_var, ev_lit] at b9
    refine ⟨fun h => ?_, fun h => ?_⟩
    · have c9 := yes_ h b9
      intro a10 _ a11 _
      have v10 := lenx a10
      have b11 := c_lt a11
      simp only [ev_var, ev_lit] at b11
      -- what a round leaves
      have fin : ∀ (a : Nat) (v l' o' : Int), a = atC x i (chC x n i).1 → v = e'' 6 + 1 → l' = enc ((chC x n i).1.take a ++ (chC x n i).1.drop (a + 1)) → o' = enc ((chC x n i).2 ++ [(chC x n i).1.getD a 0]) →
          (0 ≤ v ∧ v ≤ e 0 ∧ l' = enc (chC x n v.toNat).1 ∧ o' = enc (chC x n v.toNat).2) ∧ (e 0 - v).toNat < (e 0 - e'' 6).toNat := fun a v l' o' ha hv hl' ho' => by
        subst ha
        have e1 : v.toNat = i + 1 := by omega
        rw [e1]
        exact ⟨⟨by omega, by omega, hl', ho'⟩, by omega⟩
      refine ⟨fun h => ?_, fun h => ?_⟩
      · have c11 := yes_ h b11
        intro a12 _ a13 _ a14 _
        have v12 := lenx a12
        have b13 := c_le a13
        have b14 := c_lt a14
        simp only [ev_var, ev_lit] at b13 b14
        refine ⟨(show e'' 13 ≠ 0 by omega), (show e'' 14 ≠ 0 by omega), fun a15 _ a16 _ => ⟨trivial, fun a17 _ => ?_⟩⟩
        have v15 : e'' 15 = x.getD i 0 := by
          have : e'' 15 = (dec (e'' 2)).getD (e'' 6).toNat 0 := a15
          rw [this, f2, hL, hi]
        have v16 := len7 a16
        have h17 : (e'' 17).toNat = atC x i (chC x n i).1 ∧ 0 ≤ e'' 17 ∧ e'' 17 < (n : Int) - i := by
          have h1 : e'' 17 = if e'' 16 < 1 then 0 else e'' 15 % e'' 16 := a17
          rw [if_neg (by omega), v15, v16] at h1
          have hlt := atC_lt x i (left := (chC x n i).1) (by omega)
          have h2 : (e'' 17).toNat = atC x i (chC x n i).1 := by
            unfold atC
            rw [if_pos (by omega), h1, l1, show ((n - i : Nat) : Int) = (n : Int) - i by omega]
          have h3 := Int.emod_nonneg (x.getD i 0) (show (n : Int) - i ≠ 0 by omega)
          refine ⟨h2, by omega, by omega⟩
        obtain ⟨a, hA⟩ : ∃ a, a = (e'' 17).toNat := ⟨_, rfl⟩
        intro a18 _ a19 _ a20 _
        have v18 := len7 a18
        have b19 := c_le a19
        have b20 := c_lt a20
        simp only [ev_var, ev_lit] at b19 b20
        refine ⟨(show e'' 19 ≠ 0 by omega), (show e'' 20 ≠ 0 by omega), fun a21 _ a22 _ a23 _ => ?_⟩
        have v21 : e'' 21 = (chC x n i).1.getD a 0 := by
          have : e'' 21 = (dec (e'' 7)).getD (e'' 17).toNat 0 := a21
          rw [this, d7, hA]
        have v22 := len8 a22
        have b23 := c_lt a23
        simp only [ev_var, ev_lit] at b23
        refine ⟨(show e'' 23 ≠ 0 by omega), fun a24 _ a25 _ a26 _ a27 _ a28 _ => ?_⟩
        have v24 : e'' 24 = enc ((chC x n i).2 ++ [(chC x n i).1.getD a 0]) := by
          have : e'' 24 = enc (dec (e'' 8) ++ [e'' 21]) := a24
          rw [this, d8, v21]
        have v25 := len7 a25
        have b26 := c_le a26
        have b27 := c_le a27
        have b28 := c_le a28
        simp only [ev_var, ev_lit] at b26 b27 b28
        refine ⟨(show e'' 26 ≠ 0 by omega), (show e'' 27 ≠ 0 by omega), (show e'' 28 ≠ 0 by omega), fun a29 _ a30 _ a31 _ a32 _ a33 _ => ?_⟩
        have v29 : dec (e'' 29) = (chC x n i).1.take a := by
          have : e'' 29 = enc (((dec (e'' 7)).take (e'' 17).toNat).drop (0 : Int).toNat) := a29
          rw [this, dec_enc, d7, hA]; rfl
        have v30 : e'' 30 = 0 := by
          have : e'' 30 = ((dec 0).length : Int) := a30
          rw [this, dec_zero]; rfl
        have b31 := c_lt a31
        have v32 : e'' 32 = ((dec (e'' 29)).length : Int) := a32
        rw [v29, List.length_take, l1] at v32
        have b33 := c_lt a33
        simp only [ev_var, ev_lit] at b31 b33
        refine ⟨(show e'' 31 ≠ 0 by omega), (show e'' 33 ≠ 0 by omega), fun a34 _ a35 _ a36 _ a37 _ a38 _ a39 _ => ?_⟩
        have v34 : dec (e'' 34) = (chC x n i).1.take a := by
          have : e'' 34 = enc (dec 0 ++ dec (e'' 29)) := a34
          rw [this, dec_enc, v29, dec_zero, List.nil_append]
        have v35 : e'' 35 = e'' 17 + 1 := by
          have : e'' 35 = binE .add .i64 (e'' 17) 1 := a35
          rw [this]; simp only [binE, wr]; omega
        have v36 := len7 a36
        have b37 := c_le a37
        have b38 := c_le a38
        have b39 := c_le a39
        simp only [ev_var, ev_lit] at b37 b38 b39
        refine ⟨(show e'' 37 ≠ 0 by omega), (show e'' 38 ≠ 0 by omega), (show e'' 39 ≠ 0 by omega), fun a40 _ a41 _ a42 _ a43 _ a44 _ => ?_⟩
        have v40 : dec (e'' 40) = (chC x n i).1.drop (a + 1) := by
          have : e'' 40 = enc (((dec (e'' 7)).take (e'' 36).toNat).drop (e'' 35).toNat) := a40
          rw [this, dec_enc, d7, List.take_of_length_le (by rw [l1]; omega), v35, show (e'' 17 + 1).toNat = a + 1 by omega]
        have v41 : e'' 41 = ((dec (e'' 34)).length : Int) := a41
        rw [v34, List.length_take, l1] at v41
        have b42 := c_lt a42
        have v43 : e'' 43 = ((dec (e'' 40)).length : Int) := a43
        rw [v40, List.length_drop, l1] at v43
        have b44 := c_lt a44
        simp only [ev_var, ev_lit] at b42 b44
        refine ⟨(show e'' 42 ≠ 0 by omega), (show e'' 44 ≠ 0 by omega), fun a45 _ a46 _ => ?_⟩
        have v45 : e'' 45 = enc ((chC x n i).1.take a ++ (chC x n i).1.drop (a + 1)) := by
          have : e'' 45 = enc (dec (e'' 34) ++ dec (e'' 40)) := a45
          rw [this, v34, v40]
        have v46 : e'' 46 = e'' 6 + 1 := by
          have : e'' 46 = binE .add .i64 (e'' 6) 1 := a46
          rw [this]; simp only [binE, wr]; omega
        exact fin a (e'' 46) (e'' 45) (e'' 24) (hA.trans h17.1) v46 v45 v24
      · have c11 := no_ h b11
        intro a12 _ a13 _ a14 _
        have v12 := len7 a12
        have b13 := c_le a13
        have b14 := c_lt a14
        simp only [ev_var, ev_lit] at b13 b14
        refine ⟨(show e'' 13 ≠ 0 by omega), (show e'' 14 ≠ 0 by omega), fun a15 _ a16 _ a17 _ => ?_⟩
        have v15 : e'' 15 = (chC x n i).1.getD 0 0 := by
          have : e'' 15 = (dec (e'' 7)).getD (0 : Int).toNat 0 := a15
          rw [this, d7]; rfl
        have v16 := len8 a16
        have b17 := c_lt a17
        simp only [ev_var, ev_lit] at b17
        refine ⟨(show e'' 17 ≠ 0 by omega), fun a18 _ a19 _ a20 _ a21 _ a22 _ => ?_⟩
        have v18 : e'' 18 = enc ((chC x n i).2 ++ [(chC x n i).1.getD 0 0]) := by
          have : e'' 18 = enc (dec (e'' 8) ++ [e'' 15]) := a18
          rw [this, d8, v15]
        have v19 := len7 a19
        have b20 := c_le a20
        have b21 := c_le a21
        have b22 := c_le a22
        simp only [ev_var, ev_lit] at b20 b21 b22
        refine ⟨(show e'' 20 ≠ 0 by omega), (show e'' 21 ≠ 0 by omega), (show e'' 22 ≠ 0 by omega), fun a23 _ a24 _ a25 _ a26 _ a27 _ => ?_⟩
        have v23 : dec (e'' 23) = [] := by
          have : e'' 23 = enc (((dec (e'' 7)).take (0 : Int).toNat).drop (0 : Int).toNat) := a23
          rw [this, dec_enc]; rfl
        have v24 : e'' 24 = 0 := by
          have : e'' 24 = ((dec 0).length : Int) := a24
          rw [this, dec_zero]; rfl
        have b25 := c_lt a25
        have v26 : e'' 26 = ((dec (e'' 23)).length : Int) := a26
        rw [v23] at v26
        have v26 : e'' 26 = 0 := v26
        have b27 := c_lt a27
        simp only [ev_var, ev_lit] at b25 b27
        refine ⟨(show e'' 25 ≠ 0 by omega), (show e'' 27 ≠ 0 by omega), fun a28 _ a29 _ a30 _ a31 _ a32 _ => ?_⟩
        have v28 : dec (e'' 28) = [] := by
          have : e'' 28 = enc (dec 0 ++ dec (e'' 23)) := a28
          rw [this, dec_enc, v23, dec_zero]; rfl
        have v29 := len7 a29
        have b30 := c_le a30
        have b31 := c_le a31
        have b32 := c_le a32
        simp only [ev_var, ev_lit] at b30 b31 b32
        refine ⟨(show e'' 30 ≠ 0 by omega), (show e'' 31 ≠ 0 by omega), (show e'' 32 ≠ 0 by omega), fun a33 _ a34 _ a35 _ a36 _ a37 _ => ?_⟩
        have v33 : dec (e'' 33) = (chC x n i).1.drop 1 := by
          have : e'' 33 = enc (((dec (e'' 7)).take (e'' 29).toNat).drop (1 : Int).toNat) := a33
          rw [this, dec_enc, d7, List.take_of_length_le (by rw [l1]; omega)]; rfl
        have v34 : e'' 34 = ((dec (e'' 28)).length : Int) := a34
        rw [v28] at v34
        have v34 : e'' 34 = 0 := v34
        have b35 := c_lt a35
        have v36 : e'' 36 = ((dec (e'' 33)).length : Int) := a36
        rw [v33, List.length_drop, l1] at v36
        have b37 := c_lt a37
        simp only [ev_var, ev_lit] at b35 b37
        refine ⟨(show e'' 35 ≠ 0 by omega), (show e'' 37 ≠ 0 by omega), fun a38 _ a39 _ => ?_⟩
        have v38 : e'' 38 = enc ((chC x n i).1.take 0 ++ (chC x n i).1.drop (0 + 1)) := by
          have : e'' 38 = enc (dec (e'' 28) ++ dec (e'' 33)) := a38
          rw [this, v28, v33]; rfl
        have v39 : e'' 39 = e'' 6 + 1 := by
          have : e'' 39 = binE .add .i64 (e'' 6) 1 := a39
          rw [this]; simp only [binE, wr]; omega
        exact fin 0 (e'' 39) (e'' 38) (e'' 18) (by unfold atC; rw [if_neg (by omega)]) v39 v38 v18
    · have c9 := no_ h b9
      show [e'' 8] = _
      rw [j3, show i = (e 0).toNat by omega]
end Go.Sx

/- Laws: ShareBack. -/
namespace Go.Sx
open Go Go.RowKit
set_option maxRecDepth 100000
set_option linter.unusedVariables false
set_option linter.unusedSimpArgs false
noncomputable def kAwake19 (f : FuncId) : K := { fn := f, ext := false, ins := [], outs := [oB], pre := fun _ => True, sem := fun _ => [1] }
theorem errSh_zero {s : Int} {ids l : List Int} {a : Int} (h1 : isS s) (h2 : ids.length ≤ 64) (h3 : l.length = ids.length) (h4 : allLt (rOf s) l) (h5 : idsOk ids) (h6 : ids.Nodup) (h7 : 0 ≤ a ∧ a ≤ 1000) : errSh s ids l a = 0 := by
  unfold errSh
  rw [if_neg (fun h => h h1), if_neg (by omega), if_neg (fun h => h h4)]
  unfold errPl
  rw [if_neg (by rintro (h | h | h | h); omega; omega; omega; exact h h5), if_neg (fun h => h h6)]
theorem semSJoin_ok {s : Int} {ids l : List Int} {x y a : Int} (hx : dec x = ids) (hy : dec y = l) (h : errSh s ids l a = 0) : semSJoin [s, x, y, a] = [joinV (rOf s) ids l a, 0] := by
  simp only [semSJoin]
  rw [hx, hy, if_pos h]
theorem semSVal_ok {s : Int} {l : List Int} {x a : Int} (hx : dec x = l) (h : errCo s l a = 0) : semSVal [s, x, a] = [polyV l a % rOf s, 0] := by
  simp only [semSVal]
  rw [hx, if_pos h]
theorem awake_val {x : Int} (hx : dec x = [5, 3, 2]) : semSVal [1, x, 2] = [19, 0] := by
  rw [semSVal_ok hx (by decide)]; decide
theorem awake_join {x y : Int} (hx : dec x = [1, 3]) (hy : dec y = [8, 14]) : semSJoin [1, x, y, 0] = [5, 0] := by
  have hs : isS 1 := ⟨by omega, by omega⟩
  rw [semSJoin_ok hx hy (by decide)]
  have h := interp (inv_all hs) (rOf_big hs) (ids := [1, 3]) (by decide) (by decide) [5, 3] (Nat.le_refl _) 0
  rw [show ([1, 3] : List Int).map (fun i => polyV [5, 3] i % rOf 1) = [8, 14] by decide] at h
  rw [h]; decide
def tAwake19 : Tree := (.lett 0 (.lst (.int .u64)) (.lapp (.lit 0) [(.lit 5), (.lit 3), (.lit 2)])
(.req 0 [(.var 0)]
(.lett 1 (.lst .num) (.app 0 0 [(.var 0)])
(.req 1 [(.lit 1), (.var 1), (.lit 2)]
(.lett 2 .num (.app 1 0 [(.lit 1), (.var 1), (.lit 2)])
(.lett 3 (.int .i64) (.app 1 1 [(.lit 1), (.var 1), (.lit 2)])
(.lett 4 (.lst (.int .u64)) (.lapp (.lit 0) [(.lit 8), (.lit 14)])
(.req 0 [(.var 4)]
(.lett 5 (.lst .num) (.app 0 0 [(.var 4)])
(.lett 6 (.lst (.int .i64)) (.lapp (.lit 0) [(.lit 1), (.lit 3)])
(.req 3 [(.lit 1), (.var 6), (.var 5), (.lit 0)]
(.lett 7 .num (.app 3 0 [(.lit 1), (.var 6), (.var 5), (.lit 0)])
(.lett 8 (.int .i64) (.app 3 1 [(.lit 1), (.var 6), (.var 5), (.lit 0)])
(.req 2 [(.lit 19)]
(.lett 57 .num (.app 2 0 [(.lit 19)])
(.lett 105 .bit (.eqs [((.limb 2 0), (.limb 57 0)), ((.limb 2 1), (.limb 57 1)), ((.limb 2 2), (.limb 57 2)), ((.limb 2 3), (.limb 57 3)), ((.limb 2 4), (.limb 57 4)), ((.limb 2 5), (.limb 57 5))])
(.split 105
 (.lett 249 .bit (.cmp .eql (.var 3) (.lit 0))
 (.split 249
  (.req 2 [(.lit 5)]
  (.lett 441 .num (.app 2 0 [(.lit 5)])
  (.lett 489 .bit (.eqs [((.limb 7 0), (.limb 441 0)), ((.limb 7 1), (.limb 441 1)), ((.limb 7 2), (.limb 441 2)), ((.limb 7 3), (.limb 441 3)), ((.limb 7 4), (.limb 441 4)), ((.limb 7 5), (.limb 441 5))])
  (.split 489
   (.lett 681 .bit (.cmp .eql (.var 8) (.lit 0))
   (.split 681
    (.req 4 [(.lit 4)]
    (.lett 825 (.int .i64) (.app 4 0 [(.lit 4)])
    (.lett 873 .bit (.cmp .eql (.var 825) (.lit 1))
    (.split 873
     (.req 4 [(.lit 3)]
     (.lett 1017 (.int .i64) (.app 4 0 [(.lit 3)])
     (.lett 1065 .bit (.cmp .eql (.var 1017) (.lit 0))
     (.ret [(.var 1065)]))))
     (.ret [(.lit 0)])))))
    (.ret [(.lit 0)])))
   (.ret [(.lit 0)])))))
  (.ret [(.lit 0)])))
 (.ret [(.lit 0)]))))))))))))))))))
theorem law_awake19 (te : TypeId) (f1 f2 f3 f4 f5 f : FuncId) (e : Nat → Int) : tAwake19.says [kSmall19 te f1, kSVal f2, kOf f3, kSJoin f4, kFaults f5] ⟨fun ys => ys = (kAwake19 f).sem [], []⟩ e := by
  show tAwake19.says [kSmall19 te f1, kSVal f2, kOf f3, kSJoin f4, kFaults f5] ⟨fun ys => ys = [1], []⟩ e
  intro a0 _
  have v0 : dec (e 0) = [5, 3, 2] := by
    have : e 0 = enc (dec 0 ++ [5, 3, 2]) := a0
    rw [this, dec_enc, dec_zero]; rfl
  refine ⟨(show (dec (e 0)).length ≤ 1000 by rw [v0]; decide), fun a1 _ => ⟨trivial, fun a2 k2 a3 _ a4 _ => ?_⟩⟩
  have v1 : dec (e 1) = [5, 3, 2] := by
    have : e 1 = enc (dec (e 0)) := a1
    rw [this, dec_enc, v0]
  have hv := awake_val v1
  have v2 : e 2 = 19 := by have : e 2 = (semSVal [1, e 1, 2]).getD 0 0 := a2; rw [this, hv]; rfl
  have v3 : e 3 = 0 := by have : e 3 = (semSVal [1, e 1, 2]).getD 1 0 := a3; rw [this, hv]; rfl
  have v4 : dec (e 4) = [8, 14] := by
    have : e 4 = enc (dec 0 ++ [8, 14]) := a4
    rw [this, dec_enc, dec_zero]; rfl
  refine ⟨(show (dec (e 4)).length ≤ 1000 by rw [v4]; decide), fun a5 _ a6 _ => ⟨trivial, fun a7 k7 a8 _ => ⟨trivial, fun a57 k57 a105 _ => ?_⟩⟩⟩
  have v5 : dec (e 5) = [8, 14] := by
    have : e 5 = enc (dec (e 4)) := a5
    rw [this, dec_enc, v4]
  have v6 : dec (e 6) = [1, 3] := by
    have : e 6 = enc (dec 0 ++ [1, 3]) := a6
    rw [this, dec_enc, dec_zero]; rfl
  have hj := awake_join v6 v5
  have v7 : e 7 = 5 := by have : e 7 = (semSJoin [1, e 6, e 5, 0]).getD 0 0 := a7; rw [this, hj]; rfl
  have v8 : e 8 = 0 := by have : e 8 = (semSJoin [1, e 6, e 5, 0]).getD 1 0 := a8; rw [this, hj]; rfl
  have v57 : e 57 = 19 := a57
  have b105 := c_num a105 k2 k57
  refine ⟨fun h => ?_, fun h => ?_⟩
  · intro a249 _
    have b249 := c_eq a249
    simp only [ev_var, ev_lit] at b249
    refine ⟨fun h => ?_, fun h => ?_⟩
    · refine ⟨trivial, fun a441 k441 a489 _ => ?_⟩
      have v441 : e 441 = 5 := a441
      have b489 := c_num a489 k7 k441
      refine ⟨fun h => ?_, fun h => ?_⟩
      · intro a681 _
        have b681 := c_eq a681
        simp only [ev_var, ev_lit] at b681
        refine ⟨fun h => ?_, fun h => ?_⟩
        · refine ⟨trivial, fun a825 _ a873 _ => ?_⟩
          have v825 : e 825 = 1 := a825
          have b873 := c_eq a873
          simp only [ev_var, ev_lit] at b873
          refine ⟨fun h => ?_, fun h => ?_⟩
          · refine ⟨trivial, fun a1017 _ a1065 _ => ?_⟩
            have v1017 : e 1017 = 0 := a1017
            have b1065 := c_eq a1065
            simp only [ev_var, ev_lit] at b1065
            show [e 1065] = [1]
            rw [show e 1065 = 1 by omega]
          · have := no_ h b873; omega
        · have := no_ h b681; omega
      · have := no_ h b489; omega
    · have := no_ h b249; omega
  · have := no_ h b105; omega
noncomputable def kBack (f : FuncId) : K := { fn := f, ext := false, ins := [iI, iL, iLi, iI], outs := [oB], pre := fun _ => True, sem := fun _ => [1] }
theorem sharesV_ups (r : Int) (c : List Int) (n : Nat) : sharesV r c n = (upsL n).map fun z => polyV c z % r := by simp [sharesV, upsL, List.map_map, Function.comp]
theorem upsL_take {n N : Nat} (h : n ≤ N) : (upsL N).take n = upsL n := by
  unfold upsL
  rw [← List.map_take, List.take_range, Nat.min_eq_left h]
theorem upsL_get {i N : Nat} (h : i < N) : (upsL N).getD i 0 = (i : Int) + 1 := by
  unfold upsL
  rw [List.getD_eq_getElem?_getD, List.getElem?_map, List.getElem?_range h]; rfl
theorem map_getD {f : Int → Int} {l : List Int} {i : Nat} (h : i < l.length) : (l.map f).getD i 0 = f (l.getD i 0) := by
  rw [List.getD_eq_getElem?_getD, List.getD_eq_getElem?_getD, List.getElem?_map, List.getElem?_eq_getElem h]; rfl
theorem allLt_mod {r : Int} (hr : 0 < r) (l : List Int) (f : Int → Int) : allLt r (l.map fun z => f z % r) := by
  intro z hz
  obtain ⟨i, _, rfl⟩ := List.mem_map.1 hz
  exact Int.emod_lt_of_pos _ hr
theorem fit_back {r : Int} (h : Inv r) (hr : 1000 < r) (c : List Int) {N : Nat} (hN : c.length ≤ N) (hN2 : N ≤ 1000) : fitV r (upsL N) (sharesV r c N) c.length := by
  intro i h1 h2
  rw [upsL_len] at h2
  rw [sharesV_ups, upsL_take hN, ← List.map_take, upsL_take hN, upsL_get h2, map_getD (by rw [upsL_len]; exact h2), upsL_get h2]
  exact interp h hr (upsL_ok (by omega)) (upsL_nodup _) c (by rw [upsL_len]; exact Nat.le_refl _) _
def tBack : Tree := (.req 0 []
(.lett 4 .bit (.app 0 0 [])
(.lett 5 .bit (.cmp .lss (.var 0) (.lit 0))
(.split 5
 (.ret [(.var 4)])
 (.lett 6 .bit (.cmp .gtr (.var 0) (.lit 2))
 (.split 6
  (.ret [(.var 4)])
  (.lett 7 (.int .i64) (.llen (.var 1))
  (.lett 8 .bit (.cmp .eql (.var 7) (.lit 0))
  (.split 8
   (.ret [(.var 4)])
   (.lett 9 (.int .i64) (.llen (.var 1))
   (.lett 10 .bit (.cmp .gtr (.var 9) (.lit 10))
   (.split 10
    (.ret [(.var 4)])
    (.req 1 [(.var 0), (.var 1)]
    (.lett 11 (.lst .num) (.app 1 0 [(.var 0), (.var 1)])
    (.lett 12 (.int .i64) (.llen (.var 11))
    (.lett 13 (.int .i64) (.bin .add .i64 (.var 12) (.lit 3))
    (.req 2 [(.var 0), (.var 11), (.var 13)]
    (.lett 14 (.lst .num) (.app 2 0 [(.var 0), (.var 11), (.var 13)])
    (.lett 15 (.int .i64) (.app 2 1 [(.var 0), (.var 11), (.var 13)])
    (.lett 16 .bit (.cmp .neq (.var 15) (.lit 0))
    (.split 16
     (.ret [(.lit 0)])
     (.lett 17 (.int .i64) (.llen (.var 14))
     (.lett 18 (.int .i64) (.llen (.var 11))
     (.lett 19 (.int .i64) (.bin .add .i64 (.var 18) (.lit 3))
     (.lett 20 .bit (.cmp .neq (.var 17) (.var 19))
     (.split 20
      (.ret [(.lit 0)])
      (.lett 21 (.int .i64) (.llen (.var 11))
      (.lett 22 (.int .i64) (.llen (.var 14))
      (.req 3 [(.var 21), (.var 22), (.var 2)]
      (.lett 23 (.lst (.int .i64)) (.app 3 0 [(.var 21), (.var 22), (.var 2)])
      (.loop [(.lit 0), (.lit 0)] [(.int .i64), (.lst .num)] 24
      (.lett 26 (.int .i64) (.llen (.var 23))
      (.lett 27 .bit (.cmp .lss (.var 24) (.var 26))
      (.split 27
       (.lett 28 (.int .i64) (.llen (.var 23))
       (.lett 29 .bit (.cmp .leq (.lit 0) (.var 24))
       (.lett 30 .bit (.cmp .lss (.var 24) (.var 28))
       (.nz (.var 29)
       (.nz (.var 30)
       (.lett 31 (.int .i64) (.lget (.var 23) (.var 24))
       (.lett 32 (.int .i64) (.bin .sub .i64 (.var 31) (.lit 1))
       (.lett 33 (.int .i64) (.llen (.var 14))
       (.lett 34 .bit (.cmp .leq (.lit 0) (.var 32))
       (.lett 35 .bit (.cmp .lss (.var 32) (.var 33))
       (.nz (.var 34)
       (.nz (.var 35)
       (.lett 36 .num (.lget (.var 14) (.var 32))
       (.lett 37 (.int .i64) (.llen (.var 25))
       (.lett 38 .bit (.cmp .lss (.var 37) (.lit 4294967296))
       (.nz (.var 38)
       (.lett 39 (.lst .num) (.lapp (.var 25) [(.var 36)])
       (.lett 40 (.int .i64) (.bin .add .i64 (.var 24) (.lit 1))
       (.back 0 [(.var 40), (.var 39)])))))))))))))))))))
       (.req 4 [(.var 3), (.lit 41)]
       (.lett 28 (.int .i64) (.app 4 0 [(.var 3), (.lit 41)])
       (.req 5 [(.var 0), (.var 23), (.var 25), (.var 28)]
       (.lett 29 .num (.app 5 0 [(.var 0), (.var 23), (.var 25), (.var 28)])
       (.lett 30 (.int .i64) (.app 5 1 [(.var 0), (.var 23), (.var 25), (.var 28)])
       (.req 6 [(.var 0), (.var 11), (.var 28)]
       (.lett 31 .num (.app 6 0 [(.var 0), (.var 11), (.var 28)])
       (.lett 32 (.int .i64) (.app 6 1 [(.var 0), (.var 11), (.var 28)])
       (.lett 33 (.int .i64) (.llen (.var 14))
       (.lett 34 (.int .i64) (.llen (.var 14))
       (.req 3 [(.var 33), (.var 34), (.lit 0)]
       (.lett 35 (.lst (.int .i64)) (.app 3 0 [(.var 33), (.var 34), (.lit 0)])
       (.lett 36 (.int .i64) (.llen (.var 11))
       (.lett 37 (.int .i64) (.bin .sub .i64 (.var 36) (.lit 1))
       (.req 7 [(.var 0), (.var 35), (.var 14), (.var 37)]
       (.lett 38 .bit (.app 7 0 [(.var 0), (.var 35), (.var 14), (.var 37)])
       (.lett 39 (.int .i64) (.app 7 1 [(.var 0), (.var 35), (.var 14), (.var 37)])
       (.split 4
        (.lett 40 .bit (.cmp .eql (.var 30) (.lit 0))
        (.split 40
         (.lett 41 .bit (.cmp .eql (.var 32) (.lit 0))
         (.split 41
          (.lett 42 .bit (.cmp .eql (.var 39) (.lit 0))
          (.split 42
           (.lett 43 .bit (.eqs [((.limb 29 0), (.limb 31 0)), ((.limb 29 1), (.limb 31 1)), ((.limb 29 2), (.limb 31 2)), ((.limb 29 3), (.limb 31 3)), ((.limb 29 4), (.limb 31 4)), ((.limb 29 5), (.limb 31 5))])
           (.split 43
            (.ret [(.var 38)])
            (.ret [(.lit 0)])))
           (.ret [(.lit 0)])))
          (.ret [(.lit 0)])))
         (.ret [(.lit 0)])))
        (.ret [(.lit 0)])))))))))))))))))))))))))))))))))))))))))))))))))))))
set_option maxHeartbeats 4000000 in
theorem law_back (te ti : TypeId) (f0 f1 f2 f3 f4 f5 f6 f7 f : FuncId) (e : Nat → Int) : tBack.says [kAwake19 f0, kScl te f1, kSplit te f2, kChosen ti f3, kPick f4, kSJoin f5, kSVal f6, kSFit f7] ⟨fun ys => ys = (kBack f).sem [e 0, e 1, e 2, e 3], []⟩ e := by
  show tBack.says [kAwake19 f0, kScl te f1, kSplit te f2, kChosen ti f3, kPick f4, kSJoin f5, kSVal f6, kSFit f7] ⟨fun ys => ys = [1], []⟩ e
  refine ⟨trivial, fun a4 _ a5 _ => ?_⟩
  have v4 : e 4 = 1 := a4
  have b5 := c_lt a5
  simp only [ev_var, ev_lit] at b5
  have ok : [e 4] = [1] := by rw [v4]
  refine ⟨fun _ => ok, fun h => ?_⟩
  have c5 := no_ h b5
  intro a6 _
  have b6 := c_gt a6
  simp only [ev_var, ev_lit] at b6
  refine ⟨fun _ => ok, fun h => ?_⟩
  have c6 := no_ h b6
  have hs : isS (e 0) := ⟨by omega, by omega⟩
  have hr := rOf_big hs
  have hI := inv_all hs
  generalize hL : dec (e 1) = x at *
  intro a7 _ a8 _
  have v7 : e 7 = (x.length : Int) := by have : e 7 = ((dec (e 1)).length : Int) := a7; rw [this, hL]
  have b8 := c_eq a8
  simp only [ev_var, ev_lit] at b8
  refine ⟨fun _ => ok, fun h => ?_⟩
  have c8 := no_ h b8
  intro a9 _ a10 _
  have v9 : e 9 = (x.length : Int) := by have : e 9 = ((dec (e 1)).length : Int) := a9; rw [this, hL]
  have b10 := c_gt a10
  simp only [ev_var, ev_lit] at b10
  refine ⟨fun _ => ok, fun h => ?_⟩
  have c10 := no_ h b10
  refine ⟨⟨hs, (show (dec (e 1)).length ≤ 1000 by rw [hL]; omega)⟩, fun a11 _ a12 _ a13 _ => ⟨trivial, fun a14 _ a15 _ a16 _ => ?_⟩⟩
  generalize hR : rOf (e 0) = r at *
  obtain ⟨c, hc⟩ : ∃ c, c = x.map (· % r) := ⟨_, rfl⟩
  have hcl : c.length = x.length := by rw [hc, List.length_map]
  have d11 : dec (e 11) = c := by
    have : e 11 = enc ((dec (e 1)).map (· % rOf (e 0))) := a11
    rw [this, dec_enc, hL, hR, hc]
  have hlt : allLt r c := by rw [hc]; exact allLt_mod (by omega) x (fun z => z)
  have v12 : e 12 = (c.length : Int) := by have : e 12 = ((dec (e 11)).length : Int) := a12; rw [this, d11]
  have v13 : e 13 = e 12 + 3 := by
    have : e 13 = binE .add .i64 (e 12) 3 := a13
    rw [this]; simp only [binE, wr]; omega
  obtain ⟨N, hN⟩ : ∃ N, N = c.length + 3 := ⟨_, rfl⟩
  have hco : ∀ a : Int, 0 ≤ a ∧ a ≤ 1000 → errCo (e 0) c a = 0 := fun a ha => by
    unfold errCo
    rw [if_neg (fun h => h hs), if_neg (by omega), if_neg (by rintro (h | h | h); exact h (by rw [hR]; exact hlt); omega; omega)]
  have hsp : semSplit [e 0, e 11, e 13] = [enc (sharesV r c N), 0] := by
    simp only [semSplit]
    have h0 : errSp (e 0) (dec (e 11)) (e 13) = 0 := by
      unfold errSp
      rw [d11, hco 0 ⟨by omega, by omega⟩, if_neg (by omega), if_neg (by omega)]
    rw [if_pos h0, d11, hR, show (e 13).toNat = N by omega]
  have d14 : dec (e 14) = sharesV r c N := by
    have : e 14 = (semSplit [e 0, e 11, e 13]).getD 0 0 := a14
    rw [this, hsp]
    show dec (enc _) = _
    rw [dec_enc]
  have v15 : e 15 = 0 := by
    have : e 15 = (semSplit [e 0, e 11, e 13]).getD 1 0 := a15
    rw [this, hsp]; rfl
  have b16 := c_ne a16
  simp only [ev_var, ev_lit] at b16
  refine ⟨fun h => absurd v15 (yes_ h b16), fun _ => ?_⟩
  intro a17 _ a18 _ a19 _ a20 _
  have v17 : e 17 = (N : Int) := by have : e 17 = ((dec (e 14)).length : Int) := a17; rw [this, d14, sharesV_len]
  have v18 : e 18 = (c.length : Int) := by have : e 18 = ((dec (e 11)).length : Int) := a18; rw [this, d11]
  have v19 : e 19 = e 18 + 3 := by
    have : e 19 = binE .add .i64 (e 18) 3 := a19
    rw [this]; simp only [binE, wr]; omega
  have b20 := c_ne a20
  simp only [ev_var, ev_lit] at b20
  refine ⟨fun h => absurd (show e 17 = e 19 by omega) (yes_ h b20), fun _ => ?_⟩
  intro a21 _ a22 _
  have v21 : e 21 = (c.length : Int) := by have : e 21 = ((dec (e 11)).length : Int) := a21; rw [this, d11]
  have v22 : e 22 = (N : Int) := by have : e 22 = ((dec (e 14)).length : Int) := a22; rw [this, d14, sharesV_len]
  refine ⟨(show 0 ≤ e 21 ∧ e 21 ≤ e 22 ∧ e 22 ≤ 1000 by omega), fun a23 _ => ?_⟩
  obtain ⟨ids, hids⟩ : ∃ ids, ids = (chC (dec (e 2)) N c.length).2 := ⟨_, rfl⟩
  have d23 : dec (e 23) = ids := by
    have : e 23 = enc (chC (dec (e 2)) (e 22).toNat (e 21).toNat).2 := a23
    rw [this, dec_enc, v22, v21, Int.toNat_natCast, Int.toNat_natCast, hids]
  have idl : ids.length = c.length := by rw [hids]; exact (chC_len _ N _ (by omega)).2
  have idn : ids.Nodup := by rw [hids]; exact chC_nodup _ (by omega)
  have idm : ∀ z ∈ ids, 1 ≤ z ∧ z ≤ N := fun z hz => chC_mem (dec (e 2)) (n := N) (i := c.length) (by omega) (by rw [← hids]; exact hz)
  have ido : idsOk ids := fun z hz => by have := idm z hz; omega
  refine ⟨fun | [i, l] => 0 ≤ i ∧ i ≤ ids.length ∧ l = enc ((ids.take i.toNat).map fun z => polyV c z % r) | _ => False, fun | [i, _] => (ids.length - i).toNat | _ => 0, ⟨Int.le_refl _, (show (0 : Int) ≤ ids.length by omega), rfl⟩, fun e' he hkk hI' => ?_⟩
  obtain ⟨i0, i1, i2⟩ : 0 ≤ e' 24 ∧ e' 24 ≤ ids.length ∧ e' 25 = enc ((ids.take (e' 24).toNat).map fun z => polyV c z % r) := hI'
  have g0 := he 0 (by decide)
  have g4 := (he 4 (by decide)).trans v4
  have g11 : dec (e' 11) = c := by rw [he 11 (by decide)]; exact d11
  have g14 : dec (e' 14) = sharesV r c N := by rw [he 14 (by decide)]; exact d14
  have g23 : dec (e' 23) = ids := by rw [he 23 (by decide)]; exact d23
  have len23 : ∀ {v : Int}, v = ((dec (e' 23)).length : Int) → v = (ids.length : Int) := fun h => by rw [h, g23]
  have len14 : ∀ {v : Int}, v = ((dec (e' 14)).length : Int) → v = (N : Int) := fun h => by rw [h, g14, sharesV_len]
  intro a26 _ a27 _
  have v26 := len23 a26
  have b27 := c_lt a27
  simp only [ev_var, ev_lit] at b27
  refine ⟨fun h => ?_, fun h => ?_⟩
  · have c27 := yes_ h b27
    have hit : (e' 24).toNat < ids.length := by omega
    intro a28 _ a29 _ a30 _
    have v28 := len23 a28
    have b29 := c_le a29
    have b30 := c_lt a30
    simp only [ev_var, ev_lit] at b29 b30
    refine ⟨(show e' 29 ≠ 0 by omega), (show e' 30 ≠ 0 by omega), fun a31 _ a32 _ a33 _ a34 _ a35 _ => ?_⟩
    have v31 : e' 31 = ids.getD (e' 24).toNat 0 := by
      have : e' 31 = (dec (e' 23)).getD (e' 24).toNat 0 := a31
      rw [this, g23]
    have hz := idm _ (getD_mem hit)
    rw [← v31] at hz
    have v32 : e' 32 = e' 31 - 1 := by
      have : e' 32 = binE .sub .i64 (e' 31) 1 := a32
      rw [this]; simp only [binE, wr]; omega
    have v33 := len14 a33
    have b34 := c_le a34
    have b35 := c_lt a35
    simp only [ev_var, ev_lit] at b34 b35
    refine ⟨(show e' 34 ≠ 0 by omega), (show e' 35 ≠ 0 by omega), fun a36 _ a37 _ a38 _ => ?_⟩
    have v36 : e' 36 = polyV c (e' 31) % r := by
      have : e' 36 = (dec (e' 14)).getD (e' 32).toNat 0 := a36
      rw [this, g14, sharesV_ups, map_getD (by rw [upsL_len]; omega), upsL_get (by omega), show ((e' 32).toNat : Int) + 1 = e' 31 by omega]
    have v37 : e' 37 = ((dec (e' 25)).length : Int) := a37
    rw [i2, dec_enc, List.length_map, List.length_take] at v37
    have b38 := c_lt a38
    simp only [ev_var, ev_lit] at b38
    refine ⟨(show e' 38 ≠ 0 by omega), fun a39 _ a40 _ => ?_⟩
    have v39 : e' 39 = enc (dec (e' 25) ++ [e' 36]) := a39
    have v40 : e' 40 = e' 24 + 1 := by
      have : e' 40 = binE .add .i64 (e' 24) 1 := a40
      rw [this]; simp only [binE, wr]; omega
    show (0 ≤ e' 40 ∧ e' 40 ≤ ids.length ∧ e' 39 = enc ((ids.take (e' 40).toNat).map fun z => polyV c z % r)) ∧ (ids.length - e' 40).toNat < (ids.length - e' 24).toNat
    refine ⟨⟨by omega, by omega, ?_⟩, by omega⟩
    rw [v40, show (e' 24 + 1).toNat = (e' 24).toNat + 1 by omega, v39, i2, dec_enc, v36, v31, ← take_snoc hit, List.map_append]; rfl
  · have c27 := no_ h b27
    have d25 : dec (e' 25) = ids.map fun z => polyV c z % r := by rw [i2, dec_enc, List.take_of_length_le (by omega)]
    refine ⟨trivial, fun a28 _ => ?_⟩
    have v28 : 0 ≤ e' 28 ∧ e' 28 ≤ 40 := by
      have : e' 28 = e' 3 % 41 := a28
      have h0 := Int.emod_nonneg (e' 3) (show (41 : Int) ≠ 0 by decide)
      have h1 := Int.emod_lt_of_pos (e' 3) (show (0 : Int) < 41 by decide)
      omega
    refine ⟨trivial, fun a29 k29 a30 _ => ⟨trivial, fun a31 k31 a32 _ a33 _ a34 _ => ?_⟩⟩
    have hj : semSJoin [e' 0, e' 23, e' 25, e' 28] = [polyV c (e' 28) % r, 0] := by
      rw [semSJoin_ok g23 d25 (by rw [g0]; exact errSh_zero hs (by omega) (by rw [List.length_map]) (by rw [hR]; exact allLt_mod (by omega) ids (polyV c)) ido idn (by omega)), g0, hR]
      rw [interp hI hr ido idn c (by omega)]
    have v29 : e' 29 = polyV c (e' 28) % r := by have : e' 29 = (semSJoin [e' 0, e' 23, e' 25, e' 28]).getD 0 0 := a29; rw [this, hj]; rfl
    have v30 : e' 30 = 0 := by have : e' 30 = (semSJoin [e' 0, e' 23, e' 25, e' 28]).getD 1 0 := a30; rw [this, hj]; rfl
    have hv : semSVal [e' 0, e' 11, e' 28] = [polyV c (e' 28) % r, 0] := by
      rw [semSVal_ok g11 (by rw [g0]; exact hco _ (by omega)), g0, hR]
    have v31 : e' 31 = polyV c (e' 28) % r := by have : e' 31 = (semSVal [e' 0, e' 11, e' 28]).getD 0 0 := a31; rw [this, hv]; rfl
    have v32 : e' 32 = 0 := by have : e' 32 = (semSVal [e' 0, e' 11, e' 28]).getD 1 0 := a32; rw [this, hv]; rfl
    have v33 := len14 a33
    have v34 := len14 a34
    refine ⟨(show 0 ≤ e' 33 ∧ e' 33 ≤ e' 34 ∧ e' 34 ≤ 1000 by omega), fun a35 _ a36 _ a37 _ => ⟨trivial, fun a38 _ a39 _ => ?_⟩⟩
    have d35 : dec (e' 35) = upsL N := by
      have : e' 35 = enc (chC (dec 0) (e' 34).toNat (e' 33).toNat).2 := a35
      rw [this, dec_enc, v33, v34, Int.toNat_natCast, dec_zero, chC_nil N N (Nat.le_refl _)]
      show (upsL N).take N = _
      exact upsL_take (Nat.le_refl _)
    have v36 : e' 36 = (c.length : Int) := by have : e' 36 = ((dec (e' 11)).length : Int) := a36; rw [this, g11]
    have v37 : e' 37 = e' 36 - 1 := by
      have : e' 37 = binE .sub .i64 (e' 36) 1 := a37
      rw [this]; simp only [binE, wr]; omega
    have hf : semSFit [e' 0, e' 35, e' 14, e' 37] = [1, 0] := by
      simp only [semSFit]
      have h0 : errSh (e' 0) (upsL N) (sharesV r c N) 0 = 0 := by
        rw [g0]
        exact errSh_zero hs (by rw [upsL_len]; omega) (by rw [sharesV_len, upsL_len]) (by rw [hR, sharesV_ups]; exact allLt_mod (by omega) _ (polyV c)) (upsL_ok (by omega)) (upsL_nodup _) (by omega)
      rw [d35, g14, h0, if_neg (by omega), if_neg (by omega), fitB_yes]
      rw [g0, hR, show (e' 37 + 1).toNat = c.length by omega]
      exact fit_back hI hr c (by omega) (by omega)
    have v38 : e' 38 = 1 := by have : e' 38 = (semSFit [e' 0, e' 35, e' 14, e' 37]).getD 0 0 := a38; rw [this, hf]; rfl
    have v39 : e' 39 = 0 := by have : e' 39 = (semSFit [e' 0, e' 35, e' 14, e' 37]).getD 1 0 := a39; rw [this, hf]; rfl
    refine ⟨fun _ => ?_, fun h => absurd h (show e' 4 ≠ 0 by omega)⟩
    intro a40 _
    have b40 := c_eq a40
    simp only [ev_var, ev_lit] at b40
    refine ⟨fun _ => ?_, fun h => absurd v30 (no_ h b40)⟩
    intro a41 _
    have b41 := c_eq a41
    simp only [ev_var, ev_lit] at b41
    refine ⟨fun _ => ?_, fun h => absurd v32 (no_ h b41)⟩
    intro a42 _
    have b42 := c_eq a42
    simp only [ev_var, ev_lit] at b42
    refine ⟨fun _ => ?_, fun h => absurd v39 (no_ h b42)⟩
    intro a43 _
    have b43 := c_num a43 k29 k31
    refine ⟨fun _ => ?_, fun h => absurd (v29.trans v31.symm) (no_ h b43)⟩
    show [e' 38] = [1]
    rw [v38]
end Go.Sx
