/- Laws: lent lists of numbers, and whether they were kept; a polynomial's value, its shares; how many nodes may be false. -/
import Derived.Test.YtlddchekkjjleaaGreatHd
set_option linter.unusedVariables false
set_option linter.unusedSimpArgs false
namespace Go.Sx
open Go Go.RowKit
set_option maxRecDepth 100000
set_option linter.unusedSimpArgs false
set_option linter.unusedVariables false
def pad (i : Int) : Int := 77 + 18446744073709551616 * i
/-- a list and what lies behind it -/
def lentL (l : List Int) : List Int := l ++ [pad l.length, pad (l.length + 1), pad (l.length + 2)]
noncomputable def kLentN (te : TypeId) (f : FuncId) : K := { fn := f, ext := false, ins := [.lst .num], outs := [.lent te .num], pre := fun | [x] => (dec x).length ≤ 1000 | _ => False, sem := fun | [x] => [enc (lentL (dec x)), ((dec x).length : Int)] | _ => [] }
noncomputable def kSameN (f : FuncId) : K := { fn := f, ext := false, ins := [.lst .num, .lst .num], outs := [oB], pre := fun _ => True, sem := fun | [x, y] => [bi (dec x = dec y)] | _ => [] }
noncomputable def kKeptN (f : FuncId) : K := { fn := f, ext := false, ins := [.lent .num, .lst .num], outs := [oB], pre := fun | [x, n, y] => (dec y).length ≤ 1000 | _ => False, sem := fun | [x, n, y] => [bi (n = ((dec y).length : Int) ∧ dec x = lentL (dec y))] | _ => [] }
def LentI (l : List Int) : List Int → Prop
  | [i, x] => (i = l.length ∧ x = enc (l ++ [0, 0, 0])) ∨ (i = l.length + 1 ∧ x = enc (l ++ [pad l.length, 0, 0])) ∨ (i = l.length + 2 ∧ x = enc (l ++ [pad l.length, pad (l.length + 1), 0])) ∨ (i = l.length + 3 ∧ x = enc (lentL l))
  | _ => False
theorem set_behind (l k : List Int) (j : Nat) (z : Int) : (l ++ k).set (l.length + j) z = l ++ k.set j z := by
  rw [List.set_append, if_neg (by omega), Nat.add_sub_cancel_left]
theorem lentI_len {l : List Int} {i x : Int} (h : LentI l [i, x]) : (dec x).length = l.length + 3 ∧ (l.length : Int) ≤ i ∧ i ≤ l.length + 3 := by
  rcases h with ⟨h1, h2⟩ | ⟨h1, h2⟩ | ⟨h1, h2⟩ | ⟨h1, h2⟩ <;> rw [h2, dec_enc] <;> refine ⟨by simp [lentL], by omega, by omega⟩
theorem lentI_step {l : List Int} {i x : Int} (h : LentI l [i, x]) (hi : i < l.length + 3) : LentI l [i + 1, enc ((dec x).set i.toNat (pad i))] := by
  rcases h with ⟨h1, h2⟩ | ⟨h1, h2⟩ | ⟨h1, h2⟩ | ⟨h1, h2⟩
  · subst h1 h2
    refine .inr (.inl ⟨rfl, ?_⟩)
    rw [dec_enc, show ((l.length : Int)).toNat = l.length + 0 by omega, set_behind]; rfl
  · subst h1 h2
    refine .inr (.inr (.inl ⟨by omega, ?_⟩))
    rw [dec_enc, show ((l.length : Int) + 1).toNat = l.length + 1 by omega, set_behind]; rfl
  · subst h1 h2
    refine .inr (.inr (.inr ⟨by omega, ?_⟩))
    rw [dec_enc, show ((l.length : Int) + 2).toNat = l.length + 2 by omega, set_behind]; rfl
  · omega
def tLentN : Tree := (.lett 1 (.int .i64) (.llen (.var 0))
(.lett 2 (.int .i64) (.bin .add .i64 (.var 1) (.lit 3))
(.lett 3 .bit (.cmp .leq (.lit 0) (.var 2))
(.lett 4 .bit (.cmp .lss (.var 2) (.lit 4294967296))
(.nz (.var 3)
(.nz (.var 4)
(.lett 5 (.lst .num) (.lrep (.var 2) (.lit 0))
(.lett 6 (.int .i64) (.llen (.var 5))
(.lett 7 .bit (.cmp .lss (.lit 0) (.var 6))
(.nz (.var 7)
(.lett 8 (.lst .num) (.lcpy (.var 5) (.var 0))
(.lett 9 (.int .i64) (.llen (.var 0))
(.loop [(.var 9), (.var 8)] [(.int .i64), (.lst .num)] 10
(.lett 12 (.int .i64) (.llen (.var 11))
(.lett 13 .bit (.cmp .lss (.var 10) (.var 12))
(.split 13
 (.lett 14 (.int .u64) (.conv .u64 (.var 10))
 (.lett 15 (.int .i64) (.llen (.var 11))
 (.lett 16 .bit (.cmp .leq (.lit 0) (.var 10))
 (.lett 17 .bit (.cmp .lss (.var 10) (.var 15))
 (.nz (.var 16)
 (.nz (.var 17)
 (.lett 18 .num (.join [(.lit 77), (.var 14), (.lit 0), (.lit 0), (.lit 0), (.lit 0)])
 (.lett 19 (.lst .num) (.lput (.var 11) (.var 10) (.var 18))
 (.lett 20 (.int .i64) (.bin .add .i64 (.var 10) (.lit 1))
 (.back 0 [(.var 20), (.var 19)]))))))))))
 (.lett 14 (.int .i64) (.llen (.var 0))
 (.lett 15 (.int .i64) (.llen (.var 11))
 (.lett 16 .bit (.cmp .leq (.lit 0) (.lit 0))
 (.lett 17 .bit (.cmp .leq (.lit 0) (.var 14))
 (.lett 18 .bit (.cmp .leq (.var 14) (.var 15))
 (.nz (.var 16)
 (.nz (.var 17)
 (.nz (.var 18)
 (.ret [(.var 11), (.var 14)])))))))))))))))))))))))))
theorem law_lentN (te : TypeId) (f : FuncId) (e : Nat → Int) (hp : (kLentN te f).pre [e 0]) : tLentN.says [] ⟨fun ys => ys = (kLentN te f).sem [e 0], []⟩ e := by
  have hl : (dec (e 0)).length ≤ 1000 := hp
  simp only [tLentN, kLentN, Tree.says, List.getElem?_cons_zero, List.getElem?_cons_succ, List.map, ev_lit, ev_var, ev_limb, D.ev, List.getD_cons_zero, List.getD_cons_succ]
  intro a1 _ a2 _ a3 _ a4 _
  generalize hL : dec (e 0) = l at *
  have v2 : e 2 = l.length + 3 := by rw [a2, a1]; simp only [binE, wr]; omega
  refine ⟨bit_nz a3 (by omega), lt_nz a4 (by omega), fun a5 _ a6 _ a7 _ => ?_⟩
  rw [v2] at a5
  rw [a5, dec_enc, List.length_replicate] at a6
  refine ⟨lt_nz a7 (by omega), fun a8 _ a9 _ => ?_⟩
  have v8 : e 8 = enc (l ++ [0, 0, 0]) := by
    rw [a8, a5, dec_enc, List.length_replicate, show ((l.length : Int) + 3).toNat = l.length + 3 by omega, List.take_of_length_le (by omega), List.drop_replicate, show l.length + 3 - l.length = 3 by omega]
    rfl
  refine ⟨LentI l, fun | [i, _] => (l.length + 3 - i).toNat | _ => 0, .inl ⟨a9, v8⟩, fun e' he hkk hI => ?_⟩
  have hI : LentI l [e' 10, e' 11] := hI
  obtain ⟨n1, n2, n3⟩ := lentI_len hI
  simp only [he 0 (by decide), hL]
  intro a12 _ a13 _
  have b13 := c_lt a13
  rw [a12, n1] at b13
  refine ⟨fun h => ?_, fun h => ?_⟩
  · intro a14 _ a15 _ a16 _ a17 _
    refine ⟨bit_nz a16 (by omega), lt_nz a17 (by rw [a15, n1]; omega), fun a18 _ a19 _ a20 _ => ?_⟩
    have v14 : e' 14 = e' 10 := by rw [a14]; simp only [wr]; omega
    have v18 : e' 18 = pad (e' 10) := by rw [a18, joinE6, v14]; unfold pad; omega
    have v20 : e' 20 = e' 10 + 1 := by rw [a20]; simp only [binE, wr]; omega
    show LentI l [e' 20, e' 19] ∧ (l.length + 3 - e' 20).toNat < (l.length + 3 - e' 10).toNat
    rw [v20, a19, v18]
    exact ⟨lentI_step hI (by omega), by omega⟩
  · intro a14 _ a15 _ a16 _ a17 _ a18 _
    refine ⟨bit_nz a16 (by omega), bit_nz a17 (by omega), ?_, ?_⟩
    · have := c_le a18; rw [a14, a15, n1] at this; omega
    · rcases hI with ⟨h1, h2⟩ | ⟨h1, h2⟩ | ⟨h1, h2⟩ | ⟨h1, h2⟩
      · omega
      · omega
      · omega
      · rw [h2, a14]
def tSameN : Tree := (.lett 2 (.int .i64) (.llen (.var 0))
(.lett 3 (.int .i64) (.llen (.var 1))
(.lett 4 .bit (.cmp .neq (.var 2) (.var 3))
(.split 4
 (.ret [(.lit 0)])
 (.loop [(.lit 0)] [(.int .i64)] 5
 (.lett 6 (.int .i64) (.llen (.var 0))
 (.lett 7 .bit (.cmp .lss (.var 5) (.var 6))
 (.split 7
  (.lett 104 (.int .i64) (.llen (.var 0))
  (.lett 105 .bit (.cmp .leq (.lit 0) (.var 5))
  (.lett 106 .bit (.cmp .lss (.var 5) (.var 104))
  (.nz (.var 105)
  (.nz (.var 106)
  (.lett 152 .num (.lget (.var 0) (.var 5))
  (.lett 296 (.int .i64) (.llen (.var 1))
  (.lett 297 .bit (.cmp .leq (.lit 0) (.var 5))
  (.lett 298 .bit (.cmp .lss (.var 5) (.var 296))
  (.nz (.var 297)
  (.nz (.var 298)
  (.lett 344 .num (.lget (.var 1) (.var 5))
  (.lett 392 .bit (.eqs [((.limb 152 0), (.limb 344 0)), ((.limb 152 1), (.limb 344 1)), ((.limb 152 2), (.limb 344 2)), ((.limb 152 3), (.limb 344 3)), ((.limb 152 4), (.limb 344 4)), ((.limb 152 5), (.limb 344 5))])
  (.lett 393 .bit (.not (.var 392))
  (.split 393
   (.ret [(.lit 0)])
   (.lett 440 (.int .i64) (.bin .add .i64 (.var 5) (.lit 1))
   (.back 0 [(.var 440)])))))))))))))))))
  (.ret [(.lit 1)])))))))))
theorem law_sameN (f : FuncId) (e : Nat → Int) (hk : kkHas [.lst .num, .lst .num] [e 0, e 1]) : tSameN.says [] ⟨fun ys => ys = (kSameN f).sem [e 0, e 1], []⟩ e := by
  have hl : (dec (e 0)).length ≤ 9223372036854775807 := hk.1.1
  have hl' : (dec (e 1)).length ≤ 9223372036854775807 := hk.2.1.1
  have hn := hk.1.2
  have hn' := hk.2.1.2
  simp only [tSameN, kSameN, Tree.says, List.getElem?_cons_zero, List.getElem?_cons_succ, List.map, ev_lit, ev_var, ev_limb, D.ev, List.getD_cons_zero, List.getD_cons_succ]
  intro a2 _ a3 _ a4 _
  have b4 := c_ne a4
  rw [a2, a3] at b4
  generalize hL : dec (e 0) = l at *
  generalize hM : dec (e 1) = k at *
  refine ⟨fun h => ?_, fun h => ?_⟩
  · rw [bi_0 (fun hc => by rw [hc] at b4; omega)]
  · have hlen : l.length = k.length := by omega
    refine ⟨fun | [i] => 0 ≤ i ∧ i ≤ l.length ∧ l.take i.toNat = k.take i.toNat | _ => False, fun | [i] => l.length - i.toNat | _ => 0, ⟨Int.le_refl _, by omega, by simp⟩, fun e' he hkk hI => ?_⟩
    obtain ⟨i0, i1, i2⟩ : 0 ≤ e' 5 ∧ e' 5 ≤ l.length ∧ l.take (e' 5).toNat = k.take (e' 5).toNat := hI
    simp only [he 0 (by decide), he 1 (by decide), hL, hM]
    intro a6 _ a7 _
    have b7 := c_lt a7
    refine ⟨fun h => ?_, fun h => ?_⟩
    · intro a104 _ a105 _ a106 _
      refine ⟨bit_nz a105 i0, lt_nz a106 (by omega), fun a152 h152 a296 _ a297 _ a298 _ => ⟨bit_nz a297 i0, lt_nz a298 (by omega), fun a344 h344 a392 _ a393 _ => ?_⟩⟩
      have hi : (e' 5).toNat < l.length := by omega
      have hi' : (e' 5).toNat < k.length := by omega
      have b392 := c_num (i := 152) (j := 344) a392 h152 h344
      have b393 := c_not a393
      refine ⟨fun h1 => ?_, fun h1 => ?_⟩
      · rw [bi_0 (fun hc => by rw [a152, a344, hc] at b392; omega)]
      · intro a440 _
        have v440 : e' 440 = e' 5 + 1 := by rw [a440]; simp only [binE, wr]; omega
        show (0 ≤ e' 440 ∧ e' 440 ≤ l.length ∧ l.take (e' 440).toNat = k.take (e' 440).toNat) ∧ l.length - (e' 440).toNat < l.length - (e' 5).toNat
        rw [v440]
        refine ⟨⟨by omega, by omega, ?_⟩, by omega⟩
        rw [show (e' 5 + 1).toNat = (e' 5).toNat + 1 by omega, take_next hi, take_next hi', i2]
        congr 2
        rw [← a152, ← a344]; omega
    · rw [bi_1 ?_]
      rw [List.take_of_length_le (by omega), List.take_of_length_le (by omega)] at i2
      exact i2
def tKeptN : Tree := (.lett 147 (.int .i64) (.llen (.var 2))
(.lett 195 .bit (.cmp .eql (.var 1) (.var 147))
(.split 195
 (.lett 387 (.int .i64) (.llen (.var 0))
 (.lett 435 (.int .i64) (.llen (.var 0))
 (.lett 436 .bit (.cmp .leq (.lit 0) (.lit 0))
 (.lett 437 .bit (.cmp .leq (.lit 0) (.var 387))
 (.lett 438 .bit (.cmp .leq (.var 387) (.var 435))
 (.nz (.var 436)
 (.nz (.var 437)
 (.nz (.var 438)
 (.req 0 [(.var 2)]
 (.lett 531 (.lst .num) (.app 0 0 [(.var 2)])
 (.lett 532 (.int .i64) (.app 0 1 [(.var 2)])
 (.lett 627 (.int .i64) (.llen (.var 2))
 (.lett 675 (.int .i64) (.bin .add .i64 (.var 627) (.lit 3))
 (.lett 723 (.int .i64) (.llen (.var 531))
 (.lett 724 .bit (.cmp .leq (.lit 0) (.lit 0))
 (.lett 725 .bit (.cmp .leq (.lit 0) (.var 675))
 (.lett 726 .bit (.cmp .leq (.var 675) (.var 723))
 (.nz (.var 724)
 (.nz (.var 725)
 (.nz (.var 726)
 (.lett 771 (.lst .num) (.lsub (.var 0) (.lit 0) (.var 387))
 (.lett 772 (.lst .num) (.lsub (.var 531) (.lit 0) (.var 675))
 (.req 1 [(.var 771), (.var 772)]
 (.lett 773 .bit (.app 1 0 [(.var 771), (.var 772)])
 (.ret [(.var 773)])))))))))))))))))))))))))
 (.ret [(.lit 0)]))))
theorem law_keptN (te : TypeId) (f1 f2 f : FuncId) (e : Nat → Int) (hk : kkHas [.lst .num, .int .i64, .lst .num] [e 0, e 1, e 2]) (hp : (kKeptN f).pre [e 0, e 1, e 2]) : tKeptN.says [kLentN te f1, kSameN f2] ⟨fun ys => ys = (kKeptN f).sem [e 0, e 1, e 2], []⟩ e := by
  have hl : (dec (e 2)).length ≤ 1000 := hp
  have hl' : (dec (e 0)).length ≤ 9223372036854775807 := hk.1.1
  simp only [tKeptN, kLentN, kSameN, kKeptN, Tree.says, List.getElem?_cons_zero, List.getElem?_cons_succ, List.map, ev_lit, ev_var, ev_limb, D.ev, List.getD_cons_zero, List.getD_cons_succ]
  intro a147 _ a195 _
  have b195 := c_eq a195
  rw [a147] at b195
  generalize hL : dec (e 2) = l at *
  generalize hM : dec (e 0) = k at *
  refine ⟨fun h => ?_, fun h => ?_⟩
  · intro a387 _ a435 _ a436 _ a437 _ a438 _
    refine ⟨bit_nz a436 (by omega), bit_nz a437 (by omega), ?_, ?_⟩
    · have := c_le a438; rw [a387, a435] at this; omega
    refine ⟨hl, fun a531 _ a532 _ a627 _ a675 _ a723 _ a724 _ a725 _ a726 _ => ?_⟩
    have v675 : e 675 = l.length + 3 := by rw [a675, a627]; simp only [binE, wr]; omega
    have hll : (lentL l).length = l.length + 3 := by simp [lentL]
    have v723 : e 723 = l.length + 3 := by rw [a723, a531, dec_enc, hll]; omega
    refine ⟨bit_nz a724 (by omega), bit_nz a725 (by omega), ?_, ?_⟩
    · have := c_le a726; rw [v675, v723] at this; omega
    intro a771 _ a772 _
    refine ⟨trivial, fun a773 _ => ?_⟩
    have e1 : dec (e 771) = k := by
      rw [a771, dec_enc, a387, Int.toNat_natCast, List.take_length]; rfl
    have e2 : dec (e 772) = lentL l := by
      rw [a772, dec_enc, v675, a531, dec_enc, List.take_of_length_le (by rw [hll]; omega)]; rfl
    rw [a773, e1, e2, bi_and1 (by omega)]
  · rw [bi_and0 (by omega)]
/-! ### a suite's numbers -/
def semF (op : Int → Int → Int) : List Int → List Int := fun | [s, a, b] => [op a b % rOf s] | _ => []
def kF2 (f : FuncId) (op : Int → Int → Int) : K := { fn := f, ext := false, ins := [.agg [.int .i64], iN, iN], outs := [oN], pre := fun | [s, a, b] => isS s ∧ a < rOf s ∧ b < rOf s | _ => False, sem := semF op }
def tShMul : Tree := (.req 0 [(.var 0), (.var 1), (.var 2)]
(.lett 3 .num (.app 0 0 [(.var 0), (.var 1), (.var 2)])
(.lett 4 (.int .i64) (.app 0 1 [(.var 0), (.var 1), (.var 2)])
(.ret [(.var 3)]))))
theorem law_f2 (f1 f : FuncId) (op : Int → Int → Int) (e : Nat → Int) (hp : (kF2 f op).pre [e 0, e 1, e 2]) : tShMul.says [kS2 f1 op] ⟨fun ys => ys = (kF2 f op).sem [e 0, e 1, e 2], []⟩ e := by
  have hp : isS (e 0) ∧ e 1 < rOf (e 0) ∧ e 2 < rOf (e 0) := hp
  simp only [tShMul, kS2, kF2, Tree.says, List.getElem?_cons_zero, List.getElem?_cons_succ, List.map, ev_lit, ev_var, ev_limb, D.ev, List.getD_cons_zero, List.getD_cons_succ]
  refine ⟨trivial, fun a3 _ a4 _ => ?_⟩
  rw [a3, (s2_yes hp).1]; rfl
def kAt (f : FuncId) : K := { fn := f, ext := false, ins := [iI], outs := [oN], pre := fun | [a] => 0 ≤ a | _ => False, sem := fun | [a] => [a] | _ => [] }
def tAt : Tree := (.lett 1 (.int .u64) (.conv .u64 (.var 0))
(.req 0 [(.var 1)]
(.lett 2 .num (.app 0 0 [(.var 1)])
(.ret [(.var 2)]))))
theorem law_at (f1 f : FuncId) (e : Nat → Int) (hk : kkHas [.int .i64] [e 0]) (hp : (kAt f).pre [e 0]) : tAt.says [kOf f1] ⟨fun ys => ys = (kAt f).sem [e 0], []⟩ e := by
  have h0 : 0 ≤ e 0 := hp
  have h1 : e 0 ≤ 9223372036854775807 := by have := hk.1; simp only [KK.has, has, lo, hi] at this; exact this.2
  simp only [tAt, kOf, kAt, Tree.says, List.getElem?_cons_zero, List.getElem?_cons_succ, List.map, ev_lit, ev_var, ev_limb, D.ev, List.getD_cons_zero, List.getD_cons_succ]
  intro a1 _
  refine ⟨trivial, fun a2 _ => ?_⟩
  rw [a2, a1]; simp only [wr]; congr 1; omega
noncomputable def kFVal (f : FuncId) : K := { fn := f, ext := false, ins := [.agg [.int .i64], .lst .num, iN], outs := [oN], pre := fun | [s, x, a] => isS s ∧ allLt (rOf s) (dec x) ∧ (dec x).length ≤ 64 ∧ a < rOf s | _ => False, sem := fun | [s, x, a] => [polyV (dec x) a % rOf s] | _ => [] }
theorem rOf_big {s : Int} (h : isS s) : 1000 < rOf s := by
  obtain ⟨h0, h1⟩ := h
  have : s = 0 ∨ s = 1 ∨ s = 2 := by omega
  rcases this with h | h | h <;> rw [h] <;> decide
theorem errCo_ok {s : Int} {l : List Int} {a : Int} (h : errCo s l a = 0) : isS s ∧ l.length ≤ 64 ∧ allLt (rOf s) l ∧ 0 ≤ a ∧ a ≤ 1000 := by
  unfold errCo at h
  split at h
  · omega
  · split at h
    · omega
    · split at h
      · omega
      · rename_i h1 h2 h3
        refine ⟨Decidable.not_not.1 h1, by omega, Decidable.not_not.1 fun hc => h3 (.inl hc), ?_, ?_⟩
        · have := fun hc => h3 (.inr (.inl hc)); omega
        · have := fun hc => h3 (.inr (.inr hc)); omega
noncomputable def semSVal : List Int → List Int := fun | [s, x, a] => if errCo s (dec x) a = 0 then [polyV (dec x) a % rOf s, 0] else [0, errCo s (dec x) a] | _ => []
noncomputable def kSVal (f : FuncId) : K := { fn := f, ext := false, ins := [iI, .lst .num, iI], outs := [oN, oI], pre := fun _ => True, sem := semSVal }
def tSVal : Tree := (.req 0 [(.var 0), (.var 1), (.var 2)]
(.lett 3 (.int .i64) (.app 0 0 [(.var 0), (.var 1), (.var 2)])
(.lett 4 .bit (.cmp .neq (.var 3) (.lit 0))
(.split 4
 (.ret [(.lit 0), (.var 3)])
 (.req 2 [(.var 2)]
 (.lett 5 .num (.app 2 0 [(.var 2)])
 (.req 1 [(.var 0), (.var 1), (.var 5)]
 (.lett 6 .num (.app 1 0 [(.var 0), (.var 1), (.var 5)])
 (.ret [(.var 6), (.lit 0)])))))))))
theorem law_sVal (f1 f2 f3 f : FuncId) (e : Nat → Int) : tSVal.says [kCoefs f1, kFVal f2, kAt f3] ⟨fun ys => ys = (kSVal f).sem [e 0, e 1, e 2], []⟩ e := by
  simp only [tSVal, kCoefs, kFVal, kAt, kSVal, semSVal, Tree.says, List.getElem?_cons_zero, List.getElem?_cons_succ, List.map, ev_lit, ev_var, ev_limb, D.ev, List.getD_cons_zero, List.getD_cons_succ]
  refine ⟨trivial, fun a3 _ a4 _ => ?_⟩
  have b4 := c_ne a4
  refine ⟨fun h => ?_, fun h => ?_⟩
  · rw [if_neg (by omega), a3]
  · have h0 : errCo (e 0) (dec (e 1)) (e 2) = 0 := by omega
    obtain ⟨h1, h2, h3, h4, h5⟩ := errCo_ok h0
    have := rOf_big h1
    refine ⟨h4, fun a5 _ => ⟨⟨h1, h3, h2, by omega⟩, fun a6 _ => ?_⟩⟩
    rw [if_pos h0, a6, a5]
/-- a polynomial's shares -/
def sharesV (r : Int) (l : List Int) (n : Nat) : List Int := (List.range n).map fun (j : Nat) => polyV l ((j : Int) + 1) % r
noncomputable def errSp (s : Int) (l : List Int) (n : Int) : Int := if errCo s l 0 ≠ 0 then errCo s l 0 else if n < 1 ∨ 64 < n then 2 else 0
noncomputable def semSplit : List Int → List Int := fun | [s, x, n] => if errSp s (dec x) n = 0 then [enc (sharesV (rOf s) (dec x) n.toNat), 0] else [0, errSp s (dec x) n] | _ => []
noncomputable def kSplit (te : TypeId) (f : FuncId) : K := { fn := f, ext := false, ins := [iI, .lst .num, iI], outs := [.lst te .num, oI], pre := fun _ => True, sem := semSplit }
theorem sharesV_len (r : Int) (l : List Int) (n : Nat) : (sharesV r l n).length = n := by simp [sharesV]
theorem sharesV_next (r : Int) (l : List Int) (n : Nat) : sharesV r l (n + 1) = sharesV r l n ++ [polyV l ((n : Int) + 1) % r] := by simp [sharesV, List.range_succ]
def tSplit : Tree := (.req 0 [(.var 0), (.var 1), (.lit 0)]
(.lett 3 (.int .i64) (.app 0 0 [(.var 0), (.var 1), (.lit 0)])
(.lett 4 .bit (.cmp .neq (.var 3) (.lit 0))
(.split 4
 (.ret [(.lit 0), (.var 3)])
 (.lett 5 .bit (.cmp .lss (.var 2) (.lit 1))
 (.split 5
  (.ret [(.lit 0), (.lit 2)])
  (.lett 6 .bit (.cmp .gtr (.var 2) (.lit 64))
  (.split 6
   (.ret [(.lit 0), (.lit 2)])
   (.loop [(.lit 0), (.lit 0)] [(.int .i64), (.lst .num)] 7
   (.lett 9 .bit (.cmp .lss (.var 7) (.var 2))
   (.split 9
    (.lett 10 (.int .i64) (.bin .add .i64 (.var 7) (.lit 1))
    (.req 2 [(.var 10)]
    (.lett 11 .num (.app 2 0 [(.var 10)])
    (.req 1 [(.var 0), (.var 1), (.var 11)]
    (.lett 12 .num (.app 1 0 [(.var 0), (.var 1), (.var 11)])
    (.lett 13 (.int .i64) (.llen (.var 8))
    (.lett 14 .bit (.cmp .lss (.var 13) (.lit 4294967296))
    (.nz (.var 14)
    (.lett 15 (.lst .num) (.lapp (.var 8) [(.var 12)])
    (.lett 16 (.int .i64) (.bin .add .i64 (.var 7) (.lit 1))
    (.back 0 [(.var 16), (.var 15)])))))))))))
    (.ret [(.var 8), (.lit 0)]))))))))))))
theorem law_split (te : TypeId) (f1 f2 f3 f : FuncId) (e : Nat → Int) : tSplit.says [kCoefs f1, kFVal f2, kAt f3] ⟨fun ys => ys = (kSplit te f).sem [e 0, e 1, e 2], []⟩ e := by
  simp only [tSplit, kCoefs, kFVal, kAt, kSplit, semSplit, Tree.says, List.getElem?_cons_zero, List.getElem?_cons_succ, List.map, ev_lit, ev_var, ev_limb, D.ev, List.getD_cons_zero, List.getD_cons_succ]
  refine ⟨trivial, fun a3 _ a4 _ => ?_⟩
  have b4 := c_ne a4
  generalize hL : dec (e 1) = l at *
  refine ⟨fun h => ?_, fun h => ?_⟩
  · have : errSp (e 0) l (e 2) = e 3 := by unfold errSp; rw [if_pos (by omega), a3]
    rw [this, if_neg (by omega)]
  · have h0 : errCo (e 0) l 0 = 0 := by omega
    obtain ⟨h1, h2, h3, h4, h5⟩ := errCo_ok h0
    have hr := rOf_big h1
    intro a5 _
    have b5 := c_lt a5
    refine ⟨fun h => ?_, fun h => ?_⟩
    · have : errSp (e 0) l (e 2) = 2 := by unfold errSp; rw [if_neg (by omega), if_pos (.inl (by omega))]
      rw [this, if_neg (by omega)]
    · intro a6 _
      have b6 := c_gt a6
      refine ⟨fun h => ?_, fun h => ?_⟩
      · have : errSp (e 0) l (e 2) = 2 := by unfold errSp; rw [if_neg (by omega), if_pos (.inr (by omega))]
        rw [this, if_neg (by omega)]
      · have he0 : errSp (e 0) l (e 2) = 0 := by unfold errSp; rw [if_neg (by omega), if_neg (by omega)]
        rw [he0, if_pos rfl]
        refine ⟨fun | [i, x] => 0 ≤ i ∧ i ≤ e 2 ∧ x = enc (sharesV (rOf (e 0)) l i.toNat) | _ => False, fun | [i, _] => (e 2 - i).toNat | _ => 0, ⟨Int.le_refl _, by omega, ?_⟩, fun e' he hkk hI => ?_⟩
        · show (0 : Int) = enc (sharesV _ _ 0); rfl
        obtain ⟨i0, i1, i2⟩ : 0 ≤ e' 7 ∧ e' 7 ≤ e 2 ∧ e' 8 = enc (sharesV (rOf (e 0)) l (e' 7).toNat) := hI
        simp only [he 0 (by decide), he 1 (by decide), he 2 (by decide), hL]
        intro a9 _
        have b9 := c_lt a9
        refine ⟨fun h => ?_, fun h => ?_⟩
        · intro a10 _
          have v10 : e' 10 = e' 7 + 1 := by rw [a10]; simp only [binE, wr]; omega
          refine ⟨by omega, fun a11 _ => ⟨⟨h1, h3, h2, by omega⟩, fun a12 _ a13 _ a14 _ => ?_⟩⟩
          rw [i2, dec_enc, sharesV_len] at a13
          refine ⟨lt_nz a14 (by omega), fun a15 _ a16 _ => ?_⟩
          have v16 : e' 16 = e' 7 + 1 := by rw [a16]; simp only [binE, wr]; omega
          show (0 ≤ e' 16 ∧ e' 16 ≤ e 2 ∧ e' 15 = enc (sharesV (rOf (e 0)) l (e' 16).toNat)) ∧ (e 2 - e' 16).toNat < (e 2 - e' 7).toNat
          rw [v16]
          refine ⟨⟨by omega, by omega, ?_⟩, by omega⟩
          rw [a15, i2, dec_enc, show (e' 7 + 1).toNat = (e' 7).toNat + 1 by omega, sharesV_next, a12, a11, v10, show ((e' 7).toNat : Int) = e' 7 by omega]
        · have : e' 7 = e 2 := by omega
          rw [i2, this]
def kFaults (f : FuncId) : K := { fn := f, ext := false, ins := [iI], outs := [oI], pre := fun _ => True, sem := fun | [n] => [if n < 1 then 0 else (n - 1) / 3] | _ => [] }
def tSFaults : Tree := (.lett 1 .bit (.cmp .lss (.var 0) (.lit 1))
(.lett 2 (.int .i64) (.put (.var 1) 1 (.lit 1) (.var 0))
(.lett 3 (.int .i64) (.bin .sub .i64 (.var 2) (.lit 1))
(.lett 4 (.int .i64) (.bin .quo .i64 (.var 3) (.lit 3))
(.ret [(.var 4)])))))
theorem law_sFaults (f : FuncId) (e : Nat → Int) (hk : kkHas [.int .i64] [e 0]) : tSFaults.says [] ⟨fun ys => ys = (kFaults f).sem [e 0], []⟩ e := by
  have h1 : e 0 ≤ 9223372036854775807 := by have := hk.1; simp only [KK.has, has, lo, hi] at this; exact this.2
  simp only [tSFaults, kFaults, Tree.says, List.getElem?_cons_zero, List.getElem?_cons_succ, List.map, ev_lit, ev_var, ev_limb, D.ev, List.getD_cons_zero, List.getD_cons_succ]
  intro a1 _ a2 _ a3 _ a4 _
  have b1 := c_lt a1
  have v3 : e 3 = (if e 0 < 1 then 1 else e 0) - 1 := by
    have v2 : e 2 = if e 0 < 1 then 1 else e 0 := by rcases b1 with ⟨h, hc⟩ | ⟨h, hc⟩ <;> simp [a2, h, hc]
    rw [a3, v2]
    split <;> simp only [binE, wr] <;> omega
  rw [a4, v3]
  simp only [binE]
  congr 1
  split
  · simp [wr]
  · rw [Int.tdiv_eq_ediv_of_nonneg (by omega)]
    simp only [wr]; omega
def tRFaults : Tree := (.lett 1 .bit (.cmp .lss (.var 0) (.lit 1))
(.split 1
 (.ret [(.lit 0)])
 (.lett 2 (.int .i64) (.bin .sub .i64 (.var 0) (.lit 1))
 (.lett 3 (.int .i64) (.bin .quo .i64 (.var 2) (.lit 3))
 (.ret [(.var 3)])))))
theorem law_rFaults (f : FuncId) (e : Nat → Int) (hk : kkHas [.int .i64] [e 0]) : tRFaults.says [] ⟨fun ys => ys = (kFaults f).sem [e 0], []⟩ e := by
  have h1 : e 0 ≤ 9223372036854775807 := by have := hk.1; simp only [KK.has, has, lo, hi] at this; exact this.2
  simp only [tRFaults, kFaults, Tree.says, List.getElem?_cons_zero, List.getElem?_cons_succ, List.map, ev_lit, ev_var, ev_limb, D.ev, List.getD_cons_zero, List.getD_cons_succ]
  intro a1 _
  have b1 := c_lt a1
  refine ⟨fun h => ?_, fun h => ?_⟩
  · rw [if_pos (by omega)]
  · intro a2 _ a3 _
    have v2 : e 2 = e 0 - 1 := by rw [a2]; simp only [binE, wr]; omega
    rw [if_neg (by omega), a3, v2]
    simp only [binE]
    rw [Int.tdiv_eq_ediv_of_nonneg (by omega)]
    congr 1
    simp only [wr]; omega
end Go.Sx

/- Laws: the Lagrange numbers. -/
namespace Go.Sx
open Go Go.RowKit
set_option linter.unusedVariables false
set_option linter.unusedSimpArgs false
theorem yes_ {v : Int} {p q : Prop} (h : v ≠ 0) (b : (v = 1 ∧ p) ∨ (v = 0 ∧ q)) : p := by rcases b with ⟨_, hp⟩ | ⟨h0, _⟩; exact hp; exact absurd h0 h
theorem no_ {v : Int} {p q : Prop} (h : v = 0) (b : (v = 1 ∧ p) ∨ (v = 0 ∧ q)) : q := by rcases b with ⟨h1, _⟩ | ⟨_, hq⟩; omega; exact hq
noncomputable def kShInv (f : FuncId) : K := { fn := f, ext := false, ins := [.agg [.int .i64], iN], outs := [oN], pre := fun | [s, a] => isS s ∧ a < rOf s | _ => False, sem := fun | [s, a] => [invM (rOf s) a] | _ => [] }
def tShInv : Tree := (.req 0 [(.var 0), (.var 1)]
(.lett 2 .num (.app 0 0 [(.var 0), (.var 1)])
(.lett 3 (.int .i64) (.app 0 1 [(.var 0), (.var 1)])
(.ret [(.var 2)]))))
theorem law_shInv (f1 f : FuncId) (e : Nat → Int) (hp : (kShInv f).pre [e 0, e 1]) : tShInv.says [kSInv f1] ⟨fun ys => ys = (kShInv f).sem [e 0, e 1], []⟩ e := by
  have hp : isS (e 0) ∧ e 1 < rOf (e 0) := hp
  refine ⟨trivial, fun a2 _ a3 _ => ?_⟩
  have v2 : e 2 = ((kSInv f1).sem [e 0, e 1]).getD 0 0 := a2
  show [e 2] = [invM (rOf (e 0)) (e 1)]
  rw [v2]
  simp only [kSInv]
  rw [if_pos hp]; rfl
def kDiff (f : FuncId) : K := { fn := f, ext := false, ins := [iI, iI, iI], outs := [oN], pre := fun | [s, a, b] => isS s ∧ 0 ≤ a ∧ a ≤ 1000 ∧ 0 ≤ b ∧ b ≤ 1000 | _ => False, sem := fun | [s, a, b] => [(a - b) % rOf s] | _ => [] }
def tDiff : Tree := (.req 0 [(.var 1)]
(.lett 3 .num (.app 0 0 [(.var 1)])
(.req 0 [(.var 2)]
(.lett 4 .num (.app 0 0 [(.var 2)])
(.req 1 [(.var 0), (.var 3), (.var 4)]
(.lett 5 .num (.app 1 0 [(.var 0), (.var 3), (.var 4)])
(.ret [(.var 5)])))))))
theorem law_diff (f1 f2 f : FuncId) (e : Nat → Int) (hp : (kDiff f).pre [e 0, e 1, e 2]) : tDiff.says [kOf19 f1, kR2 f2 (fun a b => a - b)] ⟨fun ys => ys = (kDiff f).sem [e 0, e 1, e 2], []⟩ e := by
  have hp : isS (e 0) ∧ 0 ≤ e 1 ∧ e 1 ≤ 1000 ∧ 0 ≤ e 2 ∧ e 2 ≤ 1000 := hp
  have hb := rOf_big hp.1
  refine ⟨hp.2.1, fun a3 _ => ⟨hp.2.2.2.1, fun a4 _ => ?_⟩⟩
  have v3 : e 3 = e 1 := a3
  have v4 : e 4 = e 2 := a4
  refine ⟨⟨hp.1, (show e 3 < rOf (e 0) by omega), (show e 4 < rOf (e 0) by omega)⟩, fun a5 _ => ?_⟩
  have v5 : e 5 = (e 3 - e 4) % rOf (e 0) := a5
  show [e 5] = [(e 1 - e 2) % rOf (e 0)]
  rw [v5, v3, v4]
def idsOk (l : List Int) : Prop := ∀ z ∈ l, 1 ≤ z ∧ z ≤ 1000
def upV (r : Int) (ids : List Int) (i x : Int) : Int := ids.foldl (fun acc j => if j ≠ i then acc * ((x - j) % r) % r else acc) 1
theorem upV_snoc (r : Int) (l : List Int) (j i x : Int) : upV r (l ++ [j]) i x = if j ≠ i then upV r l i x * ((x - j) % r) % r else upV r l i x := by simp [upV]
theorem upV_lt {r : Int} (hr : 1 < r) (l : List Int) (i x : Int) : 0 ≤ upV r l i x ∧ upV r l i x < r := by
  unfold upV
  suffices h : ∀ (l : List Int) (acc : Int), 0 ≤ acc ∧ acc < r → 0 ≤ l.foldl (fun acc j => if j ≠ i then acc * ((x - j) % r) % r else acc) acc ∧ l.foldl (fun acc j => if j ≠ i then acc * ((x - j) % r) % r else acc) acc < r by
    exact h l 1 (by omega)
  intro l
  induction l with
  | nil => intro acc h; exact h
  | cons j l ih =>
    intro acc h
    rw [List.foldl_cons]
    refine ih _ ?_
    split
    · exact ⟨Int.emod_nonneg _ (by omega), Int.emod_lt_of_pos _ (by omega)⟩
    · exact h
noncomputable def lagAt (r : Int) (ids : List Int) (x i : Int) : Int := upV r ids i x * invM r (upV r ids i i) % r
noncomputable def lagV (r : Int) (ids : List Int) (x : Int) : List Int := ids.map (lagAt r ids x)
theorem lagV_len (r : Int) (ids : List Int) (x : Int) : (lagV r ids x).length = ids.length := by simp [lagV]
noncomputable def kLagr (te : TypeId) (f : FuncId) : K := { fn := f, ext := false, ins := [.agg [.int .i64], .lst (.int .i64), iI], outs := [.lst te .num], pre := fun | [s, x, a] => isS s ∧ idsOk (dec x) ∧ (dec x).length ≤ 64 ∧ 0 ≤ a ∧ a ≤ 1000 | _ => False, sem := fun | [s, x, a] => [enc (lagV (rOf s) (dec x) a)] | _ => [] }
theorem invM_lt {r : Int} (hr : 0 < r) (a : Int) : 0 ≤ invM r a ∧ invM r a < r := by
  unfold invM
  split
  · rename_i h; exact ⟨h.choose_spec.1, h.choose_spec.2.1⟩
  · omega
theorem lagAt_take {r : Int} {l : List Int} {x : Int} {i : Nat} (hi : i < l.length) : enc ((l.take i).map (lagAt r l x) ++ [upV r l (l.getD i 0) x * invM r (upV r l (l.getD i 0) (l.getD i 0)) % r]) = enc ((l.take (i + 1)).map (lagAt r l x)) := by
  rw [take_next hi, List.map_append]; rfl
def tLagr : Tree := (.lett 3 (.int .i64) (.llen (.var 1))
(.loop [(.lit 0), (.lit 0)] [(.int .i64), (.lst .num)] 4
(.lett 6 .bit (.cmp .lss (.var 4) (.var 3))
(.split 6
 (.lett 7 (.int .i64) (.llen (.var 1))
 (.lett 8 .bit (.cmp .leq (.lit 0) (.var 4))
 (.lett 9 .bit (.cmp .lss (.var 4) (.var 7))
 (.nz (.var 8)
 (.nz (.var 9)
 (.lett 10 (.int .i64) (.lget (.var 1) (.var 4))
 (.req 0 [(.lit 1)]
 (.lett 11 .num (.app 0 0 [(.lit 1)])
 (.req 0 [(.lit 1)]
 (.lett 12 .num (.app 0 0 [(.lit 1)])
 (.lett 13 (.int .i64) (.llen (.var 1))
 (.loop [(.lit 0), (.var 11), (.var 12)] [(.int .i64), .num, .num] 14
 (.lett 17 .bit (.cmp .lss (.var 14) (.var 13))
 (.split 17
  (.lett 18 (.int .i64) (.llen (.var 1))
  (.lett 19 .bit (.cmp .leq (.lit 0) (.var 14))
  (.lett 20 .bit (.cmp .lss (.var 14) (.var 18))
  (.nz (.var 19)
  (.nz (.var 20)
  (.lett 21 (.int .i64) (.lget (.var 1) (.var 14))
  (.lett 22 .bit (.cmp .neq (.var 21) (.var 10))
  (.split 22
   (.req 1 [(.var 2)]
   (.lett 215 .num (.app 1 0 [(.var 2)])
   (.req 1 [(.var 21)]
   (.lett 311 .num (.app 1 0 [(.var 21)])
   (.req 3 [(.var 0), (.var 215), (.var 311)]
   (.lett 359 .num (.app 3 0 [(.var 0), (.var 215), (.var 311)])
   (.req 2 [(.var 0), (.var 15), (.var 359)]
   (.lett 407 .num (.app 2 0 [(.var 0), (.var 15), (.var 359)])
   (.req 1 [(.var 10)]
   (.lett 647 .num (.app 1 0 [(.var 10)])
   (.req 1 [(.var 21)]
   (.lett 743 .num (.app 1 0 [(.var 21)])
   (.req 3 [(.var 0), (.var 647), (.var 743)]
   (.lett 791 .num (.app 3 0 [(.var 0), (.var 647), (.var 743)])
   (.req 2 [(.var 0), (.var 16), (.var 791)]
   (.lett 839 .num (.app 2 0 [(.var 0), (.var 16), (.var 791)])
   (.lett 983 (.int .i64) (.bin .add .i64 (.var 14) (.lit 1))
   (.back 1 [(.var 983), (.var 407), (.var 839)]))))))))))))))))))
   (.lett 23 (.int .i64) (.bin .add .i64 (.var 14) (.lit 1))
   (.back 1 [(.var 23), (.var 15), (.var 16)]))))))))))
  (.req 4 [(.var 0), (.var 16)]
  (.lett 258 .num (.app 4 0 [(.var 0), (.var 16)])
  (.req 2 [(.var 0), (.var 15), (.var 258)]
  (.lett 306 .num (.app 2 0 [(.var 0), (.var 15), (.var 258)])
  (.lett 498 (.int .i64) (.llen (.var 5))
  (.lett 499 .bit (.cmp .lss (.var 498) (.lit 4294967296))
  (.nz (.var 499)
  (.lett 500 (.lst .num) (.lapp (.var 5) [(.var 306)])
  (.lett 501 (.int .i64) (.bin .add .i64 (.var 4) (.lit 1))
  (.back 0 [(.var 501), (.var 500)]))))))))))))))))))))))))
 (.ret [(.var 5)])))))
theorem law_lagr (te : TypeId) (f1 f2 f3 f4 f5 f : FuncId) (e : Nat → Int) (hk : kkHas [.int .i64, .lst (.int .i64), .int .i64] [e 0, e 1, e 2]) (hp : (kLagr te f).pre [e 0, e 1, e 2]) : tLagr.says [kOf f1, kAt f2, kF2 f3 (fun a b => a * b), kF2 f4 (fun a b => a - b), kShInv f5] ⟨fun ys => ys = (kLagr te f).sem [e 0, e 1, e 2], []⟩ e := by
  obtain ⟨hs, hi, hl, hx0, hx1⟩ : isS (e 0) ∧ idsOk (dec (e 1)) ∧ (dec (e 1)).length ≤ 64 ∧ 0 ≤ e 2 ∧ e 2 ≤ 1000 := hp
  have hr := rOf_big hs
  intro a3 _
  have v3 : e 3 = ((dec (e 1)).length : Int) := a3
  generalize hL : dec (e 1) = l at *
  refine ⟨fun | [i, x] => 0 ≤ i ∧ i ≤ l.length ∧ x = enc ((l.take i.toNat).map (lagAt (rOf (e 0)) l (e 2))) | _ => False, fun | [i, _] => (l.length - i).toNat | _ => 0, ⟨Int.le_refl _, (show (0 : Int) ≤ l.length by omega), rfl⟩, fun e' he hkk hI => ?_⟩
  obtain ⟨i0, i1, i2⟩ : 0 ≤ e' 4 ∧ e' 4 ≤ l.length ∧ e' 5 = enc ((l.take (e' 4).toNat).map (lagAt (rOf (e 0)) l (e 2))) := hI
  have e0 := he 0 (by decide)
  have e1 := he 1 (by decide)
  have e2 := he 2 (by decide)
  have e3 := he 3 (by decide)
  intro a6 _
  have b6 := c_lt a6
  simp only [ev_var, ev_lit] at b6
  refine ⟨fun h => ?_, fun h => ?_⟩
  · have c6 := yes_ h b6
    intro a7 _ a8 _ a9 _
    have v7 : e' 7 = (l.length : Int) := by
      have : e' 7 = ((dec (e' 1)).length : Int) := a7
      rw [this, e1, hL]
    have b8 := c_le a8
    have b9 := c_lt a9
    simp only [ev_var, ev_lit] at b8 b9
    refine ⟨(show e' 8 ≠ 0 by omega), (show e' 9 ≠ 0 by omega), fun a10 _ => ?_⟩
    have hit : (e' 4).toNat < l.length := by omega
    have v10 : e' 10 = l.getD (e' 4).toNat 0 := by
      have : e' 10 = (dec (e' 1)).getD (e' 4).toNat 0 := a10
      rw [this, e1, hL]
    have hid := hi _ (getD_mem hit)
    rw [← v10] at hid
    refine ⟨trivial, fun a11 _ => ⟨trivial, fun a12 _ a13 _ => ?_⟩⟩
    have v11 : e' 11 = 1 := a11
    have v12 : e' 12 = 1 := a12
    have v13 : e' 13 = (l.length : Int) := by
      have : e' 13 = ((dec (e' 1)).length : Int) := a13
      rw [this, e1, hL]
    refine ⟨fun | [k, u, d] => 0 ≤ k ∧ k ≤ l.length ∧ u = upV (rOf (e 0)) (l.take k.toNat) (e' 10) (e 2) ∧ d = upV (rOf (e 0)) (l.take k.toNat) (e' 10) (e' 10) | _ => False, fun | [k, _, _] => (l.length - k).toNat | _ => 0, ⟨Int.le_refl _, (show (0 : Int) ≤ l.length by omega), v11, v12⟩, fun e'' he' hkk' hI' => ?_⟩
    obtain ⟨k0, k1, k2, k3⟩ : 0 ≤ e'' 14 ∧ e'' 14 ≤ l.length ∧ e'' 15 = upV (rOf (e 0)) (l.take (e'' 14).toNat) (e' 10) (e 2) ∧ e'' 16 = upV (rOf (e 0)) (l.take (e'' 14).toNat) (e' 10) (e' 10) := hI'
    have f0 := (he' 0 (by decide)).trans e0
    have f1 := (he' 1 (by decide)).trans e1
    have f2 := (he' 2 (by decide)).trans e2
    have f4 := he' 4 (by decide)
    have f5 := he' 5 (by decide)
    have f10 := he' 10 (by decide)
    have f13 := (he' 13 (by decide)).trans v13
    have u0 := upV_lt (r := rOf (e 0)) (by omega) (l.take (e'' 14).toNat) (e' 10) (e 2)
    have d0 := upV_lt (r := rOf (e 0)) (by omega) (l.take (e'' 14).toNat) (e' 10) (e' 10)
    rw [← k2] at u0
    rw [← k3] at d0
    intro a17 _
    have b17 := c_lt a17
    simp only [ev_var, ev_lit] at b17
    refine ⟨fun h => ?_, fun h => ?_⟩
    · have c17 := yes_ h b17
      intro a18 _ a19 _ a20 _
      have v18 : e'' 18 = (l.length : Int) := by
        have : e'' 18 = ((dec (e'' 1)).length : Int) := a18
        rw [this, f1, hL]
      have b19 := c_le a19
      have b20 := c_lt a20
      simp only [ev_var, ev_lit] at b19 b20
      refine ⟨(show e'' 19 ≠ 0 by omega), (show e'' 20 ≠ 0 by omega), fun a21 _ a22 _ => ?_⟩
      have hkt : (e'' 14).toNat < l.length := by omega
      have v21 : e'' 21 = l.getD (e'' 14).toNat 0 := by
        have : e'' 21 = (dec (e'' 1)).getD (e'' 14).toNat 0 := a21
        rw [this, f1, hL]
      have hjd := hi _ (getD_mem hkt)
      rw [← v21] at hjd
      have hn : (e'' 14 + 1).toNat = (e'' 14).toNat + 1 := by omega
      have b22 := c_ne a22
      simp only [ev_var, ev_lit] at b22
      refine ⟨fun h => ?_, fun h => ?_⟩
      · have c22 := yes_ h b22
        rw [f10] at c22
        refine ⟨(show 0 ≤ e'' 2 by omega), fun a215 _ => ⟨(show 0 ≤ e'' 21 by omega), fun a311 _ => ?_⟩⟩
        have v215 : e'' 215 = e'' 2 := a215
        have v311 : e'' 311 = e'' 21 := a311
        refine ⟨⟨(show isS (e'' 0) by rw [f0]; exact hs), (show e'' 215 < rOf (e'' 0) by rw [f0]; omega), (show e'' 311 < rOf (e'' 0) by rw [f0]; omega)⟩, fun a359 _ => ?_⟩
        have v359 : e'' 359 = (e'' 215 - e'' 311) % rOf (e'' 0) := a359
        have w359 : e'' 359 < rOf (e 0) := by rw [v359, f0]; exact Int.emod_lt_of_pos _ (by omega)
        refine ⟨⟨(show isS (e'' 0) by rw [f0]; exact hs), (show e'' 15 < rOf (e'' 0) by rw [f0]; omega), (show e'' 359 < rOf (e'' 0) by rw [f0]; omega)⟩, fun a407 _ => ?_⟩
        have v407 : e'' 407 = e'' 15 * e'' 359 % rOf (e'' 0) := a407
        refine ⟨(show 0 ≤ e'' 10 by omega), fun a647 _ => ⟨(show 0 ≤ e'' 21 by omega), fun a743 _ => ?_⟩⟩
        have v647 : e'' 647 = e'' 10 := a647
        have v743 : e'' 743 = e'' 21 := a743
        refine ⟨⟨(show isS (e'' 0) by rw [f0]; exact hs), (show e'' 647 < rOf (e'' 0) by rw [f0]; omega), (show e'' 743 < rOf (e'' 0) by rw [f0]; omega)⟩, fun a791 _ => ?_⟩
        have v791 : e'' 791 = (e'' 647 - e'' 743) % rOf (e'' 0) := a791
        have w791 : e'' 791 < rOf (e 0) := by rw [v791, f0]; exact Int.emod_lt_of_pos _ (by omega)
        refine ⟨⟨(show isS (e'' 0) by rw [f0]; exact hs), (show e'' 16 < rOf (e'' 0) by rw [f0]; omega), (show e'' 791 < rOf (e'' 0) by rw [f0]; omega)⟩, fun a839 _ a983 _ => ?_⟩
        have v839 : e'' 839 = e'' 16 * e'' 791 % rOf (e'' 0) := a839
        have v983 : e'' 983 = e'' 14 + 1 := by
          have : e'' 983 = binE .add .i64 (e'' 14) 1 := a983
          rw [this]; simp only [binE, wr]; omega
        show (0 ≤ e'' 983 ∧ e'' 983 ≤ l.length ∧ e'' 407 = upV (rOf (e 0)) (l.take (e'' 983).toNat) (e' 10) (e 2) ∧ e'' 839 = upV (rOf (e 0)) (l.take (e'' 983).toNat) (e' 10) (e' 10)) ∧ (l.length - e'' 983).toNat < (l.length - e'' 14).toNat
        refine ⟨⟨by omega, by omega, ?_, ?_⟩, by omega⟩
        · rw [v983, hn, take_next hkt, upV_snoc, ← v21, if_pos c22, ← k2, v407, v359, v215, v311, f0, f2]
        · rw [v983, hn, take_next hkt, upV_snoc, ← v21, if_pos c22, ← k3, v839, v791, v647, v743, f0, f10]
      · have c22 := no_ h b22
        rw [f10] at c22
        intro a23 _
        have v23 : e'' 23 = e'' 14 + 1 := by
          have : e'' 23 = binE .add .i64 (e'' 14) 1 := a23
          rw [this]; simp only [binE, wr]; omega
        show (0 ≤ e'' 23 ∧ e'' 23 ≤ l.length ∧ e'' 15 = upV (rOf (e 0)) (l.take (e'' 23).toNat) (e' 10) (e 2) ∧ e'' 16 = upV (rOf (e 0)) (l.take (e'' 23).toNat) (e' 10) (e' 10)) ∧ (l.length - e'' 23).toNat < (l.length - e'' 14).toNat
        refine ⟨⟨by omega, by omega, ?_, ?_⟩, by omega⟩
        · rw [v23, hn, take_next hkt, upV_snoc, ← v21, if_neg (by omega), ← k2]
        · rw [v23, hn, take_next hkt, upV_snoc, ← v21, if_neg (by omega), ← k3]
    · have c17 := no_ h b17
      have hlen : (e'' 14).toNat = l.length := by omega
      rw [hlen, List.take_length] at k2 k3
      refine ⟨⟨(show isS (e'' 0) by rw [f0]; exact hs), (show e'' 16 < rOf (e'' 0) by rw [f0]; omega)⟩, fun a258 _ => ?_⟩
      have v258 : e'' 258 = invM (rOf (e'' 0)) (e'' 16) := a258
      have w258 := invM_lt (r := rOf (e 0)) (by omega) (e'' 16)
      refine ⟨⟨(show isS (e'' 0) by rw [f0]; exact hs), (show e'' 15 < rOf (e'' 0) by rw [f0]; omega), (show e'' 258 < rOf (e'' 0) by rw [v258, f0]; omega)⟩, fun a306 _ a498 _ a499 _ => ?_⟩
      have v306 : e'' 306 = e'' 15 * e'' 258 % rOf (e'' 0) := a306
      have v498 : e'' 498 = e' 4 := by
        have : e'' 498 = ((dec (e'' 5)).length : Int) := a498
        rw [this, f5, i2, dec_enc, List.length_map, List.length_take]; omega
      have b499 := c_lt a499
      simp only [ev_var, ev_lit] at b499
      refine ⟨(show e'' 499 ≠ 0 by omega), fun a500 _ a501 _ => ?_⟩
      have v501 : e'' 501 = e' 4 + 1 := by
        have : e'' 501 = binE .add .i64 (e'' 4) 1 := a501
        rw [this, f4]; simp only [binE, wr]; omega
      have v500 : e'' 500 = enc (dec (e'' 5) ++ [e'' 306]) := a500
      show (0 ≤ e'' 501 ∧ e'' 501 ≤ l.length ∧ e'' 500 = enc ((l.take (e'' 501).toNat).map (lagAt (rOf (e 0)) l (e 2)))) ∧ (l.length - e'' 501).toNat < (l.length - e' 4).toNat
      refine ⟨⟨by omega, by omega, ?_⟩, by omega⟩
      rw [v501, show (e' 4 + 1).toNat = (e' 4).toNat + 1 by omega, ← lagAt_take hit, v500, f5, i2, dec_enc, v306, v258, k2, k3, f0, v10]
  · have c6 := no_ h b6
    show [e' 5] = [enc (lagV (rOf (e 0)) (dec (e 1)) (e 2))]
    rw [hL, i2, show (e' 4).toNat = l.length by omega, List.take_length]; rfl
end Go.Sx

/- Laws: the document's Lagrange numbers; what shares join to. -/
namespace Go.Sx
open Go Go.RowKit
set_option linter.unusedVariables false
set_option linter.unusedSimpArgs false
theorem inv_fermat (hF : FermatAll) {s a : Int} (hs : isS s) (ha : 0 ≤ a ∧ a < rOf s) : invM (rOf s) a = a ^ (rOf s - 2).toNat % rOf s := by
  have hr := rOf_big hs
  by_cases h0 : a = 0
  · subst h0
    rw [invM_none (by rintro ⟨y, _, _, h⟩; rw [Int.zero_mul, Int.zero_emod] at h; omega)]
    rw [Int.zero_pow (by omega)]; rfl
  · exact (invM_eq ⟨Int.emod_nonneg _ (by omega), Int.emod_lt_of_pos _ (by omega)⟩ (hF s a hs (by omega) ha.2)).1
theorem nodup_get {l : List Int} (h : l.Nodup) {i k : Nat} (hi : i < l.length) (hk : k < l.length) : l.getD k 0 ≠ l.getD i 0 ↔ k ≠ i := by
  constructor
  · intro hne e; subst e; exact hne rfl
  · intro hne e
    rw [List.getD_eq_getElem?_getD, List.getD_eq_getElem?_getD, List.getElem?_eq_getElem hk, List.getElem?_eq_getElem hi] at e
    have hp := List.pairwise_iff_getElem.1 h
    rcases Nat.lt_or_gt_of_ne hne with hlt | hlt
    · exact hp k i hk hi hlt e
    · exact hp i k hi hk hlt e.symm
noncomputable def kRLagr (te : TypeId) (f : FuncId) : K := { fn := f, ext := false, ins := [iI, .lst (.int .i64), iI], outs := [.lst te .num], pre := fun | [s, x, a] => isS s ∧ idsOk (dec x) ∧ (dec x).Nodup ∧ (dec x).length ≤ 64 ∧ 0 ≤ a ∧ a ≤ 1000 | _ => False, sem := fun | [s, x, a] => [enc (lagV (rOf s) (dec x) a)] | _ => [] }
def tRLagr : Tree := (.loop [(.lit 0), (.lit 0)] [(.int .i64), (.lst .num)] 3
(.lett 5 (.int .i64) (.llen (.var 1))
(.lett 6 .bit (.cmp .lss (.var 3) (.var 5))
(.split 6
 (.req 0 [(.lit 1)]
 (.lett 7 .num (.app 0 0 [(.lit 1)])
 (.req 0 [(.lit 1)]
 (.lett 8 .num (.app 0 0 [(.lit 1)])
 (.loop [(.lit 0), (.var 7), (.var 8)] [(.int .i64), .num, .num] 9
 (.lett 12 (.int .i64) (.llen (.var 1))
 (.lett 13 .bit (.cmp .lss (.var 9) (.var 12))
 (.split 13
  (.lett 14 .bit (.cmp .neq (.var 9) (.var 3))
  (.split 14
   (.lett 303 (.int .i64) (.llen (.var 1))
   (.lett 304 .bit (.cmp .leq (.lit 0) (.var 9))
   (.lett 305 .bit (.cmp .lss (.var 9) (.var 303))
   (.nz (.var 304)
   (.nz (.var 305)
   (.lett 351 (.int .i64) (.lget (.var 1) (.var 9))
   (.req 1 [(.var 0), (.var 2), (.var 351)]
   (.lett 399 .num (.app 1 0 [(.var 0), (.var 2), (.var 351)])
   (.req 2 [(.var 0), (.var 10), (.var 399)]
   (.lett 447 .num (.app 2 0 [(.var 0), (.var 10), (.var 399)])
   (.lett 783 (.int .i64) (.llen (.var 1))
   (.lett 784 .bit (.cmp .leq (.lit 0) (.var 3))
   (.lett 785 .bit (.cmp .lss (.var 3) (.var 783))
   (.nz (.var 784)
   (.nz (.var 785)
   (.lett 831 (.int .i64) (.lget (.var 1) (.var 3))
   (.lett 975 (.int .i64) (.llen (.var 1))
   (.lett 976 .bit (.cmp .leq (.lit 0) (.var 9))
   (.lett 977 .bit (.cmp .lss (.var 9) (.var 975))
   (.nz (.var 976)
   (.nz (.var 977)
   (.lett 1023 (.int .i64) (.lget (.var 1) (.var 9))
   (.req 1 [(.var 0), (.var 831), (.var 1023)]
   (.lett 1071 .num (.app 1 0 [(.var 0), (.var 831), (.var 1023)])
   (.req 2 [(.var 0), (.var 11), (.var 1071)]
   (.lett 1119 .num (.app 2 0 [(.var 0), (.var 11), (.var 1071)])
   (.lett 1215 (.int .i64) (.bin .add .i64 (.var 9) (.lit 1))
   (.back 1 [(.var 1215), (.var 447), (.var 1119)]))))))))))))))))))))))))))))
   (.lett 15 (.int .i64) (.bin .add .i64 (.var 9) (.lit 1))
   (.back 1 [(.var 15), (.var 10), (.var 11)]))))
  (.req 3 [(.var 0), (.var 11)]
  (.lett 254 .num (.app 3 0 [(.var 0), (.var 11)])
  (.req 2 [(.var 0), (.var 10), (.var 254)]
  (.lett 302 .num (.app 2 0 [(.var 0), (.var 10), (.var 254)])
  (.lett 494 (.int .i64) (.llen (.var 4))
  (.lett 495 .bit (.cmp .lss (.var 494) (.lit 4294967296))
  (.nz (.var 495)
  (.lett 496 (.lst .num) (.lapp (.var 4) [(.var 302)])
  (.lett 497 (.int .i64) (.bin .add .i64 (.var 3) (.lit 1))
  (.back 0 [(.var 497), (.var 496)]))))))))))))))))))
 (.ret [(.var 4)])))))
theorem law_rLagr (hF : FermatAll) (te : TypeId) (f1 f2 f3 f4 f : FuncId) (e : Nat → Int) (hp : (kRLagr te f).pre [e 0, e 1, e 2]) : tRLagr.says [kOf19 f1, kDiff f2, kR2 f3 (fun a b => a * b), kRInv f4] ⟨fun ys => ys = (kRLagr te f).sem [e 0, e 1, e 2], []⟩ e := by
  obtain ⟨hs, hi, hnd, hl, hx0, hx1⟩ : isS (e 0) ∧ idsOk (dec (e 1)) ∧ (dec (e 1)).Nodup ∧ (dec (e 1)).length ≤ 64 ∧ 0 ≤ e 2 ∧ e 2 ≤ 1000 := hp
  have hr := rOf_big hs
  generalize hL : dec (e 1) = l at *
  refine ⟨fun | [i, x] => 0 ≤ i ∧ i ≤ l.length ∧ x = enc ((l.take i.toNat).map (lagAt (rOf (e 0)) l (e 2))) | _ => False, fun | [i, _] => (l.length - i).toNat | _ => 0, ⟨Int.le_refl _, (show (0 : Int) ≤ l.length by omega), rfl⟩, fun e' he hkk hI => ?_⟩
  obtain ⟨i0, i1, i2⟩ : 0 ≤ e' 3 ∧ e' 3 ≤ l.length ∧ e' 4 = enc ((l.take (e' 3).toNat).map (lagAt (rOf (e 0)) l (e 2))) := hI
  have e0 := he 0 (by decide)
  have e1 := he 1 (by decide)
  have e2 := he 2 (by decide)
  intro a5 _ a6 _
  have v5 : e' 5 = (l.length : Int) := by
    have : e' 5 = ((dec (e' 1)).length : Int) := a5
    rw [this, e1, hL]
  have b6 := c_lt a6
  simp only [ev_var, ev_lit] at b6
  refine ⟨fun h => ?_, fun h => ?_⟩
  · have c6 := yes_ h b6
    have hit : (e' 3).toNat < l.length := by omega
    refine ⟨(show (0 : Int) ≤ 1 by omega), fun a7 _ => ⟨(show (0 : Int) ≤ 1 by omega), fun a8 _ => ?_⟩⟩
    have v7 : e' 7 = 1 := a7
    have v8 : e' 8 = 1 := a8
    have hid := hi _ (getD_mem hit)
    obtain ⟨id, hidv⟩ : ∃ id, id = l.getD (e' 3).toNat 0 := ⟨_, rfl⟩
    rw [← hidv] at hid
    refine ⟨fun | [k, u, d] => 0 ≤ k ∧ k ≤ l.length ∧ u = upV (rOf (e 0)) (l.take k.toNat) id (e 2) ∧ d = upV (rOf (e 0)) (l.take k.toNat) id id | _ => False, fun | [k, _, _] => (l.length - k).toNat | _ => 0, ⟨Int.le_refl _, (show (0 : Int) ≤ l.length by omega), v7, v8⟩, fun e'' he' hkk' hI' => ?_⟩
    obtain ⟨k0, k1, k2, k3⟩ : 0 ≤ e'' 9 ∧ e'' 9 ≤ l.length ∧ e'' 10 = upV (rOf (e 0)) (l.take (e'' 9).toNat) id (e 2) ∧ e'' 11 = upV (rOf (e 0)) (l.take (e'' 9).toNat) id id := hI'
    have f0 := (he' 0 (by decide)).trans e0
    have f1 := (he' 1 (by decide)).trans e1
    have f2 := (he' 2 (by decide)).trans e2
    have f3 := he' 3 (by decide)
    have f4 := he' 4 (by decide)
    have u0 := upV_lt (r := rOf (e 0)) (by omega) (l.take (e'' 9).toNat) id (e 2)
    have d0 := upV_lt (r := rOf (e 0)) (by omega) (l.take (e'' 9).toNat) id id
    rw [← k2] at u0
    rw [← k3] at d0
    have len : ∀ {v : Int}, v = ((dec (e'' 1)).length : Int) → v = (l.length : Int) := fun h => by rw [h, f1, hL]
    intro a12 _ a13 _
    have v12 := len a12
    have b13 := c_lt a13
    simp only [ev_var, ev_lit] at b13
    refine ⟨fun h => ?_, fun h => ?_⟩
    · have c13 := yes_ h b13
      have hkt : (e'' 9).toNat < l.length := by omega
      have hjd := hi _ (getD_mem hkt)
      have hn : (e'' 9 + 1).toNat = (e'' 9).toNat + 1 := by omega
      intro a14 _
      have b14 := c_ne a14
      simp only [ev_var, ev_lit] at b14
      refine ⟨fun h => ?_, fun h => ?_⟩
      · have c14 := yes_ h b14
        have cne : l.getD (e'' 9).toNat 0 ≠ id := by rw [hidv]; exact (nodup_get hnd hit hkt).2 (by omega)
        intro a303 _ a304 _ a305 _
        have v303 := len a303
        have b304 := c_le a304
        have b305 := c_lt a305
        simp only [ev_var, ev_lit] at b304 b305
        refine ⟨(show e'' 304 ≠ 0 by omega), (show e'' 305 ≠ 0 by omega), fun a351 _ => ?_⟩
        have v351 : e'' 351 = l.getD (e'' 9).toNat 0 := by
          have : e'' 351 = (dec (e'' 1)).getD (e'' 9).toNat 0 := a351
          rw [this, f1, hL]
        refine ⟨⟨(show isS (e'' 0) by rw [f0]; exact hs), (show 0 ≤ e'' 2 by omega), (show e'' 2 ≤ 1000 by omega), (show 0 ≤ e'' 351 by omega), (show e'' 351 ≤ 1000 by omega)⟩, fun a399 _ => ?_⟩
        have v399 : e'' 399 = (e'' 2 - e'' 351) % rOf (e'' 0) := a399
        have w399 : e'' 399 < rOf (e 0) := by rw [v399, f0]; exact Int.emod_lt_of_pos _ (by omega)
        refine ⟨⟨(show isS (e'' 0) by rw [f0]; exact hs), (show e'' 10 < rOf (e'' 0) by rw [f0]; omega), (show e'' 399 < rOf (e'' 0) by rw [f0]; omega)⟩, fun a447 _ a783 _ a784 _ a785 _ => ?_⟩
        have v447 : e'' 447 = e'' 10 * e'' 399 % rOf (e'' 0) := a447
        have v783 := len a783
        have b784 := c_le a784
        have b785 := c_lt a785
        simp only [ev_var, ev_lit] at b784 b785
        refine ⟨(show e'' 784 ≠ 0 by omega), (show e'' 785 ≠ 0 by omega), fun a831 _ a975 _ a976 _ a977 _ => ?_⟩
        have v831 : e'' 831 = id := by
          have : e'' 831 = (dec (e'' 1)).getD (e'' 3).toNat 0 := a831
          rw [this, f1, hL, f3, hidv]
        have v975 := len a975
        have b976 := c_le a976
        have b977 := c_lt a977
        simp only [ev_var, ev_lit] at b976 b977
        refine ⟨(show e'' 976 ≠ 0 by omega), (show e'' 977 ≠ 0 by omega), fun a1023 _ => ?_⟩
        have v1023 : e'' 1023 = l.getD (e'' 9).toNat 0 := by
          have : e'' 1023 = (dec (e'' 1)).getD (e'' 9).toNat 0 := a1023
          rw [this, f1, hL]
        refine ⟨⟨(show isS (e'' 0) by rw [f0]; exact hs), (show 0 ≤ e'' 831 by omega), (show e'' 831 ≤ 1000 by omega), (show 0 ≤ e'' 1023 by omega), (show e'' 1023 ≤ 1000 by omega)⟩, fun a1071 _ => ?_⟩
        have v1071 : e'' 1071 = (e'' 831 - e'' 1023) % rOf (e'' 0) := a1071
        have w1071 : e'' 1071 < rOf (e 0) := by rw [v1071, f0]; exact Int.emod_lt_of_pos _ (by omega)
        refine ⟨⟨(show isS (e'' 0) by rw [f0]; exact hs), (show e'' 11 < rOf (e'' 0) by rw [f0]; omega), (show e'' 1071 < rOf (e'' 0) by rw [f0]; omega)⟩, fun a1119 _ a1215 _ => ?_⟩
        have v1119 : e'' 1119 = e'' 11 * e'' 1071 % rOf (e'' 0) := a1119
        have v1215 : e'' 1215 = e'' 9 + 1 := by
          have : e'' 1215 = binE .add .i64 (e'' 9) 1 := a1215
          rw [this]; simp only [binE, wr]; omega
        show (0 ≤ e'' 1215 ∧ e'' 1215 ≤ l.length ∧ e'' 447 = upV (rOf (e 0)) (l.take (e'' 1215).toNat) id (e 2) ∧ e'' 1119 = upV (rOf (e 0)) (l.take (e'' 1215).toNat) id id) ∧ (l.length - e'' 1215).toNat < (l.length - e'' 9).toNat
        refine ⟨⟨by omega, by omega, ?_, ?_⟩, by omega⟩
        · rw [v1215, hn, take_next hkt, upV_snoc, if_pos cne, ← k2, v447, v399, v351, f0, f2]
        · rw [v1215, hn, take_next hkt, upV_snoc, if_pos cne, ← k3, v1119, v1071, v831, v1023, f0]
      · have c14 := no_ h b14
        have ceq : ¬ l.getD (e'' 9).toNat 0 ≠ id := by rw [hidv, nodup_get hnd hit hkt]; omega
        intro a15 _
        have v15 : e'' 15 = e'' 9 + 1 := by
          have : e'' 15 = binE .add .i64 (e'' 9) 1 := a15
          rw [this]; simp only [binE, wr]; omega
        show (0 ≤ e'' 15 ∧ e'' 15 ≤ l.length ∧ e'' 10 = upV (rOf (e 0)) (l.take (e'' 15).toNat) id (e 2) ∧ e'' 11 = upV (rOf (e 0)) (l.take (e'' 15).toNat) id id) ∧ (l.length - e'' 15).toNat < (l.length - e'' 9).toNat
        refine ⟨⟨by omega, by omega, ?_, ?_⟩, by omega⟩
        · rw [v15, hn, take_next hkt, upV_snoc, if_neg ceq, ← k2]
        · rw [v15, hn, take_next hkt, upV_snoc, if_neg ceq, ← k3]
    · have c13 := no_ h b13
      have hlen : (e'' 9).toNat = l.length := by omega
      rw [hlen, List.take_length] at k2 k3
      refine ⟨⟨(show isS (e'' 0) by rw [f0]; exact hs), (show e'' 11 < rOf (e'' 0) by rw [f0]; omega)⟩, fun a254 _ => ?_⟩
      have v254 : e'' 254 = invM (rOf (e'' 0)) (e'' 11) := by
        have : e'' 254 = e'' 11 ^ (rOf (e'' 0) - 2).toNat % rOf (e'' 0) := a254
        rw [this, inv_fermat hF (by rw [f0]; exact hs) (by rw [f0]; exact d0)]
      have w254 := invM_lt (r := rOf (e 0)) (by omega) (e'' 11)
      refine ⟨⟨(show isS (e'' 0) by rw [f0]; exact hs), (show e'' 10 < rOf (e'' 0) by rw [f0]; omega), (show e'' 254 < rOf (e'' 0) by rw [v254, f0]; omega)⟩, fun a302 _ a494 _ a495 _ => ?_⟩
      have v302 : e'' 302 = e'' 10 * e'' 254 % rOf (e'' 0) := a302
      have v494 : e'' 494 = e' 3 := by
        have : e'' 494 = ((dec (e'' 4)).length : Int) := a494
        rw [this, f4, i2, dec_enc, List.length_map, List.length_take]; omega
      have b495 := c_lt a495
      simp only [ev_var, ev_lit] at b495
      refine ⟨(show e'' 495 ≠ 0 by omega), fun a496 _ a497 _ => ?_⟩
      have v497 : e'' 497 = e' 3 + 1 := by
        have : e'' 497 = binE .add .i64 (e'' 3) 1 := a497
        rw [this, f3]; simp only [binE, wr]; omega
      have v496 : e'' 496 = enc (dec (e'' 4) ++ [e'' 302]) := a496
      show (0 ≤ e'' 497 ∧ e'' 497 ≤ l.length ∧ e'' 496 = enc ((l.take (e'' 497).toNat).map (lagAt (rOf (e 0)) l (e 2)))) ∧ (l.length - e'' 497).toNat < (l.length - e' 3).toNat
      refine ⟨⟨by omega, by omega, ?_⟩, by omega⟩
      rw [v497, show (e' 3 + 1).toNat = (e' 3).toNat + 1 by omega, ← lagAt_take hit, v496, f4, i2, dec_enc, v302, v254, k2, k3, f0, hidv]
  · have c6 := no_ h b6
    show [e' 4] = [enc (lagV (rOf (e 0)) (dec (e 1)) (e 2))]
    rw [hL, i2, show (e' 3).toNat = l.length by omega, List.take_length]; rfl
/-- what shares join to -/
def dotV (r : Int) (p : List (Int × Int)) : Int := p.foldl (fun acc q => (acc + q.1 * q.2 % r) % r) 0
theorem dotV_snoc (r : Int) (p : List (Int × Int)) (q : Int × Int) : dotV r (p ++ [q]) = (dotV r p + q.1 * q.2 % r) % r := by simp [dotV]
theorem dotV_lt {r : Int} (hr : 0 < r) (p : List (Int × Int)) : 0 ≤ dotV r p ∧ dotV r p < r := by
  rcases List.eq_nil_or_concat p with rfl | ⟨l, x, rfl⟩
  · exact ⟨Int.le_refl _, hr⟩
  · rw [List.concat_eq_append, dotV_snoc]; exact ⟨Int.emod_nonneg _ (by omega), Int.emod_lt_of_pos _ hr⟩
noncomputable def joinV (r : Int) (ids l : List Int) (x : Int) : Int := dotV r ((lagV r ids x).zip l)
theorem zip_next {a b : List Int} {i : Nat} (ha : i < a.length) (hb : i < b.length) : (a.zip b).take (i + 1) = (a.zip b).take i ++ [(a.getD i 0, b.getD i 0)] := by
  have hz : i < (a.zip b).length := by rw [List.length_zip]; omega
  rw [List.take_succ_eq_append_getElem hz, List.getElem_zip, List.getD_eq_getElem?_getD, List.getD_eq_getElem?_getD, List.getElem?_eq_getElem ha, List.getElem?_eq_getElem hb]; rfl
theorem lagV_lt {r : Int} (hr : 0 < r) (ids : List Int) (x : Int) : ∀ z ∈ lagV r ids x, 0 ≤ z ∧ z < r := by
  intro z hz
  obtain ⟨i, _, rfl⟩ := List.mem_map.1 hz
  exact ⟨Int.emod_nonneg _ (by omega), Int.emod_lt_of_pos _ hr⟩
def joinPre (s : Int) (ids l : List Int) (a : Int) : Prop := isS s ∧ idsOk ids ∧ ids.length ≤ 64 ∧ l.length = ids.length ∧ allLt (rOf s) l ∧ 0 ≤ a ∧ a ≤ 1000
noncomputable def kJoin (f : FuncId) : K := { fn := f, ext := false, ins := [.agg [.int .i64], .lst (.int .i64), .lst .num, iI], outs := [oN], pre := fun | [s, x, l, a] => joinPre s (dec x) (dec l) a | _ => False, sem := fun | [s, x, l, a] => [joinV (rOf s) (dec x) (dec l) a] | _ => [] }
def tJoin : Tree := (.req 0 [(.var 0), (.var 1), (.var 3)]
(.lett 4 (.lst .num) (.app 0 0 [(.var 0), (.var 1), (.var 3)])
(.lett 5 (.int .i64) (.llen (.var 4))
(.loop [(.lit 0), (.lit 0)] [(.int .i64), .num] 6
(.lett 8 .bit (.cmp .lss (.var 6) (.var 5))
(.split 8
 (.lett 9 (.int .i64) (.llen (.var 4))
 (.lett 10 .bit (.cmp .leq (.lit 0) (.var 6))
 (.lett 11 .bit (.cmp .lss (.var 6) (.var 9))
 (.nz (.var 10)
 (.nz (.var 11)
 (.lett 12 .num (.lget (.var 4) (.var 6))
 (.lett 301 (.int .i64) (.llen (.var 2))
 (.lett 302 .bit (.cmp .leq (.lit 0) (.var 6))
 (.lett 303 .bit (.cmp .lss (.var 6) (.var 301))
 (.nz (.var 302)
 (.nz (.var 303)
 (.lett 349 .num (.lget (.var 2) (.var 6))
 (.req 1 [(.var 0), (.var 12), (.var 349)]
 (.lett 397 .num (.app 1 0 [(.var 0), (.var 12), (.var 349)])
 (.req 2 [(.var 0), (.var 7), (.var 397)]
 (.lett 445 .num (.app 2 0 [(.var 0), (.var 7), (.var 397)])
 (.lett 541 (.int .i64) (.bin .add .i64 (.var 6) (.lit 1))
 (.back 0 [(.var 541), (.var 445)]))))))))))))))))))
 (.ret [(.var 7)])))))))
theorem law_join (te : TypeId) (f1 f2 f3 f : FuncId) (e : Nat → Int) (hp : (kJoin f).pre [e 0, e 1, e 2, e 3]) : tJoin.says [kLagr te f1, kF2 f2 (fun a b => a * b), kF2 f3 (fun a b => a + b)] ⟨fun ys => ys = (kJoin f).sem [e 0, e 1, e 2, e 3], []⟩ e := by
  obtain ⟨hs, hi, hl, hll, hlt, hx0, hx1⟩ : joinPre (e 0) (dec (e 1)) (dec (e 2)) (e 3) := hp
  have hr := rOf_big hs
  refine ⟨⟨hs, hi, hl, hx0, hx1⟩, fun a4 _ a5 _ => ?_⟩
  have v4 : dec (e 4) = lagV (rOf (e 0)) (dec (e 1)) (e 3) := by
    have : e 4 = enc (lagV (rOf (e 0)) (dec (e 1)) (e 3)) := a4
    rw [this, dec_enc]
  have hlv := lagV_lt (r := rOf (e 0)) (by omega) (dec (e 1)) (e 3)
  have hln := lagV_len (rOf (e 0)) (dec (e 1)) (e 3)
  have v5 : e 5 = ((dec (e 2)).length : Int) := by
    have : e 5 = ((dec (e 4)).length : Int) := a5
    rw [this, v4, hln, hll]
  show Tree.says _ _ ⟨fun ys => ys = [dotV (rOf (e 0)) ((lagV (rOf (e 0)) (dec (e 1)) (e 3)).zip (dec (e 2)))], []⟩ e
  generalize lagV (rOf (e 0)) (dec (e 1)) (e 3) = g at *
  generalize hM : dec (e 2) = l at *
  refine ⟨fun | [i, o] => 0 ≤ i ∧ i ≤ l.length ∧ o = dotV (rOf (e 0)) ((g.zip l).take i.toNat) | _ => False, fun | [i, _] => (l.length - i).toNat | _ => 0, ⟨Int.le_refl _, (show (0 : Int) ≤ l.length by omega), rfl⟩, fun e' he hkk hI => ?_⟩
  obtain ⟨i0, i1, i2⟩ : 0 ≤ e' 6 ∧ e' 6 ≤ l.length ∧ e' 7 = dotV (rOf (e 0)) ((g.zip l).take (e' 6).toNat) := hI
  have e0 := he 0 (by decide)
  have e2 := he 2 (by decide)
  have e4 := he 4 (by decide)
  have e5 := he 5 (by decide)
  have o0 := dotV_lt (r := rOf (e 0)) (by omega) ((g.zip l).take (e' 6).toNat)
  rw [← i2] at o0
  intro a8 _
  have b8 := c_lt a8
  simp only [ev_var, ev_lit] at b8
  refine ⟨fun h => ?_, fun h => ?_⟩
  · have c8 := yes_ h b8
    have hit : (e' 6).toNat < l.length := by omega
    have hit' : (e' 6).toNat < g.length := by omega
    intro a9 _ a10 _ a11 _
    have v9 : e' 9 = (l.length : Int) := by
      have : e' 9 = ((dec (e' 4)).length : Int) := a9
      rw [this, e4, v4, hln, hll]
    have b10 := c_le a10
    have b11 := c_lt a11
    simp only [ev_var, ev_lit] at b10 b11
    refine ⟨(show e' 10 ≠ 0 by omega), (show e' 11 ≠ 0 by omega), fun a12 _ a301 _ a302 _ a303 _ => ?_⟩
    have v12 : e' 12 = g.getD (e' 6).toNat 0 := by
      have : e' 12 = (dec (e' 4)).getD (e' 6).toNat 0 := a12
      rw [this, e4, v4]
    have v301 : e' 301 = (l.length : Int) := by
      have : e' 301 = ((dec (e' 2)).length : Int) := a301
      rw [this, e2, hM]
    have b302 := c_le a302
    have b303 := c_lt a303
    simp only [ev_var, ev_lit] at b302 b303
    refine ⟨(show e' 302 ≠ 0 by omega), (show e' 303 ≠ 0 by omega), fun a349 _ => ?_⟩
    have v349 : e' 349 = l.getD (e' 6).toNat 0 := by
      have : e' 349 = (dec (e' 2)).getD (e' 6).toNat 0 := a349
      rw [this, e2, hM]
    have w12 := hlv _ (getD_mem hit')
    have w349 := hlt _ (getD_mem hit)
    rw [← v12] at w12
    rw [← v349] at w349
    refine ⟨⟨(show isS (e' 0) by rw [e0]; exact hs), (show e' 12 < rOf (e' 0) by rw [e0]; omega), (show e' 349 < rOf (e' 0) by rw [e0]; omega)⟩, fun a397 _ => ?_⟩
    have v397 : e' 397 = e' 12 * e' 349 % rOf (e' 0) := a397
    have w397 : e' 397 < rOf (e 0) := by rw [v397, e0]; exact Int.emod_lt_of_pos _ (by omega)
    refine ⟨⟨(show isS (e' 0) by rw [e0]; exact hs), (show e' 7 < rOf (e' 0) by rw [e0]; omega), (show e' 397 < rOf (e' 0) by rw [e0]; omega)⟩, fun a445 _ a541 _ => ?_⟩
    have v445 : e' 445 = (e' 7 + e' 397) % rOf (e' 0) := a445
    have v541 : e' 541 = e' 6 + 1 := by
      have : e' 541 = binE .add .i64 (e' 6) 1 := a541
      rw [this]; simp only [binE, wr]; omega
    show (0 ≤ e' 541 ∧ e' 541 ≤ l.length ∧ e' 445 = dotV (rOf (e 0)) ((g.zip l).take (e' 541).toNat)) ∧ (l.length - e' 541).toNat < (l.length - e' 6).toNat
    refine ⟨⟨by omega, by omega, ?_⟩, by omega⟩
    rw [v541, show (e' 6 + 1).toNat = (e' 6).toNat + 1 by omega, zip_next hit' hit, dotV_snoc, ← i2, v445, v397, v12, v349, e0]
  · have c8 := no_ h b8
    show [e' 7] = [dotV (rOf (e 0)) (g.zip l)]
    rw [i2, List.take_of_length_le (by rw [List.length_zip]; omega)]
noncomputable def kRJoin (f : FuncId) : K := { fn := f, ext := false, ins := [iI, .lst (.int .i64), .lst .num, iI], outs := [oN], pre := fun | [s, x, l, a] => joinPre s (dec x) (dec l) a ∧ (dec x).Nodup | _ => False, sem := fun | [s, x, l, a] => [joinV (rOf s) (dec x) (dec l) a] | _ => [] }
def tRJoin : Tree := (.req 0 [(.var 0), (.var 1), (.var 3)]
(.lett 4 (.lst .num) (.app 0 0 [(.var 0), (.var 1), (.var 3)])
(.loop [(.lit 0), (.lit 0)] [(.int .i64), .num] 5
(.lett 7 (.int .i64) (.llen (.var 1))
(.lett 8 .bit (.cmp .lss (.var 5) (.var 7))
(.split 8
 (.lett 249 (.int .i64) (.llen (.var 4))
 (.lett 250 .bit (.cmp .leq (.lit 0) (.var 5))
 (.lett 251 .bit (.cmp .lss (.var 5) (.var 249))
 (.nz (.var 250)
 (.nz (.var 251)
 (.lett 297 .num (.lget (.var 4) (.var 5))
 (.lett 441 (.int .i64) (.llen (.var 2))
 (.lett 442 .bit (.cmp .leq (.lit 0) (.var 5))
 (.lett 443 .bit (.cmp .lss (.var 5) (.var 441))
 (.nz (.var 442)
 (.nz (.var 443)
 (.lett 489 .num (.lget (.var 2) (.var 5))
 (.req 1 [(.var 0), (.var 297), (.var 489)]
 (.lett 537 .num (.app 1 0 [(.var 0), (.var 297), (.var 489)])
 (.req 2 [(.var 0), (.var 6), (.var 537)]
 (.lett 585 .num (.app 2 0 [(.var 0), (.var 6), (.var 537)])
 (.lett 681 (.int .i64) (.bin .add .i64 (.var 5) (.lit 1))
 (.back 0 [(.var 681), (.var 585)]))))))))))))))))))
 (.ret [(.var 6)])))))))
theorem law_rJoin (te : TypeId) (f1 f2 f3 f : FuncId) (e : Nat → Int) (hp : (kRJoin f).pre [e 0, e 1, e 2, e 3]) : tRJoin.says [kRLagr te f1, kR2 f2 (fun a b => a * b), kR2 f3 (fun a b => a + b)] ⟨fun ys => ys = (kRJoin f).sem [e 0, e 1, e 2, e 3], []⟩ e := by
  obtain ⟨⟨hs, hi, hl, hll, hlt, hx0, hx1⟩, hnd⟩ : joinPre (e 0) (dec (e 1)) (dec (e 2)) (e 3) ∧ (dec (e 1)).Nodup := hp
  have hr := rOf_big hs
  refine ⟨⟨hs, hi, hnd, hl, hx0, hx1⟩, fun a4 _ => ?_⟩
  have v4 : dec (e 4) = lagV (rOf (e 0)) (dec (e 1)) (e 3) := by
    have : e 4 = enc (lagV (rOf (e 0)) (dec (e 1)) (e 3)) := a4
    rw [this, dec_enc]
  have hlv := lagV_lt (r := rOf (e 0)) (by omega) (dec (e 1)) (e 3)
  have hln := lagV_len (rOf (e 0)) (dec (e 1)) (e 3)
  show Tree.says _ _ ⟨fun ys => ys = [dotV (rOf (e 0)) ((lagV (rOf (e 0)) (dec (e 1)) (e 3)).zip (dec (e 2)))], []⟩ e
  generalize lagV (rOf (e 0)) (dec (e 1)) (e 3) = g at *
  generalize hM : dec (e 2) = l at *
  refine ⟨fun | [i, o] => 0 ≤ i ∧ i ≤ l.length ∧ o = dotV (rOf (e 0)) ((g.zip l).take i.toNat) | _ => False, fun | [i, _] => (l.length - i).toNat | _ => 0, ⟨Int.le_refl _, (show (0 : Int) ≤ l.length by omega), rfl⟩, fun e' he hkk hI => ?_⟩
  obtain ⟨i0, i1, i2⟩ : 0 ≤ e' 5 ∧ e' 5 ≤ l.length ∧ e' 6 = dotV (rOf (e 0)) ((g.zip l).take (e' 5).toNat) := hI
  have e0 := he 0 (by decide)
  have e1 := he 1 (by decide)
  have e2 := he 2 (by decide)
  have e4 := he 4 (by decide)
  have o0 := dotV_lt (r := rOf (e 0)) (by omega) ((g.zip l).take (e' 5).toNat)
  rw [← i2] at o0
  intro a7 _ a8 _
  have v7 : e' 7 = (l.length : Int) := by
    have : e' 7 = ((dec (e' 1)).length : Int) := a7
    rw [this, e1, hll]
  have b8 := c_lt a8
  simp only [ev_var, ev_lit] at b8
  refine ⟨fun h => ?_, fun h => ?_⟩
  · have c8 := yes_ h b8
    have hit : (e' 5).toNat < l.length := by omega
    have hit' : (e' 5).toNat < g.length := by omega
    intro a249 _ a250 _ a251 _
    have v249 : e' 249 = (l.length : Int) := by
      have : e' 249 = ((dec (e' 4)).length : Int) := a249
      rw [this, e4, v4, hln, hll]
    have b250 := c_le a250
    have b251 := c_lt a251
    simp only [ev_var, ev_lit] at b250 b251
    refine ⟨(show e' 250 ≠ 0 by omega), (show e' 251 ≠ 0 by omega), fun a297 _ a441 _ a442 _ a443 _ => ?_⟩
    have v297 : e' 297 = g.getD (e' 5).toNat 0 := by
      have : e' 297 = (dec (e' 4)).getD (e' 5).toNat 0 := a297
      rw [this, e4, v4]
    have v441 : e' 441 = (l.length : Int) := by
      have : e' 441 = ((dec (e' 2)).length : Int) := a441
      rw [this, e2, hM]
    have b442 := c_le a442
    have b443 := c_lt a443
    simp only [ev_var, ev_lit] at b442 b443
    refine ⟨(show e' 442 ≠ 0 by omega), (show e' 443 ≠ 0 by omega), fun a489 _ => ?_⟩
    have v489 : e' 489 = l.getD (e' 5).toNat 0 := by
      have : e' 489 = (dec (e' 2)).getD (e' 5).toNat 0 := a489
      rw [this, e2, hM]
    have w297 := hlv _ (getD_mem hit')
    have w489 := hlt _ (getD_mem hit)
    rw [← v297] at w297
    rw [← v489] at w489
    refine ⟨⟨(show isS (e' 0) by rw [e0]; exact hs), (show e' 297 < rOf (e' 0) by rw [e0]; omega), (show e' 489 < rOf (e' 0) by rw [e0]; omega)⟩, fun a537 _ => ?_⟩
    have v537 : e' 537 = e' 297 * e' 489 % rOf (e' 0) := a537
    have w537 : e' 537 < rOf (e 0) := by rw [v537, e0]; exact Int.emod_lt_of_pos _ (by omega)
    refine ⟨⟨(show isS (e' 0) by rw [e0]; exact hs), (show e' 6 < rOf (e' 0) by rw [e0]; omega), (show e' 537 < rOf (e' 0) by rw [e0]; omega)⟩, fun a585 _ a681 _ => ?_⟩
    have v585 : e' 585 = (e' 6 + e' 537) % rOf (e' 0) := a585
    have v681 : e' 681 = e' 5 + 1 := by
      have : e' 681 = binE .add .i64 (e' 5) 1 := a681
      rw [this]; simp only [binE, wr]; omega
    show (0 ≤ e' 681 ∧ e' 681 ≤ l.length ∧ e' 585 = dotV (rOf (e 0)) ((g.zip l).take (e' 681).toNat)) ∧ (l.length - e' 681).toNat < (l.length - e' 5).toNat
    refine ⟨⟨by omega, by omega, ?_⟩, by omega⟩
    rw [v681, show (e' 5 + 1).toNat = (e' 5).toNat + 1 by omega, zip_next hit' hit, dotV_snoc, ← i2, v585, v537, v297, v489, e0]
  · have c8 := no_ h b8
    show [e' 6] = [dotV (rOf (e 0)) (g.zip l)]
    rw [i2, List.take_of_length_le (by rw [List.length_zip]; omega)]
end Go.Sx
