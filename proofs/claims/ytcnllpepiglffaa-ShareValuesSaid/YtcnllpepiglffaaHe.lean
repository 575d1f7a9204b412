/- Laws: lent lists of numbers, and whether they were kept; a polynomial's value, its shares; how many nodes may be false. -/
import Derived.Test.YtcnllpepiglffaaHd
namespace Go.Sx
open Go Go.RowKit
set_option maxRecDepth 100000
set_option linter.unusedSimpArgs false
set_option linter.unusedVariables false
def pad (i : Int) : Int := 77 + 18446744073709551616 * i
/-- a list and what lies behind it -/
def lentL (l : List Int) : List Int := l ++ [pad l.length, pad (l.length + 1), pad (l.length + 2)]
noncomputable def kLentN (te : TypeId) (f : FuncId) : K := { fn := f, ext := false, ins := [.lst .num], outs := [.lent te .num], pre := fun | [x] => (dec x).length ≤ 1000 | _ => False, sem := fun | [x] => [enc (lentL (dec x)), ((dec x).length : Int)] | _ => [] }
noncomputable def kSameN (f : FuncId) : K := { fn := f, ext := false, ins := [.lst .num, .lst .num], outs := [oB], pre := fun _ => True, sem := fun | [x, y] => [bi (dec x = dec y)] | _ => [] }
noncomputable def kKeptN (f : FuncId) : K := { fn := f, ext := false, ins := [.lent .num, .lst .num], outs := [oB], pre := fun | [x, n, y] => (dec y).length ≤ 1000 | _ => False, sem := fun | [x, n, y] => [bi (n = ((dec y).length : Int) ∧ dec x = lentL (dec y))] | _ => [] }
def LentI (l : List Int) : List Int → Prop
  | [i, x] => (i = l.length ∧ x = enc (l ++ [0, 0, 0])) ∨ (i = l.length + 1 ∧ x = enc (l ++ [pad l.length, 0, 0])) ∨ (i = l.length + 2 ∧ x = enc (l ++ [pad l.length, pad (l.length + 1), 0])) ∨ (i = l.length + 3 ∧ x = enc (lentL l))
  | _ => False
theorem set_behind (l k : List Int) (j : Nat) (z : Int) : (l ++ k).set (l.length + j) z = l ++ k.set j z := by
  rw [List.set_append, if_neg (by omega), Nat.add_sub_cancel_left]
theorem lentI_len {l : List Int} {i x : Int} (h : LentI l [i, x]) : (dec x).length = l.length + 3 ∧ (l.length : Int) ≤ i ∧ i ≤ l.length + 3 := by
  rcases h with ⟨h1, h2⟩ | ⟨h1, h2⟩ | ⟨h1, h2⟩ | ⟨h1, h2⟩ <;> rw [h2, dec_enc] <;> refine ⟨by simp [lentL], by omega, by omega⟩
theorem lentI_step {l : List Int} {i x : Int} (h : LentI l [i, x]) (hi : i < l.length + 3) : LentI l [i + 1, enc ((dec x).set i.toNat (pad i))] := by
  rcases h with ⟨h1, h2⟩ | ⟨h1, h2⟩ | ⟨h1, h2⟩ | ⟨h1, h2⟩
  · subst h1 h2
    refine .inr (.inl ⟨rfl, ?_⟩)
    rw [dec_enc, show ((l.length : Int)).toNat = l.length + 0 by omega, set_behind]; rfl
  · subst h1 h2
    refine .inr (.inr (.inl ⟨by omega, ?_⟩))
    rw [dec_enc, show ((l.length : Int) + 1).toNat = l.length + 1 by omega, set_behind]; rfl
  · subst h1 h2
    refine .inr (.inr (.inr ⟨by omega, ?_⟩))
    rw [dec_enc, show ((l.length : Int) + 2).toNat = l.length + 2 by omega, set_behind]; rfl
  · omega
def tLentN : Tree := (.lett 1 (.int .i64) (.llen (.var 0))
(.lett 2 (.int .i64) (.bin .add .i64 (.var 1) (.lit 3))
(.lett 3 .bit (.cmp .leq (.lit 0) (.var 2))
(.lett 4 .bit (.cmp .lss (.var 2) (.lit 4294967296))
(.nz (.var 3)
(.nz (.var 4)
(.lett 5 (.lst .num) (.lrep (.var 2) (.lit 0))
(.lett 6 (.int .i64) (.llen (.var 5))
(.lett 7 .bit (.cmp .lss (.lit 0) (.var 6))
(.nz (.var 7)
(.lett 8 (.lst .num) (.lcpy (.var 5) (.var 0))
(.lett 9 (.int .i64) (.llen (.var 0))
(.loop [(.var 9), (.var 8)] [(.int .i64), (.lst .num)] 10
(.lett 12 (.int .i64) (.llen (.var 11))
(.lett 13 .bit (.cmp .lss (.var 10) (.var 12))
(.split 13
 (.lett 14 (.int .u64) (.conv .u64 (.var 10))
 (.lett 15 (.int .i64) (.llen (.var 11))
 (.lett 16 .bit (.cmp .leq (.lit 0) (.var 10))
 (.lett 17 .bit (.cmp .lss (.var 10) (.var 15))
 (.nz (.var 16)
 (.nz (.var 17)
 (.lett 18 .num (.join [(.lit 77), (.var 14), (.lit 0), (.lit 0), (.lit 0), (.lit 0)])
 (.lett 19 (.lst .num) (.lput (.var 11) (.var 10) (.var 18))
 (.lett 20 (.int .i64) (.bin .add .i64 (.var 10) (.lit 1))
 (.back 0 [(.var 20), (.var 19)]))))))))))
 (.lett 14 (.int .i64) (.llen (.var 0))
 (.lett 15 (.int .i64) (.llen (.var 11))
 (.lett 16 .bit (.cmp .leq (.lit 0) (.lit 0))
 (.lett 17 .bit (.cmp .leq (.lit 0) (.var 14))
 (.lett 18 .bit (.cmp .leq (.var 14) (.var 15))
 (.nz (.var 16)
 (.nz (.var 17)
 (.nz (.var 18)
 (.ret [(.var 11), (.var 14)])))))))))))))))))))))))))
theorem law_lentN (te : TypeId) (f : FuncId) (e : Nat → Int) (hp : (kLentN te f).pre [e 0]) : tLentN.says [] ⟨fun ys => ys = (kLentN te f).sem [e 0], []⟩ e := by
  have hl : (dec (e 0)).length ≤ 1000 := hp
  simp only [tLentN, kLentN, Tree.says, List.getElem?_cons_zero, List.getElem?_cons_succ, List.map, ev_lit, ev_var, ev_limb, D.ev, List.getD_cons_zero, List.getD_cons_succ]
  intro a1 _ a2 _ a3 _ a4 _
  generalize hL : dec (e 0) = l at *
  have v2 : e 2 = l.length + 3 := by rw [a2, a1]; simp only [binE, wr]; omega
  refine ⟨bit_nz a3 (by omega), lt_nz a4 (by omega), fun a5 _ a6 _ a7 _ => ?_⟩
  rw [v2] at a5
  rw [a5, dec_enc, List.length_replicate] at a6
  refine ⟨lt_nz a7 (by omega), fun a8 _ a9 _ => ?_⟩
  have v8 : e 8 = enc (l ++ [0, 0, 0]) := by
    rw [a8, a5, dec_enc, List.length_replicate, show ((l.length : Int) + 3).toNat = l.length + 3 by omega, List.take_of_length_le (by omega), List.drop_replicate, show l.length + 3 - l.length = 3 by omega]
    rfl
  refine ⟨LentI l, fun | [i, _] => (l.length + 3 - i).toNat | _ => 0, .inl ⟨a9, v8⟩, fun e' he hkk hI => ?_⟩
  have hI : LentI l [e' 10, e' 11] := hI
  obtain ⟨n1, n2, n3⟩ := lentI_len hI
  simp only [he 0 (by decide), hL]
  intro a12 _ a13 _
  have b13 := c_lt a13
  rw [a12, n1] at b13
  refine ⟨fun h => ?_, fun h => ?_⟩
  · intro a14 _ a15 _ a16 _ a17 _
    refine ⟨bit_nz a16 (by omega), lt_nz a17 (by rw [a15, n1]; omega), fun a18 _ a19 _ a20 _ => ?_⟩
    have v14 : e' 14 = e' 10 := by rw [a14]; simp only [wr]; omega
    have v18 : e' 18 = pad (e' 10) := by rw [a18, joinE6, v14]; unfold pad; omega
    have v20 : e' 20 = e' 10 + 1 := by rw [a20]; simp only [binE, wr]; omega
    show LentI l [e' 20, e' 19] ∧ (l.length + 3 - e' 20).toNat < (l.length + 3 - e' 10).toNat
    rw [v20, a19, v18]
    exact ⟨lentI_step hI (by omega), by omega⟩
  · intro a14 _ a15 _ a16 _ a17 _ a18 _
    refine ⟨bit_nz a16 (by omega), bit_nz a17 (by omega), ?_, ?_⟩
    · have := c_le a18; rw [a14, a15, n1] at this; omega
    · rcases hI with ⟨h1, h2⟩ | ⟨h1, h2⟩ | ⟨h1, h2⟩ | ⟨h1, h2⟩
      · omega
      · omega
      · omega
      · rw [h2, a14]
def tSameN : Tree := (.lett 2 (.int .i64) (.llen (.var 0))
(.lett 3 (.int .i64) (.llen (.var 1))
(.lett 4 .bit (.cmp .neq (.var 2) (.var 3))
(.split 4
 (.ret [(.lit 0)])
 (.loop [(.lit 0)] [(.int .i64)] 5
 (.lett 6 (.int .i64) (.llen (.var 0))
 (.lett 7 .bit (.cmp .lss (.var 5) (.var 6))
 (.split 7
  (.lett 104 (.int .i64) (.llen (.var 0))
  (.lett 105 .bit (.cmp .leq (.lit 0) (.var 5))
  (.lett 106 .bit (.cmp .lss (.var 5) (.var 104))
  (.nz (.var 105)
  (.nz (.var 106)
  (.lett 152 .num (.lget (.var 0) (.var 5))
  (.lett 296 (.int .i64) (.llen (.var 1))
  (.lett 297 .bit (.cmp .leq (.lit 0) (.var 5))
  (.lett 298 .bit (.cmp .lss (.var 5) (.var 296))
  (.nz (.var 297)
  (.nz (.var 298)
  (.lett 344 .num (.lget (.var 1) (.var 5))
  (.lett 392 .bit (.eqs [((.limb 152 0), (.limb 344 0)), ((.limb 152 1), (.limb 344 1)), ((.limb 152 2), (.limb 344 2)), ((.limb 152 3), (.limb 344 3)), ((.limb 152 4), (.limb 344 4)), ((.limb 152 5), (.limb 344 5))])
  (.lett 393 .bit (.not (.var 392))
  (.split 393
   (.ret [(.lit 0)])
   (.lett 440 (.int .i64) (.bin .add .i64 (.var 5) (.lit 1))
   (.back 0 [(.var 440)])))))))))))))))))
  (.ret [(.lit 1)])))))))))
theorem law_sameN (f : FuncId) (e : Nat → Int) (hk : kkHas [.lst .num, .lst .num] [e 0, e 1]) : tSameN.says [] ⟨fun ys => ys = (kSameN f).sem [e 0, e 1], []⟩ e := by
  have hl : (dec (e 0)).length ≤ 9223372036854775807 := hk.1.1
  have hl' : (dec (e 1)).length ≤ 9223372036854775807 := hk.2.1.1
  have hn := hk.1.2
  have hn' := hk.2.1.2
  simp only [tSameN, kSameN, Tree.says, List.getElem?_cons_zero, List.getElem?_cons_succ, List.map, ev_lit, ev_var, ev_limb, D.ev, List.getD_cons_zero, List.getD_cons_succ]
  intro a2 _ a3 _ a4 _
  have b4 := c_ne a4
  rw [a2, a3] at b4
  generalize hL : dec (e 0) = l at *
  generalize hM : dec (e 1) = k at *
  refine ⟨fun h => ?_, fun h => ?_⟩
  · rw [bi_0 (fun hc => by rw [hc] at b4; omega)]
  · have hlen : l.length = k.length := by omega
    refine ⟨fun | [i] => 0 ≤ i ∧ i ≤ l.length ∧ l.take i.toNat = k.take i.toNat | _ => False, fun | [i] => l.length - i.toNat | _ => 0, ⟨Int.le_refl _, by omega, by simp⟩, fun e' he hkk hI => ?_⟩
    obtain ⟨i0, i1, i2⟩ : 0 ≤ e' 5 ∧ e' 5 ≤ l.length ∧ l.take (e' 5).toNat = k.take (e' 5).toNat := hI
    simp only [he 0 (by decide), he 1 (by decide), hL, hM]
    intro a6 _ a7 _
    have b7 := c_lt a7
    refine ⟨fun h => ?_, fun h => ?_⟩
    · intro a104 _ a105 _ a106 _
      refine ⟨bit_nz a105 i0, lt_nz a106 (by omega), fun a152 h152 a296 _ a297 _ a298 _ => ⟨bit_nz a297 i0, lt_nz a298 (by omega), fun a344 h344 a392 _ a393 _ => ?_⟩⟩
      have hi : (e' 5).toNat < l.length := by omega
      have hi' : (e' 5).toNat < k.length := by omega
      have b392 := c_num (i := 152) (j := 344) a392 h152 h344
      have b393 := c_not a393
      refine ⟨fun h1 => ?_, fun h1 => ?_⟩
      · rw [bi_0 (fun hc => by rw [a152, a344, hc] at b392; omega)]
      · intro a440 _
        have v440 : e' 440 = e' 5 + 1 := by rw [a440]; simp only [binE, wr]; omega
        show (0 ≤ e' 440 ∧ e' 440 ≤ l.length ∧ l.take (e' 440).toNat = k.take (e' 440).toNat) ∧ l.length - (e' 440).toNat < l.length - (e' 5).toNat
        rw [v440]
        refine ⟨⟨by omega, by omega, ?_⟩, by omega⟩
        rw [show (e' 5 + 1).toNat = (e' 5).toNat + 1 by omega, take_next hi, take_next hi', i2]
        congr 2
        rw [← a152, ← a344]; omega
    · rw [bi_1 ?_]
      rw [List.take_of_length_le (by omega), List.take_of_length_le (by omega)] at i2
      exact i2
def tKeptN : Tree := (.lett 147 (.int .i64) (.llen (.var 2))
(.lett 195 .bit (.cmp .eql (.var 1) (.var 147))
(.split 195
 (.lett 387 (.int .i64) (.llen (.var 0))
 (.lett 435 (.int .i64) (.llen (.var 0))
 (.lett 436 .bit (.cmp .leq (.lit 0) (.lit 0))
 (.lett 437 .bit (.cmp .leq (.lit 0) (.var 387))
 (.lett 438 .bit (.cmp .leq (.var 387) (.var 435))
 (.nz (.var 436)
 (.nz (.var 437)
 (.nz (.var 438)
 (.req 0 [(.var 2)]
 (.lett 531 (.lst .num) (.app 0 0 [(.var 2)])
 (.lett 532 (.int .i64) (.app 0 1 [(.var 2)])
 (.lett 627 (.int .i64) (.llen (.var 2))
 (.lett 675 (.int .i64) (.bin .add .i64 (.var 627) (.lit 3))
 (.lett 723 (.int .i64) (.llen (.var 531))
 (.lett 724 .bit (.cmp .leq (.lit 0) (.lit 0))
 (.lett 725 .bit (.cmp .leq (.lit 0) (.var 675))
 (.lett 726 .bit (.cmp .leq (.var 675) (.var 723))
 (.nz (.var 724)
 (.nz (.var 725)
 (.nz (.var 726)
 (.lett 771 (.lst .num) (.lsub (.var 0) (.lit 0) (.var 387))
 (.lett 772 (.lst .num) (.lsub (.var 531) (.lit 0) (.var 675))
 (.req 1 [(.var 771), (.var 772)]
 (.lett 773 .bit (.app 1 0 [(.var 771), (.var 772)])
 (.ret [(.var 773)])))))))))))))))))))))))))
 (.ret [(.lit 0)]))))
theorem law_keptN (te : TypeId) (f1 f2 f : FuncId) (e : Nat → Int) (hk : kkHas [.lst .num, .int .i64, .lst .num] [e 0, e 1, e 2]) (hp : (kKeptN f).pre [e 0, e 1, e 2]) : tKeptN.says [kLentN te f1, kSameN f2] ⟨fun ys => ys = (kKeptN f).sem [e 0, e 1, e 2], []⟩ e := by
  have hl : (dec (e 2)).length ≤ 1000 := hp
  have hl' : (dec (e 0)).length ≤ 9223372036854775807 := hk.1.1
  simp only [tKeptN, kLentN, kSameN, kKeptN, Tree.says, List.getElem?_cons_zero, List.getElem?_cons_succ, List.map, ev_lit, ev_var, ev_limb, D.ev, List.getD_cons_zero, List.getD_cons_succ]
  intro a147 _ a195 _
  have b195 := c_eq a195
  rw [a147] at b195
  generalize hL : dec (e 2) = l at *
  generalize hM : dec (e 0) = k at *
  refine ⟨fun h => ?_, fun h => ?_⟩
  · intro a387 _ a435 _ a436 _ a437 _ a438 _
    refine ⟨bit_nz a436 (by omega), bit_nz a437 (by omega), ?_, ?_⟩
    · have := c_le a438; rw [a387, a435] at this; omega
    refine ⟨hl, fun a531 _ a532 _ a627 _ a675 _ a723 _ a724 _ a725 _ a726 _ => ?_⟩
    have v675 : e 675 = l.length + 3 := by rw [a675, a627]; simp only [binE, wr]; omega
    have hll : (lentL l).length = l.length + 3 := by simp [lentL]
    have v723 : e 723 = l.length + 3 := by rw [a723, a531, dec_enc, hll]; omega
    refine ⟨bit_nz a724 (by omega), bit_nz a725 (by omega), ?_, ?_⟩
    · have := c_le a726; rw [v675, v723] at this; omega
    intro a771 _ a772 _
    refine ⟨trivial, fun a773 _ => ?_⟩
    have e1 : dec (e 771) = k := by
      rw [a771, dec_enc, a387, Int.toNat_natCast, List.take_length]; rfl
    have e2 : dec (e 772) = lentL l := by
      rw [a772, dec_enc, v675, a531, dec_enc, List.take_of_length_le (by rw [hll]; omega)]; rfl
    rw [a773, e1, e2, bi_and1 (by omega)]
  · rw [bi_and0 (by omega)]
/-! ### a suite's numbers -/
def semF (op : Int → Int → Int) : List Int → List Int := fun | [s, a, b] => [op a b % rOf s] | _ => []
def kF2 (f : FuncId) (op : Int → Int → Int) : K := { fn := f, ext := false, ins := [.agg [.int .i64], iN, iN], outs := [oN], pre := fun | [s, a, b] => isS s ∧ a < rOf s ∧ b < rOf s | _ => False, sem := semF op }
def tShMul : Tree := (.req 0 [(.var 0), (.var 1), (.var 2)]
(.lett 3 .num (.app 0 0 [(.var 0), (.var 1), (.var 2)])
(.lett 4 (.int .i64) (.app 0 1 [(.var 0), (.var 1), (.var 2)])
(.ret [(.var 3)]))))
theorem law_f2 (f1 f : FuncId) (op : Int → Int → Int) (e : Nat → Int) (hp : (kF2 f op).pre [e 0, e 1, e 2]) : tShMul.says [kS2 f1 op] ⟨fun ys => ys = (kF2 f op).sem [e 0, e 1, e 2], []⟩ e := by
  have hp : isS (e 0) ∧ e 1 < rOf (e 0) ∧ e 2 < rOf (e 0) := hp
  simp only [tShMul, kS2, kF2, Tree.says, List.getElem?_cons_zero, List.getElem?_cons_succ, List.map, ev_lit, ev_var, ev_limb, D.ev, List.getD_cons_zero, List.getD_cons_succ]
  refine ⟨trivial, fun a3 _ a4 _ => ?_⟩
  rw [a3, (s2_yes hp).1]; rfl
def kAt (f : FuncId) : K := { fn := f, ext := false, ins := [iI], outs := [oN], pre := fun | [a] => 0 ≤ a | _ => False, sem := fun | [a] => [a] | _ => [] }
def tAt : Tree := (.lett 1 (.int .u64) (.conv .u64 (.var 0))
(.req 0 [(.var 1)]
(.lett 2 .num (.app 0 0 [(.var 1)])
(.ret [(.var 2)]))))
theorem law_at (f1 f : FuncId) (e : Nat → Int) (hk : kkHas [.int .i64] [e 0]) (hp : (kAt f).pre [e 0]) : tAt.says [kOf f1] ⟨fun ys => ys = (kAt f).sem [e 0], []⟩ e := by
  have h0 : 0 ≤ e 0 := hp
  have h1 : e 0 ≤ 9223372036854775807 := by have := hk.1; simp only [KK.has, has, lo, hi] at this; exact this.2
  simp only [tAt, kOf, kAt, Tree.says, List.getElem?_cons_zero, List.getElem?_cons_succ, List.map, ev_lit, ev_var, ev_limb, D.ev, List.getD_cons_zero, List.getD_cons_succ]
  intro a1 _
  refine ⟨trivial, fun a2 _ => ?_⟩
  rw [a2, a1]; simp only [wr]; congr 1; omega
noncomputable def kFVal (f : FuncId) : K := { fn := f, ext := false, ins := [.agg [.int .i64], .lst .num, iN], outs := [oN], pre := fun | [s, x, a] => isS s ∧ allLt (rOf s) (dec x) ∧ (dec x).length ≤ 64 ∧ a < rOf s | _ => False, sem := fun | [s, x, a] => [polyV (dec x) a % rOf s] | _ => [] }
theorem rOf_big {s : Int} (h : isS s) : 1000 < rOf s := by
  obtain ⟨h0, h1⟩ := h
  have : s = 0 ∨ s = 1 ∨ s = 2 := by omega
  rcases this with h | h | h <;> rw [h] <;> decide
theorem errCo_ok {s : Int} {l : List Int} {a : Int} (h : errCo s l a = 0) : isS s ∧ l.length ≤ 64 ∧ allLt (rOf s) l ∧ 0 ≤ a ∧ a ≤ 1000 := by
  unfold errCo at h
  split at h
  · omega
  · split at h
    · omega
    · split at h
      · omega
      · rename_i h1 h2 h3
        refine ⟨Decidable.not_not.1 h1, by omega, Decidable.not_not.1 fun hc => h3 (.inl hc), ?_, ?_⟩
        · have := fun hc => h3 (.inr (.inl hc)); omega
        · have := fun hc => h3 (.inr (.inr hc)); omega
noncomputable def semSVal : List Int → List Int := fun | [s, x, a] => if errCo s (dec x) a = 0 then [polyV (dec x) a % rOf s, 0] else [0, errCo s (dec x) a] | _ => []
noncomputable def kSVal (f : FuncId) : K := { fn := f, ext := false, ins := [iI, .lst .num, iI], outs := [oN, oI], pre := fun _ => True, sem := semSVal }
def tSVal : Tree := (.req 0 [(.var 0), (.var 1), (.var 2)]
(.lett 3 (.int .i64) (.app 0 0 [(.var 0), (.var 1), (.var 2)])
(.lett 4 .bit (.cmp .neq (.var 3) (.lit 0))
(.split 4
 (.ret [(.lit 0), (.var 3)])
 (.req 2 [(.var 2)]
 (.lett 5 .num (.app 2 0 [(.var 2)])
 (.req 1 [(.var 0), (.var 1), (.var 5)]
 (.lett 6 .num (.app 1 0 [(.var 0), (.var 1), (.var 5)])
 (.ret [(.var 6), (.lit 0)])))))))))
theorem law_sVal (f1 f2 f3 f : FuncId) (e : Nat → Int) : tSVal.says [kCoefs f1, kFVal f2, kAt f3] ⟨fun ys => ys = (kSVal f).sem [e 0, e 1, e 2], []⟩ e := by
  simp only [tSVal, kCoefs, kFVal, kAt, kSVal, semSVal, Tree.says, List.getElem?_cons_zero, List.getElem?_cons_succ, List.map, ev_lit, ev_var, ev_limb, D.ev, List.getD_cons_zero, List.getD_cons_succ]
  refine ⟨trivial, fun a3 _ a4 _ => ?_⟩
  have b4 := c_ne a4
  refine ⟨fun h => ?_, fun h => ?_⟩
  · rw [if_neg (by omega), a3]
  · have h0 : errCo (e 0) (dec (e 1)) (e 2) = 0 := by omega
    obtain ⟨h1, h2, h3, h4, h5⟩ := errCo_ok h0
    have := rOf_big h1
    refine ⟨h4, fun a5 _ => ⟨⟨h1, h3, h2, by omega⟩, fun a6 _ => ?_⟩⟩
    rw [if_pos h0, a6, a5]
/-- a polynomial's shares -/
def sharesV (r : Int) (l : List Int) (n : Nat) : List Int := (List.range n).map fun (j : Nat) => polyV l ((j : Int) + 1) % r
noncomputable def errSp (s : Int) (l : List Int) (n : Int) : Int := if errCo s l 0 ≠ 0 then errCo s l 0 else if n < 1 ∨ 64 < n then 2 else 0
noncomputable def semSplit : List Int → List Int := fun | [s, x, n] => if errSp s (dec x) n = 0 then [enc (sharesV (rOf s) (dec x) n.toNat), 0] else [0, errSp s (dec x) n] | _ => []
noncomputable def kSplit (te : TypeId) (f : FuncId) : K := { fn := f, ext := false, ins := [iI, .lst .num, iI], outs := [.lst te .num, oI], pre := fun _ => True, sem := semSplit }
theorem sharesV_len (r : Int) (l : List Int) (n : Nat) : (sharesV r l n).length = n := by simp [sharesV]
theorem sharesV_next (r : Int) (l : List Int) (n : Nat) : sharesV r l (n + 1) = sharesV r l n ++ [polyV l ((n : Int) + 1) % r] := by simp [sharesV, List.range_succ]
def tSplit : Tree := (.req 0 [(.var 0), (.var 1), (.lit 0)]
(.lett 3 (.int .i64) (.app 0 0 [(.var 0), (.var 1), (.lit 0)])
(.lett 4 .bit (.cmp .neq (.var 3) (.lit 0))
(.split 4
 (.ret [(.lit 0), (.var 3)])
 (.lett 5 .bit (.cmp .lss (.var 2) (.lit 1))
 (.split 5
  (.ret [(.lit 0), (.lit 2)])
  (.lett 6 .bit (.cmp .gtr (.var 2) (.lit 64))
  (.split 6
   (.ret [(.lit 0), (.lit 2)])
   (.loop [(.lit 0), (.lit 0)] [(.int .i64), (.lst .num)] 7
   (.lett 9 .bit (.cmp .lss (.var 7) (.var 2))
   (.split 9
    (.lett 10 (.int .i64) (.bin .add .i64 (.var 7) (.lit 1))
    (.req 2 [(.var 10)]
    (.lett 11 .num (.app 2 0 [(.var 10)])
    (.req 1 [(.var 0), (.var 1), (.var 11)]
    (.lett 12 .num (.app 1 0 [(.var 0), (.var 1), (.var 11)])
    (.lett 13 (.int .i64) (.llen (.var 8))
    (.lett 14 .bit (.cmp .lss (.var 13) (.lit 4294967296))
    (.nz (.var 14)
    (.lett 15 (.lst .num) (.lapp (.var 8) [(.var 12)])
    (.lett 16 (.int .i64) (.bin .add .i64 (.var 7) (.lit 1))
    (.back 0 [(.var 16), (.var 15)])))))))))))
    (.ret [(.var 8), (.lit 0)]))))))))))))
theorem law_split (te : TypeId) (f1 f2 f3 f : FuncId) (e : Nat → Int) : tSplit.says [kCoefs f1, kFVal f2, kAt f3] ⟨fun ys => ys = (kSplit te f).sem [e 0, e 1, e 2], []⟩ e := by
  simp only [tSplit, kCoefs, kFVal, kAt, kSplit, semSplit, Tree.says, List.getElem?_cons_zero, List.getElem?_cons_succ, List.map, ev_lit, ev_var, ev_limb, D.ev, List.getD_cons_zero, List.getD_cons_succ]
  refine ⟨trivial, fun a3 _ a4 _ => ?_⟩
  have b4 := c_ne a4
  generalize hL : dec (e 1) = l at *
  refine ⟨fun h => ?_, fun h => ?_⟩
  · have : errSp (e 0) l (e 2) = e 3 := by unfold errSp; rw [if_pos (by omega), a3]
    rw [this, if_neg (by omega)]
  · have h0 : errCo (e 0) l 0 = 0 := by omega
    obtain ⟨h1, h2, h3, h4, h5⟩ := errCo_ok h0
    have hr := rOf_big h1
    intro a5 _
    have b5 := c_lt a5
    refine ⟨fun h => ?_, fun h => ?_⟩
    · have : errSp (e 0) l (e 2) = 2 := by unfold errSp; rw [if_neg (by omega), if_pos (.inl (by omega))]
      rw [this, if_neg (by omega)]
    · intro a6 _
      have b6 := c_gt a6
      refine ⟨fun h => ?_, fun h => ?_⟩
      · have : errSp (e 0) l (e 2) = 2 := by unfold errSp; rw [if_neg (by omega), if_pos (.inr (by omega))]
        rw [this, if_neg (by omega)]
      · have he0 : errSp (e 0) l (e 2) = 0 := by unfold errSp; rw [if_neg (by omega), if_neg (by omega)]
        rw [he0, if_pos rfl]
        refine ⟨fun | [i, x] => 0 ≤ i ∧ i ≤ e 2 ∧ x = enc (sharesV (rOf (e 0)) l i.toNat) | _ => False, fun | [i, _] => (e 2 - i).toNat | _ => 0, ⟨Int.le_refl _, by omega, ?_⟩, fun e' he hkk hI => ?_⟩
        · show (0 : Int) = enc (sharesV _ _ 0); rfl
        obtain ⟨i0, i1, i2⟩ : 0 ≤ e' 7 ∧ e' 7 ≤ e 2 ∧ e' 8 = enc (sharesV (rOf (e 0)) l (e' 7).toNat) := hI
        simp only [he 0 (by decide), he 1 (by decide), he 2 (by decide), hL]
        intro a9 _
        have b9 := c_lt a9
        refine ⟨fun h => ?_, fun h => ?_⟩
        · intro a10 _
          have v10 : e' 10 = e' 7 + 1 := by rw [a10]; simp only [binE, wr]; omega
          refine ⟨by omega, fun a11 _ => ⟨⟨h1, h3, h2, by omega⟩, fun a12 _ a13 _ a14 _ => ?_⟩⟩
          rw [i2, dec_enc, sharesV_len] at a13
          refine ⟨lt_nz a14 (by omega), fun a15 _ a16 _ => ?_⟩
          have v16 : e' 16 = e' 7 + 1 := by rw [a16]; simp only [binE, wr]; omega
          show (0 ≤ e' 16 ∧ e' 16 ≤ e 2 ∧ e' 15 = enc (sharesV (rOf (e 0)) l (e' 16).toNat)) ∧ (e 2 - e' 16).toNat < (e 2 - e' 7).toNat
          rw [v16]
          refine ⟨⟨by omega, by omega, ?_⟩, by omega⟩
          rw [a15, i2, dec_enc, show (e' 7 + 1).toNat = (e' 7).toNat + 1 by omega, sharesV_next, a12, a11, v10, show ((e' 7).toNat : Int) = e' 7 by omega]
        · have : e' 7 = e 2 := by omega
          rw [i2, this]
def kFaults (f : FuncId) : K := { fn := f, ext := false, ins := [iI], outs := [oI], pre := fun _ => True, sem := fun | [n] => [if n < 1 then 0 else (n - 1) / 3] | _ => [] }
def tSFaults : Tree := (.lett 1 .bit (.cmp .lss (.var 0) (.lit 1))
(.lett 2 (.int .i64) (.put (.var 1) 1 (.lit 1) (.var 0))
(.lett 3 (.int .i64) (.bin .sub .i64 (.var 2) (.lit 1))
(.lett 4 (.int .i64) (.bin .quo .i64 (.var 3) (.lit 3))
(.ret [(.var 4)])))))
theorem law_sFaults (f : FuncId) (e : Nat → Int) (hk : kkHas [.int .i64] [e 0]) : tSFaults.says [] ⟨fun ys => ys = (kFaults f).sem [e 0], []⟩ e := by
  have h1 : e 0 ≤ 9223372036854775807 := by have := hk.1; simp only [KK.has, has, lo, hi] at this; exact this.2
  simp only [tSFaults, kFaults, Tree.says, List.getElem?_cons_zero, List.getElem?_cons_succ, List.map, ev_lit, ev_var, ev_limb, D.ev, List.getD_cons_zero, List.getD_cons_succ]
  intro a1 _ a2 _ a3 _ a4 _
  have b1 := c_lt a1
  have v3 : e 3 = (if e 0 < 1 then 1 else e 0) - 1 := by
    have v2 : e 2 = if e 0 < 1 then 1 else e 0 := by rcases b1 with ⟨h, hc⟩ | ⟨h, hc⟩ <;> simp [a2, h, hc]
    rw [a3, v2]
    split <;> simp only [binE, wr] <;> omega
  rw [a4, v3]
  simp only [binE]
  congr 1
  split
  · simp [wr]
  · rw [Int.tdiv_eq_ediv_of_nonneg (by omega)]
    simp only [wr]; omega
def tRFaults : Tree := (.lett 1 .bit (.cmp .lss (.var 0) (.lit 1))
(.split 1
 (.ret [(.lit 0)])
 (.lett 2 (.int .i64) (.bin .sub .i64 (.var 0) (.lit 1))
 (.lett 3 (.int .i64) (.bin .quo .i64 (.var 2) (.lit 3))
 (.ret [(.var 3)])))))
theorem law_rFaults (f : FuncId) (e : Nat → Int) (hk : kkHas [.int .i64] [e 0]) : tRFaults.says [] ⟨fun ys => ys = (kFaults f).sem [e 0], []⟩ e := by
  have h1 : e 0 ≤ 9223372036854775807 := by have := hk.1; simp only [KK.has, has, lo, hi] at this; exact this.2
  simp only [tRFaults, kFaults, Tree.says, List.getElem?_cons_zero, List.getElem?_cons_succ, List.map, ev_lit, ev_var, ev_limb, D.ev, List.getD_cons_zero, List.getD_cons_succ]
  intro a1 _
  have b1 := c_lt a1
  refine ⟨fun h => ?_, fun h => ?_⟩
  · rw [if_pos (by omega)]
  · intro a2 _ a3 _
    have v2 : e 2 = e 0 - 1 := by rw [a2]; simp only [binE, wr]; omega
    rw [if_neg (by omega), a3, v2]
    simp only [binE]
    rw [Int.tdiv_eq_ediv_of_nonneg (by omega)]
    congr 1
    simp only [wr]; omega
end Go.Sx

/- Laws: ShareValues. (The walk over the tree is printed by gval.py.) -/
namespace Go.Sx
open Go Go.RowKit
set_option linter.unusedVariables false
set_option linter.unusedSimpArgs false
set_option maxRecDepth 100000
theorem yes_of {v : Int} {p q : Prop} (h : v ≠ 0) (b : (v = 1 ∧ p) ∨ (v = 0 ∧ q)) : p := by rcases b with ⟨_, hp⟩ | ⟨h0, _⟩; exact hp; exact absurd h0 h
theorem no_of {v : Int} {p q : Prop} (h : v = 0) (b : (v = 1 ∧ p) ∨ (v = 0 ∧ q)) : q := by rcases b with ⟨h1, _⟩ | ⟨_, hq⟩; omega; exact hq
theorem lsub_lent {y z x n : Int} (h : y = enc (((dec x).take n.toNat).drop (0 : Int).toNat)) (hx : x = enc (lentL (dec z))) (hn : n = ((dec z).length : Int)) : dec y = dec z := by
  rw [h, dec_enc, hx, dec_enc, hn]
  simp [lentL]
theorem sv_err {y s x x' a : Int} (h : y = (semSVal [s, x, a]).getD 1 0) (hx : dec x = dec x') : y = errCo s (dec x') a := by
  rw [h, semSVal, hx]; split
  · rename_i h0; rw [h0]; rfl
  · rfl
theorem sv_val {y s x x' a : Int} (h : y = (semSVal [s, x, a]).getD 0 0) (hx : dec x = dec x') : (errCo s (dec x') a ≠ 0 ∧ y = 0) ∨ (errCo s (dec x') a = 0 ∧ y = polyV (dec x') a % rOf s) := by
  rw [h, semSVal, hx]; split
  · exact .inr ⟨by assumption, rfl⟩
  · exact .inl ⟨by assumption, rfl⟩
theorem sp_cases (s : Int) (l : List Int) (n : Int) : (errCo s l 0 ≠ 0 ∧ errSp s l n = errCo s l 0) ∨ (errCo s l 0 = 0 ∧ (n < 1 ∨ 64 < n) ∧ errSp s l n = 2) ∨ (errCo s l 0 = 0 ∧ 1 ≤ n ∧ n ≤ 64 ∧ errSp s l n = 0) := by
  unfold errSp
  by_cases h : errCo s l 0 = 0
  · rw [if_neg (by omega)]
    by_cases h' : n < 1 ∨ 64 < n
    · rw [if_pos h']; exact .inr (.inl ⟨h, h', rfl⟩)
    · rw [if_neg h']; exact .inr (.inr ⟨h, by omega, by omega, rfl⟩)
  · rw [if_pos h]; exact .inl ⟨h, rfl⟩
theorem sp_err {y s x x' n : Int} (h : y = (semSplit [s, x, n]).getD 1 0) (hx : dec x = dec x') : (errCo s (dec x') 0 ≠ 0 ∧ y = errCo s (dec x') 0) ∨ (errCo s (dec x') 0 = 0 ∧ (n < 1 ∨ 64 < n) ∧ y = 2) ∨ (errCo s (dec x') 0 = 0 ∧ 1 ≤ n ∧ n ≤ 64 ∧ y = 0) := by
  have : y = errSp s (dec x') n := by
    rw [h, semSplit, hx]; split
    · rename_i h0; rw [h0]; rfl
    · rfl
  rw [this]; exact sp_cases _ _ _
theorem sp_list {y s x x' n : Int} (h : y = (semSplit [s, x, n]).getD 0 0) (hx : dec x = dec x') (h0 : errCo s (dec x') 0 = 0) (h1 : 1 ≤ n) (h2 : n ≤ 64) : y = enc (sharesV (rOf s) (dec x') n.toNat) := by
  have : errSp s (dec x') n = 0 := by rcases sp_cases s (dec x') n with h | h | h <;> omega
  rw [h, semSplit, hx, if_pos this]; rfl
theorem sp_len {y s x x' n : Int} (h : y = (semSplit [s, x, n]).getD 0 0) (hx : dec x = dec x') : ((errCo s (dec x') 0 ≠ 0 ∨ n < 1 ∨ 64 < n) ∧ (dec y).length = 0) ∨ (errCo s (dec x') 0 = 0 ∧ 1 ≤ n ∧ n ≤ 64 ∧ ((dec y).length : Int) = n) := by
  by_cases hc : errCo s (dec x') 0 = 0 ∧ 1 ≤ n ∧ n ≤ 64
  · have := sp_list h hx hc.1 hc.2.1 hc.2.2
    refine .inr ⟨hc.1, hc.2.1, hc.2.2, ?_⟩
    rw [this, dec_enc, sharesV_len]; omega
  · refine .inl ⟨by omega, ?_⟩
    have hne : errSp s (dec x') n ≠ 0 := by rcases sp_cases s (dec x') n with h | h | h <;> omega
    rw [h, semSplit, hx, if_neg hne]
    show (dec 0).length = 0
    rw [dec_zero]; rfl
theorem kept_yes {y x n z : Int} (h : y = bi (n = ((dec z).length : Int) ∧ dec x = lentL (dec z))) (hx : x = enc (lentL (dec z))) (hn : n = ((dec z).length : Int)) : y = 1 := by
  rw [h, bi_1 ⟨hn, by rw [hx, dec_enc]⟩]
noncomputable def TVal (te : TypeId) (fs : Nat → FuncId) : List K := [kLentN te (fs 0), kSVal (fs 1), kSplit te (fs 2), kKeptN (fs 3), kFaults (fs 4), kFaults (fs 5), kCoefs (fs 6), kRVal (fs 7)]
def kValues (f : FuncId) : K := { fn := f, ext := false, ins := [iI, .lst .num, iI, iI], outs := [oB], pre := fun _ => True, sem := fun _ => [1] }
def loop19 (n0 L : Nat) : Tree := (.loop [(.lit 0)] [(.int .i64)] n0 (.lett (n0 + 1) (.int .i64) (.llen (.var L)) (.lett (n0 + 2) .bit (.cmp .lss (.var n0) (.var (n0 + 1))) (.split (n0 + 2) (.lett (n0 + 99) (.int .i64) (.llen (.var L)) (.lett (n0 + 100) .bit (.cmp .leq (.lit 0) (.var n0)) (.lett (n0 + 101) .bit (.cmp .lss (.var n0) (.var (n0 + 99))) (.nz (.var (n0 + 100)) (.nz (.var (n0 + 101)) (.lett (n0 + 147) .num (.lget (.var L) (.var n0)) (.lett (n0 + 339) (.int .i64) (.bin .add .i64 (.var n0) (.lit 1)) (.req 7 [(.var 0), (.var 1), (.var (n0 + 339))] (.lett (n0 + 387) .num (.app 7 0 [(.var 0), (.var 1), (.var (n0 + 339))]) (.lett (n0 + 435) .bit (.eqs [((.limb (n0 + 147) 0), (.limb (n0 + 387) 0)), ((.limb (n0 + 147) 1), (.limb (n0 + 387) 1)), ((.limb (n0 + 147) 2), (.limb (n0 + 387) 2)), ((.limb (n0 + 147) 3), (.limb (n0 + 387) 3)), ((.limb (n0 + 147) 4), (.limb (n0 + 387) 4)), ((.limb (n0 + 147) 5), (.limb (n0 + 387) 5))]) (.lett (n0 + 436) .bit (.not (.var (n0 + 435))) (.split (n0 + 436) (.ret [(.lit 0)]) (.lett (n0 + 483) (.int .i64) (.bin .add .i64 (.var n0) (.lit 1)) (.back 0 [(.var (n0 + 483))])))))))))))))) (.lett (n0 + 3) (.int .i64) (.llen (.var L)) (.lett (n0 + 4) .bit (.cmp .eql (.var (n0 + 3)) (.var 3)) (.ret [(.var (n0 + 4))])))))))
theorem sharesV_get (r : Int) (l : List Int) {n i : Nat} (h : i < n) : (sharesV r l n).getD i 0 = polyV l ((i : Int) + 1) % r := by
  simp [sharesV, List.getD_eq_getElem?_getD, List.getElem?_range h]
theorem loop19_ok (te : TypeId) (fs : Nat → FuncId) (n0 L : Nat) (hL : L < n0) (hn : 3 < n0) (e : Nat → Int) (h1 : 1 ≤ e 3) (h2 : e 3 ≤ 64) (hp : isS (e 0) ∧ allLt (rOf (e 0)) (dec (e 1))) (hS : e L = enc (sharesV (rOf (e 0)) (dec (e 1)) (e 3).toNat)) :
    (loop19 n0 L).says (TVal te fs) ⟨fun ys => ys = [1], []⟩ e := by
  have hlen : ((dec (e L)).length : Int) = e 3 := by rw [hS, dec_enc, sharesV_len]; omega
  refine ⟨fun | [i] => 0 ≤ i ∧ i ≤ e 3 | _ => False, fun | [i] => (e 3 - i).toNat | _ => 0, ⟨Int.le_refl _, (show (0 : Int) ≤ e 3 by omega)⟩, fun e' he hkk hI => ?_⟩
  have e0 := he 0 (by omega)
  have e1 := he 1 (by omega)
  have e3 := he 3 (by omega)
  have eL := he L hL
  obtain ⟨i0, i1⟩ : 0 ≤ e' n0 ∧ e' n0 ≤ e 3 := hI
  intro a1 k1 a2 k2
  have v1 : e' (n0 + 1) = e 3 := by
    have : e' (n0 + 1) = ((dec (e' L)).length : Int) := a1
    rw [this, eL, hlen]
  have b2 := c_lt a2
  simp only [ev_var] at b2
  refine ⟨fun h => ?_, fun h => ?_⟩
  · have c2 := yes_of h b2
    intro a99 k99 a100 k100 a101 k101
    have v99 : e' (n0 + 99) = e 3 := by
      have : e' (n0 + 99) = ((dec (e' L)).length : Int) := a99
      rw [this, eL, hlen]
    have b100 := c_le a100
    have b101 := c_lt a101
    simp only [ev_var, ev_lit] at b100 b101
    refine ⟨(show e' (n0 + 100) ≠ 0 by omega), (show e' (n0 + 101) ≠ 0 by omega), ?_⟩
    intro a147 k147 a339 k339
    have v147 : e' (n0 + 147) = polyV (dec (e 1)) (e' n0 + 1) % rOf (e 0) := by
      have : e' (n0 + 147) = (dec (e' L)).getD (e' n0).toNat 0 := a147
      rw [this, eL, hS, dec_enc, sharesV_get _ _ (by omega), show ((e' n0).toNat : Int) = e' n0 by omega]
    have v339 : e' (n0 + 339) = e' n0 + 1 := by
      have : e' (n0 + 339) = binE .add .i64 (e' n0) 1 := a339
      rw [this]; simp only [binE, wr]; omega
    refine ⟨(show isS (e' 0) ∧ allLt (rOf (e' 0)) (dec (e' 1)) ∧ 0 ≤ e' (n0 + 339) ∧ e' (n0 + 339) ≤ 1000 from ?_), ?_⟩
    · rw [e0, e1]; exact ⟨hp.1, hp.2, by omega, by omega⟩
    intro a387 k387 a435 k435 a436 k436
    have v387 : e' (n0 + 387) = polyV (dec (e 1)) (e' n0 + 1) % rOf (e 0) := by
      have : e' (n0 + 387) = polyV (dec (e' 1)) (e' (n0 + 339)) % rOf (e' 0) := a387
      rw [this, e0, e1, v339]
    have b435 := c_num a435 k147 k387
    have b436 := c_not a436
    simp only [ev_var] at b436
    refine ⟨fun h => ?_, fun h => ?_⟩
    · have c436 := yes_of h b436
      exact absurd (v147.trans v387.symm) (no_of c436 b435)
    · intro a483 k483
      have v483 : e' (n0 + 483) = e' n0 + 1 := by
        have : e' (n0 + 483) = binE .add .i64 (e' n0) 1 := a483
        rw [this]; simp only [binE, wr]; omega
      show (0 ≤ e' (n0 + 483) ∧ e' (n0 + 483) ≤ e 3) ∧ (e 3 - e' (n0 + 483)).toNat < (e 3 - e' n0).toNat
      omega
  · have c2 := no_of h b2
    intro a3 k3 a4 k4
    have v3 : e' (n0 + 3) = e 3 := by
      have : e' (n0 + 3) = ((dec (e' L)).length : Int) := a3
      rw [this, eL, hlen]
    have b4 := c_eq a4
    simp only [ev_var] at b4
    exact congrArg (fun x => [x]) (show e' (n0 + 4) = 1 by omega)
def tValues : Tree := (.lett 4 (.int .i64) (.llen (.var 1))
(.lett 5 .bit (.cmp .gtr (.var 4) (.lit 12))
(.split 5
 (.lett 6 .bit (.cmp .leq (.var 4) (.lit 64))
 (.split 6
  (.ret [(.lit 1)])
  (.lett 7 .bit (.cmp .gtr (.var 4) (.lit 70))
  (.split 7
   (.ret [(.lit 1)])
   (.req 0 [(.var 1)]
   (.lett 8 (.lst .num) (.app 0 0 [(.var 1)])
   (.lett 9 (.int .i64) (.app 0 1 [(.var 1)])
   (.lett 10 (.lst .num) (.lsub (.var 8) (.lit 0) (.var 9))
   (.req 1 [(.var 0), (.var 10), (.var 2)]
   (.lett 11 .num (.app 1 0 [(.var 0), (.var 10), (.var 2)])
   (.lett 12 (.int .i64) (.app 1 1 [(.var 0), (.var 10), (.var 2)])
   (.lett 13 (.lst .num) (.lsub (.var 8) (.lit 0) (.var 9))
   (.req 2 [(.var 0), (.var 13), (.var 3)]
   (.lett 14 (.lst .num) (.app 2 0 [(.var 0), (.var 13), (.var 3)])
   (.lett 15 (.int .i64) (.app 2 1 [(.var 0), (.var 13), (.var 3)])
   (.req 3 [(.var 8), (.var 9), (.var 1)]
   (.lett 16 .bit (.app 3 0 [(.var 8), (.var 9), (.var 1)])
   (.lett 17 .bit (.not (.var 16))
   (.split 17
    (.ret [(.lit 0)])
    (.req 4 [(.var 3)]
    (.lett 18 (.int .i64) (.app 4 0 [(.var 3)])
    (.req 5 [(.var 3)]
    (.lett 19 (.int .i64) (.app 5 0 [(.var 3)])
    (.lett 20 .bit (.cmp .neq (.var 18) (.var 19))
    (.split 20
     (.ret [(.lit 0)])
     (.req 6 [(.var 0), (.var 1), (.var 2)]
     (.lett 21 (.int .i64) (.app 6 0 [(.var 0), (.var 1), (.var 2)])
     (.req 6 [(.var 0), (.var 1), (.lit 0)]
     (.lett 22 (.int .i64) (.app 6 0 [(.var 0), (.var 1), (.lit 0)])
     (.lett 23 .bit (.cmp .eql (.var 22) (.lit 0))
     (.split 23
      (.lett 24 .bit (.cmp .lss (.var 3) (.lit 1))
      (.split 24
       (.lett 121 .bit (.cmp .neq (.var 12) (.var 21))
       (.split 121
        (.ret [(.lit 0)])
        (.lett 313 .bit (.cmp .neq (.var 15) (.lit 2))
        (.split 313
         (.ret [(.lit 0)])
         (.lett 505 .bit (.cmp .neq (.var 21) (.lit 0))
         (.split 505
          (.lett 697 .bit (.eqs [((.limb 11 0), (.lit 0)), ((.limb 11 1), (.lit 0)), ((.limb 11 2), (.lit 0)), ((.limb 11 3), (.lit 0)), ((.limb 11 4), (.lit 0)), ((.limb 11 5), (.lit 0))])
          (.lett 698 .bit (.not (.var 697))
          (.split 698
           (.ret [(.lit 0)])
           (.lett 937 .bit (.cmp .eql (.var 21) (.lit 0))
           (.split 937
            (.req 7 [(.var 0), (.var 1), (.var 2)]
            (.lett 1225 .num (.app 7 0 [(.var 0), (.var 1), (.var 2)])
            (.lett 1273 .bit (.eqs [((.limb 11 0), (.limb 1225 0)), ((.limb 11 1), (.limb 1225 1)), ((.limb 11 2), (.limb 1225 2)), ((.limb 11 3), (.limb 1225 3)), ((.limb 11 4), (.limb 1225 4)), ((.limb 11 5), (.limb 1225 5))])
            (.lett 1274 .bit (.not (.var 1273))
            (.split 1274
             (.ret [(.lit 0)])
             (.lett 1417 (.int .i64) (.llen (.var 14))
             (.lett 1418 .bit (.cmp .eql (.var 1417) (.lit 0))
             (.ret [(.var 1418)]))))))))
            (.lett 1417 (.int .i64) (.llen (.var 14))
            (.lett 1418 .bit (.cmp .eql (.var 1417) (.lit 0))
            (.ret [(.var 1418)]))))))))
          (.lett 937 .bit (.cmp .eql (.var 21) (.lit 0))
          (.split 937
           (.req 7 [(.var 0), (.var 1), (.var 2)]
           (.lett 1225 .num (.app 7 0 [(.var 0), (.var 1), (.var 2)])
           (.lett 1273 .bit (.eqs [((.limb 11 0), (.limb 1225 0)), ((.limb 11 1), (.limb 1225 1)), ((.limb 11 2), (.limb 1225 2)), ((.limb 11 3), (.limb 1225 3)), ((.limb 11 4), (.limb 1225 4)), ((.limb 11 5), (.limb 1225 5))])
           (.lett 1274 .bit (.not (.var 1273))
           (.split 1274
            (.ret [(.lit 0)])
            (.lett 1417 (.int .i64) (.llen (.var 14))
            (.lett 1418 .bit (.cmp .eql (.var 1417) (.lit 0))
            (.ret [(.var 1418)]))))))))
           (.lett 1417 (.int .i64) (.llen (.var 14))
           (.lett 1418 .bit (.cmp .eql (.var 1417) (.lit 0))
           (.ret [(.var 1418)])))))))))))
       (.lett 25 .bit (.cmp .gtr (.var 3) (.lit 64))
       (.split 25
        (.lett 122 .bit (.cmp .neq (.var 12) (.var 21))
        (.split 122
         (.ret [(.lit 0)])
         (.lett 314 .bit (.cmp .neq (.var 15) (.lit 2))
         (.split 314
          (.ret [(.lit 0)])
          (.lett 506 .bit (.cmp .neq (.var 21) (.lit 0))
          (.split 506
           (.lett 698 .bit (.eqs [((.limb 11 0), (.lit 0)), ((.limb 11 1), (.lit 0)), ((.limb 11 2), (.lit 0)), ((.limb 11 3), (.lit 0)), ((.limb 11 4), (.lit 0)), ((.limb 11 5), (.lit 0))])
           (.lett 699 .bit (.not (.var 698))
           (.split 699
            (.ret [(.lit 0)])
            (.lett 938 .bit (.cmp .eql (.var 21) (.lit 0))
            (.split 938
             (.req 7 [(.var 0), (.var 1), (.var 2)]
             (.lett 1226 .num (.app 7 0 [(.var 0), (.var 1), (.var 2)])
             (.lett 1274 .bit (.eqs [((.limb 11 0), (.limb 1226 0)), ((.limb 11 1), (.limb 1226 1)), ((.limb 11 2), (.limb 1226 2)), ((.limb 11 3), (.limb 1226 3)), ((.limb 11 4), (.limb 1226 4)), ((.limb 11 5), (.limb 1226 5))])
             (.lett 1275 .bit (.not (.var 1274))
             (.split 1275
              (.ret [(.lit 0)])
              (.lett 1418 (.int .i64) (.llen (.var 14))
              (.lett 1419 .bit (.cmp .eql (.var 1418) (.lit 0))
              (.ret [(.var 1419)]))))))))
             (.lett 1418 (.int .i64) (.llen (.var 14))
             (.lett 1419 .bit (.cmp .eql (.var 1418) (.lit 0))
             (.ret [(.var 1419)]))))))))
           (.lett 938 .bit (.cmp .eql (.var 21) (.lit 0))
           (.split 938
            (.req 7 [(.var 0), (.var 1), (.var 2)]
            (.lett 1226 .num (.app 7 0 [(.var 0), (.var 1), (.var 2)])
            (.lett 1274 .bit (.eqs [((.limb 11 0), (.limb 1226 0)), ((.limb 11 1), (.limb 1226 1)), ((.limb 11 2), (.limb 1226 2)), ((.limb 11 3), (.limb 1226 3)), ((.limb 11 4), (.limb 1226 4)), ((.limb 11 5), (.limb 1226 5))])
            (.lett 1275 .bit (.not (.var 1274))
            (.split 1275
             (.ret [(.lit 0)])
             (.lett 1418 (.int .i64) (.llen (.var 14))
             (.lett 1419 .bit (.cmp .eql (.var 1418) (.lit 0))
             (.ret [(.var 1419)]))))))))
            (.lett 1418 (.int .i64) (.llen (.var 14))
            (.lett 1419 .bit (.cmp .eql (.var 1418) (.lit 0))
            (.ret [(.var 1419)])))))))))))
        (.lett 122 .bit (.cmp .neq (.var 12) (.var 21))
        (.split 122
         (.ret [(.lit 0)])
         (.lett 314 .bit (.cmp .neq (.var 15) (.var 22))
         (.split 314
          (.ret [(.lit 0)])
          (.lett 506 .bit (.cmp .neq (.var 21) (.lit 0))
          (.split 506
           (.lett 698 .bit (.eqs [((.limb 11 0), (.lit 0)), ((.limb 11 1), (.lit 0)), ((.limb 11 2), (.lit 0)), ((.limb 11 3), (.lit 0)), ((.limb 11 4), (.lit 0)), ((.limb 11 5), (.lit 0))])
           (.lett 699 .bit (.not (.var 698))
           (.split 699
            (.ret [(.lit 0)])
            (.lett 938 .bit (.cmp .eql (.var 21) (.lit 0))
            (.split 938
             (.req 7 [(.var 0), (.var 1), (.var 2)]
             (.lett 1226 .num (.app 7 0 [(.var 0), (.var 1), (.var 2)])
             (.lett 1274 .bit (.eqs [((.limb 11 0), (.limb 1226 0)), ((.limb 11 1), (.limb 1226 1)), ((.limb 11 2), (.limb 1226 2)), ((.limb 11 3), (.limb 1226 3)), ((.limb 11 4), (.limb 1226 4)), ((.limb 11 5), (.limb 1226 5))])
             (.lett 1275 .bit (.not (.var 1274))
             (.split 1275
              (.ret [(.lit 0)])
              (.lett 1418 .bit (.cmp .neq (.var 22) (.lit 0))
              (.split 1418
               (.lett 1419 (.int .i64) (.llen (.var 14))
               (.lett 1420 .bit (.cmp .eql (.var 1419) (.lit 0))
               (.ret [(.var 1420)])))
               (.loop [(.lit 0)] [(.int .i64)] 1419
               (.lett 1420 (.int .i64) (.llen (.var 14))
               (.lett 1421 .bit (.cmp .lss (.var 1419) (.var 1420))
               (.split 1421
                (.lett 1518 (.int .i64) (.llen (.var 14))
                (.lett 1519 .bit (.cmp .leq (.lit 0) (.var 1419))
                (.lett 1520 .bit (.cmp .lss (.var 1419) (.var 1518))
                (.nz (.var 1519)
                (.nz (.var 1520)
                (.lett 1566 .num (.lget (.var 14) (.var 1419))
                (.lett 1758 (.int .i64) (.bin .add .i64 (.var 1419) (.lit 1))
                (.req 7 [(.var 0), (.var 1), (.var 1758)]
                (.lett 1806 .num (.app 7 0 [(.var 0), (.var 1), (.var 1758)])
                (.lett 1854 .bit (.eqs [((.limb 1566 0), (.limb 1806 0)), ((.limb 1566 1), (.limb 1806 1)), ((.limb 1566 2), (.limb 1806 2)), ((.limb 1566 3), (.limb 1806 3)), ((.limb 1566 4), (.limb 1806 4)), ((.limb 1566 5), (.limb 1806 5))])
                (.lett 1855 .bit (.not (.var 1854))
                (.split 1855
                 (.ret [(.lit 0)])
                 (.lett 1902 (.int .i64) (.bin .add .i64 (.var 1419) (.lit 1))
                 (.back 0 [(.var 1902)]))))))))))))))
                (.lett 1422 (.int .i64) (.llen (.var 14))
                (.lett 1423 .bit (.cmp .eql (.var 1422) (.var 3))
                (.ret [(.var 1423)]))))))))))))))
             (.lett 1418 .bit (.cmp .neq (.var 22) (.lit 0))
             (.split 1418
              (.lett 1419 (.int .i64) (.llen (.var 14))
              (.lett 1420 .bit (.cmp .eql (.var 1419) (.lit 0))
              (.ret [(.var 1420)])))
              (.loop [(.lit 0)] [(.int .i64)] 1419
              (.lett 1420 (.int .i64) (.llen (.var 14))
              (.lett 1421 .bit (.cmp .lss (.var 1419) (.var 1420))
              (.split 1421
               (.lett 1518 (.int .i64) (.llen (.var 14))
               (.lett 1519 .bit (.cmp .leq (.lit 0) (.var 1419))
               (.lett 1520 .bit (.cmp .lss (.var 1419) (.var 1518))
               (.nz (.var 1519)
               (.nz (.var 1520)
               (.lett 1566 .num (.lget (.var 14) (.var 1419))
               (.lett 1758 (.int .i64) (.bin .add .i64 (.var 1419) (.lit 1))
               (.req 7 [(.var 0), (.var 1), (.var 1758)]
               (.lett 1806 .num (.app 7 0 [(.var 0), (.var 1), (.var 1758)])
               (.lett 1854 .bit (.eqs [((.limb 1566 0), (.limb 1806 0)), ((.limb 1566 1), (.limb 1806 1)), ((.limb 1566 2), (.limb 1806 2)), ((.limb 1566 3), (.limb 1806 3)), ((.limb 1566 4), (.limb 1806 4)), ((.limb 1566 5), (.limb 1806 5))])
               (.lett 1855 .bit (.not (.var 1854))
               (.split 1855
                (.ret [(.lit 0)])
                (.lett 1902 (.int .i64) (.bin .add .i64 (.var 1419) (.lit 1))
                (.back 0 [(.var 1902)]))))))))))))))
               (.lett 1422 (.int .i64) (.llen (.var 14))
               (.lett 1423 .bit (.cmp .eql (.var 1422) (.var 3))
               (.ret [(.var 1423)]))))))))))))))
           (.lett 938 .bit (.cmp .eql (.var 21) (.lit 0))
           (.split 938
            (.req 7 [(.var 0), (.var 1), (.var 2)]
            (.lett 1226 .num (.app 7 0 [(.var 0), (.var 1), (.var 2)])
            (.lett 1274 .bit (.eqs [((.limb 11 0), (.limb 1226 0)), ((.limb 11 1), (.limb 1226 1)), ((.limb 11 2), (.limb 1226 2)), ((.limb 11 3), (.limb 1226 3)), ((.limb 11 4), (.limb 1226 4)), ((.limb 11 5), (.limb 1226 5))])
            (.lett 1275 .bit (.not (.var 1274))
            (.split 1275
             (.ret [(.lit 0)])
             (.lett 1418 .bit (.cmp .neq (.var 22) (.lit 0))
             (.split 1418
              (.lett 1419 (.int .i64) (.llen (.var 14))
              (.lett 1420 .bit (.cmp .eql (.var 1419) (.lit 0))
              (.ret [(.var 1420)])))
              (.loop [(.lit 0)] [(.int .i64)] 1419
              (.lett 1420 (.int .i64) (.llen (.var 14))
              (.lett 1421 .bit (.cmp .lss (.var 1419) (.var 1420))
              (.split 1421
               (.lett 1518 (.int .i64) (.llen (.var 14))
               (.lett 1519 .bit (.cmp .leq (.lit 0) (.var 1419))
               (.lett 1520 .bit (.cmp .lss (.var 1419) (.var 1518))
               (.nz (.var 1519)
               (.nz (.var 1520)
               (.lett 1566 .num (.lget (.var 14) (.var 1419))
               (.lett 1758 (.int .i64) (.bin .add .i64 (.var 1419) (.lit 1))
               (.req 7 [(.var 0), (.var 1), (.var 1758)]
               (.lett 1806 .num (.app 7 0 [(.var 0), (.var 1), (.var 1758)])
               (.lett 1854 .bit (.eqs [((.limb 1566 0), (.limb 1806 0)), ((.limb 1566 1), (.limb 1806 1)), ((.limb 1566 2), (.limb 1806 2)), ((.limb 1566 3), (.limb 1806 3)), ((.limb 1566 4), (.limb 1806 4)), ((.limb 1566 5), (.limb 1806 5))])
               (.lett 1855 .bit (.not (.var 1854))
               (.split 1855
                (.ret [(.lit 0)])
                (.lett 1902 (.int .i64) (.bin .add .i64 (.var 1419) (.lit 1))
                (.back 0 [(.var 1902)]))))))))))))))
               (.lett 1422 (.int .i64) (.llen (.var 14))
               (.lett 1423 .bit (.cmp .eql (.var 1422) (.var 3))
               (.ret [(.var 1423)]))))))))))))))
            (.lett 1418 .bit (.cmp .neq (.var 22) (.lit 0))
            (.split 1418
             (.lett 1419 (.int .i64) (.llen (.var 14))
             (.lett 1420 .bit (.cmp .eql (.var 1419) (.lit 0))
             (.ret [(.var 1420)])))
             (.loop [(.lit 0)] [(.int .i64)] 1419
             (.lett 1420 (.int .i64) (.llen (.var 14))
             (.lett 1421 .bit (.cmp .lss (.var 1419) (.var 1420))
             (.split 1421
              (.lett 1518 (.int .i64) (.llen (.var 14))
              (.lett 1519 .bit (.cmp .leq (.lit 0) (.var 1419))
              (.lett 1520 .bit (.cmp .lss (.var 1419) (.var 1518))
              (.nz (.var 1519)
              (.nz (.var 1520)
              (.lett 1566 .num (.lget (.var 14) (.var 1419))
              (.lett 1758 (.int .i64) (.bin .add .i64 (.var 1419) (.lit 1))
              (.req 7 [(.var 0), (.var 1), (.var 1758)]
              (.lett 1806 .num (.app 7 0 [(.var 0), (.var 1), (.var 1758)])
              (.lett 1854 .bit (.eqs [((.limb 1566 0), (.limb 1806 0)), ((.limb 1566 1), (.limb 1806 1)), ((.limb 1566 2), (.limb 1806 2)), ((.limb 1566 3), (.limb 1806 3)), ((.limb 1566 4), (.limb 1806 4)), ((.limb 1566 5), (.limb 1806 5))])
              (.lett 1855 .bit (.not (.var 1854))
              (.split 1855
               (.ret [(.lit 0)])
               (.lett 1902 (.int .i64) (.bin .add .i64 (.var 1419) (.lit 1))
               (.back 0 [(.var 1902)]))))))))))))))
              (.lett 1422 (.int .i64) (.llen (.var 14))
              (.lett 1423 .bit (.cmp .eql (.var 1422) (.var 3))
              (.ret [(.var 1423)])))))))))))))))))))))
      (.lett 120 .bit (.cmp .neq (.var 12) (.var 21))
      (.split 120
       (.ret [(.lit 0)])
       (.lett 312 .bit (.cmp .neq (.var 15) (.var 22))
       (.split 312
        (.ret [(.lit 0)])
        (.lett 504 .bit (.cmp .neq (.var 21) (.lit 0))
        (.split 504
         (.lett 696 .bit (.eqs [((.limb 11 0), (.lit 0)), ((.limb 11 1), (.lit 0)), ((.limb 11 2), (.lit 0)), ((.limb 11 3), (.lit 0)), ((.limb 11 4), (.lit 0)), ((.limb 11 5), (.lit 0))])
         (.lett 697 .bit (.not (.var 696))
         (.split 697
          (.ret [(.lit 0)])
          (.lett 936 .bit (.cmp .eql (.var 21) (.lit 0))
          (.split 936
           (.req 7 [(.var 0), (.var 1), (.var 2)]
           (.lett 1224 .num (.app 7 0 [(.var 0), (.var 1), (.var 2)])
           (.lett 1272 .bit (.eqs [((.limb 11 0), (.limb 1224 0)), ((.limb 11 1), (.limb 1224 1)), ((.limb 11 2), (.limb 1224 2)), ((.limb 11 3), (.limb 1224 3)), ((.limb 11 4), (.limb 1224 4)), ((.limb 11 5), (.limb 1224 5))])
           (.lett 1273 .bit (.not (.var 1272))
           (.split 1273
            (.ret [(.lit 0)])
            (.lett 1416 .bit (.cmp .neq (.var 22) (.lit 0))
            (.split 1416
             (.lett 1417 (.int .i64) (.llen (.var 14))
             (.lett 1418 .bit (.cmp .eql (.var 1417) (.lit 0))
             (.ret [(.var 1418)])))
             (.loop [(.lit 0)] [(.int .i64)] 1417
             (.lett 1418 (.int .i64) (.llen (.var 14))
             (.lett 1419 .bit (.cmp .lss (.var 1417) (.var 1418))
             (.split 1419
              (.lett 1516 (.int .i64) (.llen (.var 14))
              (.lett 1517 .bit (.cmp .leq (.lit 0) (.var 1417))
              (.lett 1518 .bit (.cmp .lss (.var 1417) (.var 1516))
              (.nz (.var 1517)
              (.nz (.var 1518)
              (.lett 1564 .num (.lget (.var 14) (.var 1417))
              (.lett 1756 (.int .i64) (.bin .add .i64 (.var 1417) (.lit 1))
              (.req 7 [(.var 0), (.var 1), (.var 1756)]
              (.lett 1804 .num (.app 7 0 [(.var 0), (.var 1), (.var 1756)])
              (.lett 1852 .bit (.eqs [((.limb 1564 0), (.limb 1804 0)), ((.limb 1564 1), (.limb 1804 1)), ((.limb 1564 2), (.limb 1804 2)), ((.limb 1564 3), (.limb 1804 3)), ((.limb 1564 4), (.limb 1804 4)), ((.limb 1564 5), (.limb 1804 5))])
              (.lett 1853 .bit (.not (.var 1852))
              (.split 1853
               (.ret [(.lit 0)])
               (.lett 1900 (.int .i64) (.bin .add .i64 (.var 1417) (.lit 1))
               (.back 0 [(.var 1900)]))))))))))))))
              (.lett 1420 (.int .i64) (.llen (.var 14))
              (.lett 1421 .bit (.cmp .eql (.var 1420) (.var 3))
              (.ret [(.var 1421)]))))))))))))))
           (.lett 1416 .bit (.cmp .neq (.var 22) (.lit 0))
           (.split 1416
            (.lett 1417 (.int .i64) (.llen (.var 14))
            (.lett 1418 .bit (.cmp .eql (.var 1417) (.lit 0))
            (.ret [(.var 1418)])))
            (.loop [(.lit 0)] [(.int .i64)] 1417
            (.lett 1418 (.int .i64) (.llen (.var 14))
            (.lett 1419 .bit (.cmp .lss (.var 1417) (.var 1418))
            (.split 1419
             (.lett 1516 (.int .i64) (.llen (.var 14))
             (.lett 1517 .bit (.cmp .leq (.lit 0) (.var 1417))
             (.lett 1518 .bit (.cmp .lss (.var 1417) (.var 1516))
             (.nz (.var 1517)
             (.nz (.var 1518)
             (.lett 1564 .num (.lget (.var 14) (.var 1417))
             (.lett 1756 (.int .i64) (.bin .add .i64 (.var 1417) (.lit 1))
             (.req 7 [(.var 0), (.var 1), (.var 1756)]
             (.lett 1804 .num (.app 7 0 [(.var 0), (.var 1), (.var 1756)])
             (.lett 1852 .bit (.eqs [((.limb 1564 0), (.limb 1804 0)), ((.limb 1564 1), (.limb 1804 1)), ((.limb 1564 2), (.limb 1804 2)), ((.limb 1564 3), (.limb 1804 3)), ((.limb 1564 4), (.limb 1804 4)), ((.limb 1564 5), (.limb 1804 5))])
             (.lett 1853 .bit (.not (.var 1852))
             (.split 1853
              (.ret [(.lit 0)])
              (.lett 1900 (.int .i64) (.bin .add .i64 (.var 1417) (.lit 1))
              (.back 0 [(.var 1900)]))))))))))))))
             (.lett 1420 (.int .i64) (.llen (.var 14))
             (.lett 1421 .bit (.cmp .eql (.var 1420) (.var 3))
             (.ret [(.var 1421)]))))))))))))))
         (.lett 936 .bit (.cmp .eql (.var 21) (.lit 0))
         (.split 936
          (.req 7 [(.var 0), (.var 1), (.var 2)]
          (.lett 1224 .num (.app 7 0 [(.var 0), (.var 1), (.var 2)])
          (.lett 1272 .bit (.eqs [((.limb 11 0), (.limb 1224 0)), ((.limb 11 1), (.limb 1224 1)), ((.limb 11 2), (.limb 1224 2)), ((.limb 11 3), (.limb 1224 3)), ((.limb 11 4), (.limb 1224 4)), ((.limb 11 5), (.limb 1224 5))])
          (.lett 1273 .bit (.not (.var 1272))
          (.split 1273
           (.ret [(.lit 0)])
           (.lett 1416 .bit (.cmp .neq (.var 22) (.lit 0))
           (.split 1416
            (.lett 1417 (.int .i64) (.llen (.var 14))
            (.lett 1418 .bit (.cmp .eql (.var 1417) (.lit 0))
            (.ret [(.var 1418)])))
            (.loop [(.lit 0)] [(.int .i64)] 1417
            (.lett 1418 (.int .i64) (.llen (.var 14))
            (.lett 1419 .bit (.cmp .lss (.var 1417) (.var 1418))
            (.split 1419
             (.lett 1516 (.int .i64) (.llen (.var 14))
             (.lett 1517 .bit (.cmp .leq (.lit 0) (.var 1417))
             (.lett 1518 .bit (.cmp .lss (.var 1417) (.var 1516))
             (.nz (.var 1517)
             (.nz (.var 1518)
             (.lett 1564 .num (.lget (.var 14) (.var 1417))
             (.lett 1756 (.int .i64) (.bin .add .i64 (.var 1417) (.lit 1))
             (.req 7 [(.var 0), (.var 1), (.var 1756)]
             (.lett 1804 .num (.app 7 0 [(.var 0), (.var 1), (.var 1756)])
             (.lett 1852 .bit (.eqs [((.limb 1564 0), (.limb 1804 0)), ((.limb 1564 1), (.limb 1804 1)), ((.limb 1564 2), (.limb 1804 2)), ((.limb 1564 3), (.limb 1804 3)), ((.limb 1564 4), (.limb 1804 4)), ((.limb 1564 5), (.limb 1804 5))])
             (.lett 1853 .bit (.not (.var 1852))
             (.split 1853
              (.ret [(.lit 0)])
              (.lett 1900 (.int .i64) (.bin .add .i64 (.var 1417) (.lit 1))
              (.back 0 [(.var 1900)]))))))))))))))
             (.lett 1420 (.int .i64) (.llen (.var 14))
             (.lett 1421 .bit (.cmp .eql (.var 1420) (.var 3))
             (.ret [(.var 1421)]))))))))))))))
          (.lett 1416 .bit (.cmp .neq (.var 22) (.lit 0))
          (.split 1416
           (.lett 1417 (.int .i64) (.llen (.var 14))
           (.lett 1418 .bit (.cmp .eql (.var 1417) (.lit 0))
           (.ret [(.var 1418)])))
           (.loop [(.lit 0)] [(.int .i64)] 1417
           (.lett 1418 (.int .i64) (.llen (.var 14))
           (.lett 1419 .bit (.cmp .lss (.var 1417) (.var 1418))
           (.split 1419
            (.lett 1516 (.int .i64) (.llen (.var 14))
            (.lett 1517 .bit (.cmp .leq (.lit 0) (.var 1417))
            (.lett 1518 .bit (.cmp .lss (.var 1417) (.var 1516))
            (.nz (.var 1517)
            (.nz (.var 1518)
            (.lett 1564 .num (.lget (.var 14) (.var 1417))
            (.lett 1756 (.int .i64) (.bin .add .i64 (.var 1417) (.lit 1))
            (.req 7 [(.var 0), (.var 1), (.var 1756)]
            (.lett 1804 .num (.app 7 0 [(.var 0), (.var 1), (.var 1756)])
            (.lett 1852 .bit (.eqs [((.limb 1564 0), (.limb 1804 0)), ((.limb 1564 1), (.limb 1804 1)), ((.limb 1564 2), (.limb 1804 2)), ((.limb 1564 3), (.limb 1804 3)), ((.limb 1564 4), (.limb 1804 4)), ((.limb 1564 5), (.limb 1804 5))])
            (.lett 1853 .bit (.not (.var 1852))
            (.split 1853
             (.ret [(.lit 0)])
             (.lett 1900 (.int .i64) (.bin .add .i64 (.var 1417) (.lit 1))
             (.back 0 [(.var 1900)]))))))))))))))
            (.lett 1420 (.int .i64) (.llen (.var 14))
            (.lett 1421 .bit (.cmp .eql (.var 1420) (.var 3))
            (.ret [(.var 1421)]))))))))))))))))))))))))))))))))))))))))))))))))
 (.lett 6 .bit (.cmp .gtr (.var 4) (.lit 70))
 (.split 6
  (.ret [(.lit 1)])
  (.req 0 [(.var 1)]
  (.lett 7 (.lst .num) (.app 0 0 [(.var 1)])
  (.lett 8 (.int .i64) (.app 0 1 [(.var 1)])
  (.lett 9 (.lst .num) (.lsub (.var 7) (.lit 0) (.var 8))
  (.req 1 [(.var 0), (.var 9), (.var 2)]
  (.lett 10 .num (.app 1 0 [(.var 0), (.var 9), (.var 2)])
  (.lett 11 (.int .i64) (.app 1 1 [(.var 0), (.var 9), (.var 2)])
  (.lett 12 (.lst .num) (.lsub (.var 7) (.lit 0) (.var 8))
  (.req 2 [(.var 0), (.var 12), (.var 3)]
  (.lett 13 (.lst .num) (.app 2 0 [(.var 0), (.var 12), (.var 3)])
  (.lett 14 (.int .i64) (.app 2 1 [(.var 0), (.var 12), (.var 3)])
  (.req 3 [(.var 7), (.var 8), (.var 1)]
  (.lett 15 .bit (.app 3 0 [(.var 7), (.var 8), (.var 1)])
  (.lett 16 .bit (.not (.var 15))
  (.split 16
   (.ret [(.lit 0)])
   (.req 4 [(.var 3)]
   (.lett 17 (.int .i64) (.app 4 0 [(.var 3)])
   (.req 5 [(.var 3)]
   (.lett 18 (.int .i64) (.app 5 0 [(.var 3)])
   (.lett 19 .bit (.cmp .neq (.var 17) (.var 18))
   (.split 19
    (.ret [(.lit 0)])
    (.req 6 [(.var 0), (.var 1), (.var 2)]
    (.lett 20 (.int .i64) (.app 6 0 [(.var 0), (.var 1), (.var 2)])
    (.req 6 [(.var 0), (.var 1), (.lit 0)]
    (.lett 21 (.int .i64) (.app 6 0 [(.var 0), (.var 1), (.lit 0)])
    (.lett 22 .bit (.cmp .eql (.var 21) (.lit 0))
    (.split 22
     (.lett 23 .bit (.cmp .lss (.var 3) (.lit 1))
     (.split 23
      (.lett 120 .bit (.cmp .neq (.var 11) (.var 20))
      (.split 120
       (.ret [(.lit 0)])
       (.lett 312 .bit (.cmp .neq (.var 14) (.lit 2))
       (.split 312
        (.ret [(.lit 0)])
        (.lett 504 .bit (.cmp .neq (.var 20) (.lit 0))
        (.split 504
         (.lett 696 .bit (.eqs [((.limb 10 0), (.lit 0)), ((.limb 10 1), (.lit 0)), ((.limb 10 2), (.lit 0)), ((.limb 10 3), (.lit 0)), ((.limb 10 4), (.lit 0)), ((.limb 10 5), (.lit 0))])
         (.lett 697 .bit (.not (.var 696))
         (.split 697
          (.ret [(.lit 0)])
          (.lett 936 .bit (.cmp .eql (.var 20) (.lit 0))
          (.split 936
           (.req 7 [(.var 0), (.var 1), (.var 2)]
           (.lett 1224 .num (.app 7 0 [(.var 0), (.var 1), (.var 2)])
           (.lett 1272 .bit (.eqs [((.limb 10 0), (.limb 1224 0)), ((.limb 10 1), (.limb 1224 1)), ((.limb 10 2), (.limb 1224 2)), ((.limb 10 3), (.limb 1224 3)), ((.limb 10 4), (.limb 1224 4)), ((.limb 10 5), (.limb 1224 5))])
           (.lett 1273 .bit (.not (.var 1272))
           (.split 1273
            (.ret [(.lit 0)])
            (.lett 1416 (.int .i64) (.llen (.var 13))
            (.lett 1417 .bit (.cmp .eql (.var 1416) (.lit 0))
            (.ret [(.var 1417)]))))))))
           (.lett 1416 (.int .i64) (.llen (.var 13))
           (.lett 1417 .bit (.cmp .eql (.var 1416) (.lit 0))
           (.ret [(.var 1417)]))))))))
         (.lett 936 .bit (.cmp .eql (.var 20) (.lit 0))
         (.split 936
          (.req 7 [(.var 0), (.var 1), (.var 2)]
          (.lett 1224 .num (.app 7 0 [(.var 0), (.var 1), (.var 2)])
          (.lett 1272 .bit (.eqs [((.limb 10 0), (.limb 1224 0)), ((.limb 10 1), (.limb 1224 1)), ((.limb 10 2), (.limb 1224 2)), ((.limb 10 3), (.limb 1224 3)), ((.limb 10 4), (.limb 1224 4)), ((.limb 10 5), (.limb 1224 5))])
          (.lett 1273 .bit (.not (.var 1272))
          (.split 1273
           (.ret [(.lit 0)])
           (.lett 1416 (.int .i64) (.llen (.var 13))
           (.lett 1417 .bit (.cmp .eql (.var 1416) (.lit 0))
           (.ret [(.var 1417)]))))))))
          (.lett 1416 (.int .i64) (.llen (.var 13))
          (.lett 1417 .bit (.cmp .eql (.var 1416) (.lit 0))
          (.ret [(.var 1417)])))))))))))
      (.lett 24 .bit (.cmp .gtr (.var 3) (.lit 64))
      (.split 24
       (.lett 121 .bit (.cmp .neq (.var 11) (.var 20))
       (.split 121
        (.ret [(.lit 0)])
        (.lett 313 .bit (.cmp .neq (.var 14) (.lit 2))
        (.split 313
         (.ret [(.lit 0)])
         (.lett 505 .bit (.cmp .neq (.var 20) (.lit 0))
         (.split 505
          (.lett 697 .bit (.eqs [((.limb 10 0), (.lit 0)), ((.limb 10 1), (.lit 0)), ((.limb 10 2), (.lit 0)), ((.limb 10 3), (.lit 0)), ((.limb 10 4), (.lit 0)), ((.limb 10 5), (.lit 0))])
          (.lett 698 .bit (.not (.var 697))
          (.split 698
           (.ret [(.lit 0)])
           (.lett 937 .bit (.cmp .eql (.var 20) (.lit 0))
           (.split 937
            (.req 7 [(.var 0), (.var 1), (.var 2)]
            (.lett 1225 .num (.app 7 0 [(.var 0), (.var 1), (.var 2)])
            (.lett 1273 .bit (.eqs [((.limb 10 0), (.limb 1225 0)), ((.limb 10 1), (.limb 1225 1)), ((.limb 10 2), (.limb 1225 2)), ((.limb 10 3), (.limb 1225 3)), ((.limb 10 4), (.limb 1225 4)), ((.limb 10 5), (.limb 1225 5))])
            (.lett 1274 .bit (.not (.var 1273))
            (.split 1274
             (.ret [(.lit 0)])
             (.lett 1417 (.int .i64) (.llen (.var 13))
             (.lett 1418 .bit (.cmp .eql (.var 1417) (.lit 0))
             (.ret [(.var 1418)]))))))))
            (.lett 1417 (.int .i64) (.llen (.var 13))
            (.lett 1418 .bit (.cmp .eql (.var 1417) (.lit 0))
            (.ret [(.var 1418)]))))))))
          (.lett 937 .bit (.cmp .eql (.var 20) (.lit 0))
          (.split 937
           (.req 7 [(.var 0), (.var 1), (.var 2)]
           (.lett 1225 .num (.app 7 0 [(.var 0), (.var 1), (.var 2)])
           (.lett 1273 .bit (.eqs [((.limb 10 0), (.limb 1225 0)), ((.limb 10 1), (.limb 1225 1)), ((.limb 10 2), (.limb 1225 2)), ((.limb 10 3), (.limb 1225 3)), ((.limb 10 4), (.limb 1225 4)), ((.limb 10 5), (.limb 1225 5))])
           (.lett 1274 .bit (.not (.var 1273))
           (.split 1274
            (.ret [(.lit 0)])
            (.lett 1417 (.int .i64) (.llen (.var 13))
            (.lett 1418 .bit (.cmp .eql (.var 1417) (.lit 0))
            (.ret [(.var 1418)]))))))))
           (.lett 1417 (.int .i64) (.llen (.var 13))
           (.lett 1418 .bit (.cmp .eql (.var 1417) (.lit 0))
           (.ret [(.var 1418)])))))))))))
       (.lett 121 .bit (.cmp .neq (.var 11) (.var 20))
       (.split 121
        (.ret [(.lit 0)])
        (.lett 313 .bit (.cmp .neq (.var 14) (.var 21))
        (.split 313
         (.ret [(.lit 0)])
         (.lett 505 .bit (.cmp .neq (.var 20) (.lit 0))
         (.split 505
          (.lett 697 .bit (.eqs [((.limb 10 0), (.lit 0)), ((.limb 10 1), (.lit 0)), ((.limb 10 2), (.lit 0)), ((.limb 10 3), (.lit 0)), ((.limb 10 4), (.lit 0)), ((.limb 10 5), (.lit 0))])
          (.lett 698 .bit (.not (.var 697))
          (.split 698
           (.ret [(.lit 0)])
           (.lett 937 .bit (.cmp .eql (.var 20) (.lit 0))
           (.split 937
            (.req 7 [(.var 0), (.var 1), (.var 2)]
            (.lett 1225 .num (.app 7 0 [(.var 0), (.var 1), (.var 2)])
            (.lett 1273 .bit (.eqs [((.limb 10 0), (.limb 1225 0)), ((.limb 10 1), (.limb 1225 1)), ((.limb 10 2), (.limb 1225 2)), ((.limb 10 3), (.limb 1225 3)), ((.limb 10 4), (.limb 1225 4)), ((.limb 10 5), (.limb 1225 5))])
            (.lett 1274 .bit (.not (.var 1273))
            (.split 1274
             (.ret [(.lit 0)])
             (.lett 1417 .bit (.cmp .neq (.var 21) (.lit 0))
             (.split 1417
              (.lett 1418 (.int .i64) (.llen (.var 13))
              (.lett 1419 .bit (.cmp .eql (.var 1418) (.lit 0))
              (.ret [(.var 1419)])))
              (.loop [(.lit 0)] [(.int .i64)] 1418
              (.lett 1419 (.int .i64) (.llen (.var 13))
              (.lett 1420 .bit (.cmp .lss (.var 1418) (.var 1419))
              (.split 1420
               (.lett 1517 (.int .i64) (.llen (.var 13))
               (.lett 1518 .bit (.cmp .leq (.lit 0) (.var 1418))
               (.lett 1519 .bit (.cmp .lss (.var 1418) (.var 1517))
               (.nz (.var 1518)
               (.nz (.var 1519)
               (.lett 1565 .num (.lget (.var 13) (.var 1418))
               (.lett 1757 (.int .i64) (.bin .add .i64 (.var 1418) (.lit 1))
               (.req 7 [(.var 0), (.var 1), (.var 1757)]
               (.lett 1805 .num (.app 7 0 [(.var 0), (.var 1), (.var 1757)])
               (.lett 1853 .bit (.eqs [((.limb 1565 0), (.limb 1805 0)), ((.limb 1565 1), (.limb 1805 1)), ((.limb 1565 2), (.limb 1805 2)), ((.limb 1565 3), (.limb 1805 3)), ((.limb 1565 4), (.limb 1805 4)), ((.limb 1565 5), (.limb 1805 5))])
               (.lett 1854 .bit (.not (.var 1853))
               (.split 1854
                (.ret [(.lit 0)])
                (.lett 1901 (.int .i64) (.bin .add .i64 (.var 1418) (.lit 1))
                (.back 0 [(.var 1901)]))))))))))))))
               (.lett 1421 (.int .i64) (.llen (.var 13))
               (.lett 1422 .bit (.cmp .eql (.var 1421) (.var 3))
               (.ret [(.var 1422)]))))))))))))))
            (.lett 1417 .bit (.cmp .neq (.var 21) (.lit 0))
            (.split 1417
             (.lett 1418 (.int .i64) (.llen (.var 13))
             (.lett 1419 .bit (.cmp .eql (.var 1418) (.lit 0))
             (.ret [(.var 1419)])))
             (.loop [(.lit 0)] [(.int .i64)] 1418
             (.lett 1419 (.int .i64) (.llen (.var 13))
             (.lett 1420 .bit (.cmp .lss (.var 1418) (.var 1419))
             (.split 1420
              (.lett 1517 (.int .i64) (.llen (.var 13))
              (.lett 1518 .bit (.cmp .leq (.lit 0) (.var 1418))
              (.lett 1519 .bit (.cmp .lss (.var 1418) (.var 1517))
              (.nz (.var 1518)
              (.nz (.var 1519)
              (.lett 1565 .num (.lget (.var 13) (.var 1418))
              (.lett 1757 (.int .i64) (.bin .add .i64 (.var 1418) (.lit 1))
              (.req 7 [(.var 0), (.var 1), (.var 1757)]
              (.lett 1805 .num (.app 7 0 [(.var 0), (.var 1), (.var 1757)])
              (.lett 1853 .bit (.eqs [((.limb 1565 0), (.limb 1805 0)), ((.limb 1565 1), (.limb 1805 1)), ((.limb 1565 2), (.limb 1805 2)), ((.limb 1565 3), (.limb 1805 3)), ((.limb 1565 4), (.limb 1805 4)), ((.limb 1565 5), (.limb 1805 5))])
              (.lett 1854 .bit (.not (.var 1853))
              (.split 1854
               (.ret [(.lit 0)])
               (.lett 1901 (.int .i64) (.bin .add .i64 (.var 1418) (.lit 1))
               (.back 0 [(.var 1901)]))))))))))))))
              (.lett 1421 (.int .i64) (.llen (.var 13))
              (.lett 1422 .bit (.cmp .eql (.var 1421) (.var 3))
              (.ret [(.var 1422)]))))))))))))))
          (.lett 937 .bit (.cmp .eql (.var 20) (.lit 0))
          (.split 937
           (.req 7 [(.var 0), (.var 1), (.var 2)]
           (.lett 1225 .num (.app 7 0 [(.var 0), (.var 1), (.var 2)])
           (.lett 1273 .bit (.eqs [((.limb 10 0), (.limb 1225 0)), ((.limb 10 1), (.limb 1225 1)), ((.limb 10 2), (.limb 1225 2)), ((.limb 10 3), (.limb 1225 3)), ((.limb 10 4), (.limb 1225 4)), ((.limb 10 5), (.limb 1225 5))])
           (.lett 1274 .bit (.not (.var 1273))
           (.split 1274
            (.ret [(.lit 0)])
            (.lett 1417 .bit (.cmp .neq (.var 21) (.lit 0))
            (.split 1417
             (.lett 1418 (.int .i64) (.llen (.var 13))
             (.lett 1419 .bit (.cmp .eql (.var 1418) (.lit 0))
             (.ret [(.var 1419)])))
             (.loop [(.lit 0)] [(.int .i64)] 1418
             (.lett 1419 (.int .i64) (.llen (.var 13))
             (.lett 1420 .bit (.cmp .lss (.var 1418) (.var 1419))
             (.split 1420
              (.lett 1517 (.int .i64) (.llen (.var 13))
              (.lett 1518 .bit (.cmp .leq (.lit 0) (.var 1418))
              (.lett 1519 .bit (.cmp .lss (.var 1418) (.var 1517))
              (.nz (.var 1518)
              (.nz (.var 1519)
              (.lett 1565 .num (.lget (.var 13) (.var 1418))
              (.lett 1757 (.int .i64) (.bin .add .i64 (.var 1418) (.lit 1))
              (.req 7 [(.var 0), (.var 1), (.var 1757)]
              (.lett 1805 .num (.app 7 0 [(.var 0), (.var 1), (.var 1757)])
              (.lett 1853 .bit (.eqs [((.limb 1565 0), (.limb 1805 0)), ((.limb 1565 1), (.limb 1805 1)), ((.limb 1565 2), (.limb 1805 2)), ((.limb 1565 3), (.limb 1805 3)), ((.limb 1565 4), (.limb 1805 4)), ((.limb 1565 5), (.limb 1805 5))])
              (.lett 1854 .bit (.not (.var 1853))
              (.split 1854
               (.ret [(.lit 0)])
               (.lett 1901 (.int .i64) (.bin .add .i64 (.var 1418) (.lit 1))
               (.back 0 [(.var 1901)]))))))))))))))
              (.lett 1421 (.int .i64) (.llen (.var 13))
              (.lett 1422 .bit (.cmp .eql (.var 1421) (.var 3))
              (.ret [(.var 1422)]))))))))))))))
           (.lett 1417 .bit (.cmp .neq (.var 21) (.lit 0))
           (.split 1417
            (.lett 1418 (.int .i64) (.llen (.var 13))
            (.lett 1419 .bit (.cmp .eql (.var 1418) (.lit 0))
            (.ret [(.var 1419)])))
            (.loop [(.lit 0)] [(.int .i64)] 1418
            (.lett 1419 (.int .i64) (.llen (.var 13))
            (.lett 1420 .bit (.cmp .lss (.var 1418) (.var 1419))
            (.split 1420
             (.lett 1517 (.int .i64) (.llen (.var 13))
             (.lett 1518 .bit (.cmp .leq (.lit 0) (.var 1418))
             (.lett 1519 .bit (.cmp .lss (.var 1418) (.var 1517))
             (.nz (.var 1518)
             (.nz (.var 1519)
             (.lett 1565 .num (.lget (.var 13) (.var 1418))
             (.lett 1757 (.int .i64) (.bin .add .i64 (.var 1418) (.lit 1))
             (.req 7 [(.var 0), (.var 1), (.var 1757)]
             (.lett 1805 .num (.app 7 0 [(.var 0), (.var 1), (.var 1757)])
             (.lett 1853 .bit (.eqs [((.limb 1565 0), (.limb 1805 0)), ((.limb 1565 1), (.limb 1805 1)), ((.limb 1565 2), (.limb 1805 2)), ((.limb 1565 3), (.limb 1805 3)), ((.limb 1565 4), (.limb 1805 4)), ((.limb 1565 5), (.limb 1805 5))])
             (.lett 1854 .bit (.not (.var 1853))
             (.split 1854
              (.ret [(.lit 0)])
              (.lett 1901 (.int .i64) (.bin .add .i64 (.var 1418) (.lit 1))
              (.back 0 [(.var 1901)]))))))))))))))
             (.lett 1421 (.int .i64) (.llen (.var 13))
             (.lett 1422 .bit (.cmp .eql (.var 1421) (.var 3))
             (.ret [(.var 1422)])))))))))))))))))))))
     (.lett 119 .bit (.cmp .neq (.var 11) (.var 20))
     (.split 119
      (.ret [(.lit 0)])
      (.lett 311 .bit (.cmp .neq (.var 14) (.var 21))
      (.split 311
       (.ret [(.lit 0)])
       (.lett 503 .bit (.cmp .neq (.var 20) (.lit 0))
       (.split 503
        (.lett 695 .bit (.eqs [((.limb 10 0), (.lit 0)), ((.limb 10 1), (.lit 0)), ((.limb 10 2), (.lit 0)), ((.limb 10 3), (.lit 0)), ((.limb 10 4), (.lit 0)), ((.limb 10 5), (.lit 0))])
        (.lett 696 .bit (.not (.var 695))
        (.split 696
         (.ret [(.lit 0)])
         (.lett 935 .bit (.cmp .eql (.var 20) (.lit 0))
         (.split 935
          (.req 7 [(.var 0), (.var 1), (.var 2)]
          (.lett 1223 .num (.app 7 0 [(.var 0), (.var 1), (.var 2)])
          (.lett 1271 .bit (.eqs [((.limb 10 0), (.limb 1223 0)), ((.limb 10 1), (.limb 1223 1)), ((.limb 10 2), (.limb 1223 2)), ((.limb 10 3), (.limb 1223 3)), ((.limb 10 4), (.limb 1223 4)), ((.limb 10 5), (.limb 1223 5))])
          (.lett 1272 .bit (.not (.var 1271))
          (.split 1272
           (.ret [(.lit 0)])
           (.lett 1415 .bit (.cmp .neq (.var 21) (.lit 0))
           (.split 1415
            (.lett 1416 (.int .i64) (.llen (.var 13))
            (.lett 1417 .bit (.cmp .eql (.var 1416) (.lit 0))
            (.ret [(.var 1417)])))
            (.loop [(.lit 0)] [(.int .i64)] 1416
            (.lett 1417 (.int .i64) (.llen (.var 13))
            (.lett 1418 .bit (.cmp .lss (.var 1416) (.var 1417))
            (.split 1418
             (.lett 1515 (.int .i64) (.llen (.var 13))
             (.lett 1516 .bit (.cmp .leq (.lit 0) (.var 1416))
             (.lett 1517 .bit (.cmp .lss (.var 1416) (.var 1515))
             (.nz (.var 1516)
             (.nz (.var 1517)
             (.lett 1563 .num (.lget (.var 13) (.var 1416))
             (.lett 1755 (.int .i64) (.bin .add .i64 (.var 1416) (.lit 1))
             (.req 7 [(.var 0), (.var 1), (.var 1755)]
             (.lett 1803 .num (.app 7 0 [(.var 0), (.var 1), (.var 1755)])
             (.lett 1851 .bit (.eqs [((.limb 1563 0), (.limb 1803 0)), ((.limb 1563 1), (.limb 1803 1)), ((.limb 1563 2), (.limb 1803 2)), ((.limb 1563 3), (.limb 1803 3)), ((.limb 1563 4), (.limb 1803 4)), ((.limb 1563 5), (.limb 1803 5))])
             (.lett 1852 .bit (.not (.var 1851))
             (.split 1852
              (.ret [(.lit 0)])
              (.lett 1899 (.int .i64) (.bin .add .i64 (.var 1416) (.lit 1))
              (.back 0 [(.var 1899)]))))))))))))))
             (.lett 1419 (.int .i64) (.llen (.var 13))
             (.lett 1420 .bit (.cmp .eql (.var 1419) (.var 3))
             (.ret [(.var 1420)]))))))))))))))
          (.lett 1415 .bit (.cmp .neq (.var 21) (.lit 0))
          (.split 1415
           (.lett 1416 (.int .i64) (.llen (.var 13))
           (.lett 1417 .bit (.cmp .eql (.var 1416) (.lit 0))
           (.ret [(.var 1417)])))
           (.loop [(.lit 0)] [(.int .i64)] 1416
           (.lett 1417 (.int .i64) (.llen (.var 13))
           (.lett 1418 .bit (.cmp .lss (.var 1416) (.var 1417))
           (.split 1418
            (.lett 1515 (.int .i64) (.llen (.var 13))
            (.lett 1516 .bit (.cmp .leq (.lit 0) (.var 1416))
            (.lett 1517 .bit (.cmp .lss (.var 1416) (.var 1515))
            (.nz (.var 1516)
            (.nz (.var 1517)
            (.lett 1563 .num (.lget (.var 13) (.var 1416))
            (.lett 1755 (.int .i64) (.bin .add .i64 (.var 1416) (.lit 1))
            (.req 7 [(.var 0), (.var 1), (.var 1755)]
            (.lett 1803 .num (.app 7 0 [(.var 0), (.var 1), (.var 1755)])
            (.lett 1851 .bit (.eqs [((.limb 1563 0), (.limb 1803 0)), ((.limb 1563 1), (.limb 1803 1)), ((.limb 1563 2), (.limb 1803 2)), ((.limb 1563 3), (.limb 1803 3)), ((.limb 1563 4), (.limb 1803 4)), ((.limb 1563 5), (.limb 1803 5))])
            (.lett 1852 .bit (.not (.var 1851))
            (.split 1852
             (.ret [(.lit 0)])
             (.lett 1899 (.int .i64) (.bin .add .i64 (.var 1416) (.lit 1))
             (.back 0 [(.var 1899)]))))))))))))))
            (.lett 1419 (.int .i64) (.llen (.var 13))
            (.lett 1420 .bit (.cmp .eql (.var 1419) (.var 3))
            (.ret [(.var 1420)]))))))))))))))
        (.lett 935 .bit (.cmp .eql (.var 20) (.lit 0))
        (.split 935
         (.req 7 [(.var 0), (.var 1), (.var 2)]
         (.lett 1223 .num (.app 7 0 [(.var 0), (.var 1), (.var 2)])
         (.lett 1271 .bit (.eqs [((.limb 10 0), (.limb 1223 0)), ((.limb 10 1), (.limb 1223 1)), ((.limb 10 2), (.limb 1223 2)), ((.limb 10 3), (.limb 1223 3)), ((.limb 10 4), (.limb 1223 4)), ((.limb 10 5), (.limb 1223 5))])
         (.lett 1272 .bit (.not (.var 1271))
         (.split 1272
          (.ret [(.lit 0)])
          (.lett 1415 .bit (.cmp .neq (.var 21) (.lit 0))
          (.split 1415
           (.lett 1416 (.int .i64) (.llen (.var 13))
           (.lett 1417 .bit (.cmp .eql (.var 1416) (.lit 0))
           (.ret [(.var 1417)])))
           (.loop [(.lit 0)] [(.int .i64)] 1416
           (.lett 1417 (.int .i64) (.llen (.var 13))
           (.lett 1418 .bit (.cmp .lss (.var 1416) (.var 1417))
           (.split 1418
            (.lett 1515 (.int .i64) (.llen (.var 13))
            (.lett 1516 .bit (.cmp .leq (.lit 0) (.var 1416))
            (.lett 1517 .bit (.cmp .lss (.var 1416) (.var 1515))
            (.nz (.var 1516)
            (.nz (.var 1517)
            (.lett 1563 .num (.lget (.var 13) (.var 1416))
            (.lett 1755 (.int .i64) (.bin .add .i64 (.var 1416) (.lit 1))
            (.req 7 [(.var 0), (.var 1), (.var 1755)]
            (.lett 1803 .num (.app 7 0 [(.var 0), (.var 1), (.var 1755)])
            (.lett 1851 .bit (.eqs [((.limb 1563 0), (.limb 1803 0)), ((.limb 1563 1), (.limb 1803 1)), ((.limb 1563 2), (.limb 1803 2)), ((.limb 1563 3), (.limb 1803 3)), ((.limb 1563 4), (.limb 1803 4)), ((.limb 1563 5), (.limb 1803 5))])
            (.lett 1852 .bit (.not (.var 1851))
            (.split 1852
             (.ret [(.lit 0)])
             (.lett 1899 (.int .i64) (.bin .add .i64 (.var 1416) (.lit 1))
             (.back 0 [(.var 1899)]))))))))))))))
            (.lett 1419 (.int .i64) (.llen (.var 13))
            (.lett 1420 .bit (.cmp .eql (.var 1419) (.var 3))
            (.ret [(.var 1420)]))))))))))))))
         (.lett 1415 .bit (.cmp .neq (.var 21) (.lit 0))
         (.split 1415
          (.lett 1416 (.int .i64) (.llen (.var 13))
          (.lett 1417 .bit (.cmp .eql (.var 1416) (.lit 0))
          (.ret [(.var 1417)])))
          (.loop [(.lit 0)] [(.int .i64)] 1416
          (.lett 1417 (.int .i64) (.llen (.var 13))
          (.lett 1418 .bit (.cmp .lss (.var 1416) (.var 1417))
          (.split 1418
           (.lett 1515 (.int .i64) (.llen (.var 13))
           (.lett 1516 .bit (.cmp .leq (.lit 0) (.var 1416))
           (.lett 1517 .bit (.cmp .lss (.var 1416) (.var 1515))
           (.nz (.var 1516)
           (.nz (.var 1517)
           (.lett 1563 .num (.lget (.var 13) (.var 1416))
           (.lett 1755 (.int .i64) (.bin .add .i64 (.var 1416) (.lit 1))
           (.req 7 [(.var 0), (.var 1), (.var 1755)]
           (.lett 1803 .num (.app 7 0 [(.var 0), (.var 1), (.var 1755)])
           (.lett 1851 .bit (.eqs [((.limb 1563 0), (.limb 1803 0)), ((.limb 1563 1), (.limb 1803 1)), ((.limb 1563 2), (.limb 1803 2)), ((.limb 1563 3), (.limb 1803 3)), ((.limb 1563 4), (.limb 1803 4)), ((.limb 1563 5), (.limb 1803 5))])
           (.lett 1852 .bit (.not (.var 1851))
           (.split 1852
            (.ret [(.lit 0)])
            (.lett 1899 (.int .i64) (.bin .add .i64 (.var 1416) (.lit 1))
            (.back 0 [(.var 1899)]))))))))))))))
           (.lett 1419 (.int .i64) (.llen (.var 13))
           (.lett 1420 .bit (.cmp .eql (.var 1419) (.var 3))
           (.ret [(.var 1420)])))))))))))))))))))))))))))))))))))))))))))))))))
set_option maxHeartbeats 4000000 in
theorem law_values (te : TypeId) (fs : Nat → FuncId) (f : FuncId) (e : Nat → Int) : tValues.says (TVal te fs) ⟨fun ys => ys = (kValues f).sem [e 0, e 1, e 2, e 3], []⟩ e := by
  show tValues.says (TVal te fs) ⟨fun ys => ys = [1], []⟩ e
  have hp7 : errCo (e 0) (dec (e 1)) (e 2) = 0 → isS (e 0) ∧ allLt (rOf (e 0)) (dec (e 1)) ∧ 0 ≤ e 2 ∧ e 2 ≤ 1000 := fun h => by
    obtain ⟨h1, h2, h3, h4⟩ := errCo_ok h
    exact ⟨h1, h3, h4⟩
  have hp0 : errCo (e 0) (dec (e 1)) 0 = 0 → isS (e 0) ∧ allLt (rOf (e 0)) (dec (e 1)) := fun h => by
    obtain ⟨h1, h2, h3, h4⟩ := errCo_ok h
    exact ⟨h1, h3⟩
  unfold tValues
  intro a4 k4
  have v4 : e 4 = ((dec (e 1)).length : Int) := a4
  clear a4
  intro a5 k5
  have b5 := c_gt a5
  simp only [ev_lit, ev_var] at b5
  clear a5
  refine ⟨fun h5 => ?_, fun h5 => ?_⟩
  · have c5 := yes_of h5 b5
    clear b5
    intro a6 k6
    have b6 := c_le a6
    simp only [ev_lit, ev_var] at b6
    clear a6
    refine ⟨fun h6 => ?_, fun h6 => ?_⟩
    · have c6 := yes_of h6 b6
      clear b6
      rfl
    · have c6 := no_of h6 b6
      clear b6
      intro a7 k7
      have b7 := c_gt a7
      simp only [ev_lit, ev_var] at b7
      clear a7
      refine ⟨fun h7 => ?_, fun h7 => ?_⟩
      · have c7 := yes_of h7 b7
        clear b7
        rfl
      · have c7 := no_of h7 b7
        clear b7
        refine ⟨(show (dec (e 1)).length ≤ 1000 by omega), ?_⟩
        intro a8 k8
        have v8 : e 8 = enc (lentL (dec (e 1))) := a8
        clear a8
        intro a9 k9
        have v9 : e 9 = ((dec (e 1)).length : Int) := a9
        clear a9
        intro a10 k10
        have v10 : dec (e 10) = dec (e 1) := lsub_lent a10 v8 v9
        clear a10
        refine ⟨trivial, ?_⟩
        intro a11 k11
        have v11 : (errCo (e 0) (dec (e 1)) (e 2) ≠ 0 ∧ e 11 = 0) ∨ (errCo (e 0) (dec (e 1)) (e 2) = 0 ∧ e 11 = polyV (dec (e 1)) (e 2) % rOf (e 0)) := sv_val a11 v10
        clear a11
        intro a12 k12
        have v12 : e 12 = errCo (e 0) (dec (e 1)) (e 2) := sv_err a12 v10
        clear a12
        intro a13 k13
        have v13 : dec (e 13) = dec (e 1) := lsub_lent a13 v8 v9
        clear a13
        refine ⟨trivial, ?_⟩
        intro a14 k14
        have v14 : ((errCo (e 0) (dec (e 1)) 0 ≠ 0 ∨ e 3 < 1 ∨ 64 < e 3) ∧ (dec (e 14)).length = 0) ∨ (errCo (e 0) (dec (e 1)) 0 = 0 ∧ 1 ≤ e 3 ∧ e 3 ≤ 64 ∧ ((dec (e 14)).length : Int) = e 3) := sp_len a14 v13
        have hS : errCo (e 0) (dec (e 1)) 0 = 0 → 1 ≤ e 3 → e 3 ≤ 64 → e 14 = enc (sharesV (rOf (e 0)) (dec (e 1)) (e 3).toNat) := sp_list a14 v13
        clear a14
        intro a15 k15
        have v15 : (errCo (e 0) (dec (e 1)) 0 ≠ 0 ∧ e 15 = errCo (e 0) (dec (e 1)) 0) ∨ (errCo (e 0) (dec (e 1)) 0 = 0 ∧ (e 3 < 1 ∨ 64 < e 3) ∧ e 15 = 2) ∨ (errCo (e 0) (dec (e 1)) 0 = 0 ∧ 1 ≤ e 3 ∧ e 3 ≤ 64 ∧ e 15 = 0) := sp_err a15 v13
        clear a15
        refine ⟨(show (dec (e 1)).length ≤ 1000 by omega), ?_⟩
        intro a16 k16
        have v16 : e 16 = 1 := kept_yes a16 v8 v9
        clear a16
        intro a17 k17
        have b17 := c_not a17
        simp only [ev_var] at b17
        clear a17
        refine ⟨fun h17 => ?_, fun h17 => ?_⟩
        · have c17 := yes_of h17 b17
          clear b17
          exfalso
          omega
        · have c17 := no_of h17 b17
          clear b17
          refine ⟨trivial, ?_⟩
          intro a18 k18
          have v18 : e 18 = ((kFaults 0).sem [e 3]).getD 0 0 := a18
          clear a18
          refine ⟨trivial, ?_⟩
          intro a19 k19
          have v19 : e 19 = ((kFaults 0).sem [e 3]).getD 0 0 := a19
          clear a19
          intro a20 k20
          have b20 := c_ne a20
          simp only [ev_lit, ev_var] at b20
          clear a20
          refine ⟨fun h20 => ?_, fun h20 => ?_⟩
          · have c20 := yes_of h20 b20
            clear b20
            exfalso
            omega
          · have c20 := no_of h20 b20
            clear b20
            refine ⟨trivial, ?_⟩
            intro a21 k21
            have v21 : e 21 = errCo (e 0) (dec (e 1)) (e 2) := a21
            clear a21
            refine ⟨trivial, ?_⟩
            intro a22 k22
            have v22 : e 22 = errCo (e 0) (dec (e 1)) 0 := a22
            clear a22
            intro a23 k23
            have b23 := c_eq a23
            simp only [ev_lit, ev_var] at b23
            clear a23
            refine ⟨fun h23 => ?_, fun h23 => ?_⟩
            · have c23 := yes_of h23 b23
              clear b23
              intro a24 k24
              have b24 := c_lt a24
              simp only [ev_lit, ev_var] at b24
              clear a24
              refine ⟨fun h24 => ?_, fun h24 => ?_⟩
              · have c24 := yes_of h24 b24
                clear b24
                intro a121 k121
                have b121 := c_ne a121
                simp only [ev_lit, ev_var] at b121
                clear a121
                refine ⟨fun h121 => ?_, fun h121 => ?_⟩
                · have c121 := yes_of h121 b121
                  clear b121
                  exfalso
                  omega
                · have c121 := no_of h121 b121
                  clear b121
                  intro a313 k313
                  have b313 := c_ne a313
                  simp only [ev_lit, ev_var] at b313
                  clear a313
                  refine ⟨fun h313 => ?_, fun h313 => ?_⟩
                  · have c313 := yes_of h313 b313
                    clear b313
                    exfalso
                    omega
                  · have c313 := no_of h313 b313
                    clear b313
                    intro a505 k505
                    have b505 := c_ne a505
                    simp only [ev_lit, ev_var] at b505
                    clear a505
                    refine ⟨fun h505 => ?_, fun h505 => ?_⟩
                    · have c505 := yes_of h505 b505
                      clear b505
                      intro a697 k697
                      have b697 := c_num0 a697 k11
                      clear a697
                      intro a698 k698
                      have b698 := c_not a698
                      simp only [ev_var] at b698
                      clear a698
                      refine ⟨fun h698 => ?_, fun h698 => ?_⟩
                      · have c698 := yes_of h698 b698
                        have c697 := no_of c698 b697
                        clear b698 b697
                        exfalso
                        omega
                      · have c698 := no_of h698 b698
                        have c697 := yes_of c698 b697
                        clear b698 b697
                        intro a937 k937
                        have b937 := c_eq a937
                        simp only [ev_lit, ev_var] at b937
                        clear a937
                        refine ⟨fun h937 => ?_, fun h937 => ?_⟩
                        · have c937 := yes_of h937 b937
                          clear b937
                          refine ⟨hp7 (by omega), ?_⟩
                          intro a1225 k1225
                          have v1225 : e 1225 = polyV (dec (e 1)) (e 2) % rOf (e 0) := a1225
                          clear a1225
                          intro a1273 k1273
                          have b1273 := c_num a1273 k11 k1225
                          clear a1273
                          intro a1274 k1274
                          have b1274 := c_not a1274
                          simp only [ev_var] at b1274
                          clear a1274
                          refine ⟨fun h1274 => ?_, fun h1274 => ?_⟩
                          · have c1274 := yes_of h1274 b1274
                            have c1273 := no_of c1274 b1273
                            clear b1274 b1273
                            exfalso
                            omega
                          · have c1274 := no_of h1274 b1274
                            have c1273 := yes_of c1274 b1273
                            clear b1274 b1273
                            intro a1417 k1417
                            have v1417 : e 1417 = ((dec (e 14)).length : Int) := a1417
                            clear a1417
                            intro a1418 k1418
                            have b1418 := c_eq a1418
                            simp only [ev_lit, ev_var] at b1418
                            clear a1418
                            exact congrArg (fun x => [x]) (show e 1418 = 1 by omega)
                        · have c937 := no_of h937 b937
                          clear b937
                          intro a1417 k1417
                          have v1417 : e 1417 = ((dec (e 14)).length : Int) := a1417
                          clear a1417
                          intro a1418 k1418
                          have b1418 := c_eq a1418
                          simp only [ev_lit, ev_var] at b1418
                          clear a1418
                          exact congrArg (fun x => [x]) (show e 1418 = 1 by omega)
                    · have c505 := no_of h505 b505
                      clear b505
                      intro a937 k937
                      have b937 := c_eq a937
                      simp only [ev_lit, ev_var] at b937
                      clear a937
                      refine ⟨fun h937 => ?_, fun h937 => ?_⟩
                      · have c937 := yes_of h937 b937
                        clear b937
                        refine ⟨hp7 (by omega), ?_⟩
                        intro a1225 k1225
                        have v1225 : e 1225 = polyV (dec (e 1)) (e 2) % rOf (e 0) := a1225
                        clear a1225
                        intro a1273 k1273
                        have b1273 := c_num a1273 k11 k1225
                        clear a1273
                        intro a1274 k1274
                        have b1274 := c_not a1274
                        simp only [ev_var] at b1274
                        clear a1274
                        refine ⟨fun h1274 => ?_, fun h1274 => ?_⟩
                        · have c1274 := yes_of h1274 b1274
                          have c1273 := no_of c1274 b1273
                          clear b1274 b1273
                          exfalso
                          omega
                        · have c1274 := no_of h1274 b1274
                          have c1273 := yes_of c1274 b1273
                          clear b1274 b1273
                          intro a1417 k1417
                          have v1417 : e 1417 = ((dec (e 14)).length : Int) := a1417
                          clear a1417
                          intro a1418 k1418
                          have b1418 := c_eq a1418
                          simp only [ev_lit, ev_var] at b1418
                          clear a1418
                          exact congrArg (fun x => [x]) (show e 1418 = 1 by omega)
                      · have c937 := no_of h937 b937
                        clear b937
                        intro a1417 k1417
                        have v1417 : e 1417 = ((dec (e 14)).length : Int) := a1417
                        clear a1417
                        intro a1418 k1418
                        have b1418 := c_eq a1418
                        simp only [ev_lit, ev_var] at b1418
                        clear a1418
                        exact congrArg (fun x => [x]) (show e 1418 = 1 by omega)
              · have c24 := no_of h24 b24
                clear b24
                intro a25 k25
                have b25 := c_gt a25
                simp only [ev_lit, ev_var] at b25
                clear a25
                refine ⟨fun h25 => ?_, fun h25 => ?_⟩
                · have c25 := yes_of h25 b25
                  clear b25
                  intro a122 k122
                  have b122 := c_ne a122
                  simp only [ev_lit, ev_var] at b122
                  clear a122
                  refine ⟨fun h122 => ?_, fun h122 => ?_⟩
                  · have c122 := yes_of h122 b122
                    clear b122
                    exfalso
                    omega
                  · have c122 := no_of h122 b122
                    clear b122
                    intro a314 k314
                    have b314 := c_ne a314
                    simp only [ev_lit, ev_var] at b314
                    clear a314
                    refine ⟨fun h314 => ?_, fun h314 => ?_⟩
                    · have c314 := yes_of h314 b314
                      clear b314
                      exfalso
                      omega
                    · have c314 := no_of h314 b314
                      clear b314
                      intro a506 k506
                      have b506 := c_ne a506
                      simp only [ev_lit, ev_var] at b506
                      clear a506
                      refine ⟨fun h506 => ?_, fun h506 => ?_⟩
                      · have c506 := yes_of h506 b506
                        clear b506
                        intro a698 k698
                        have b698 := c_num0 a698 k11
                        clear a698
                        intro a699 k699
                        have b699 := c_not a699
                        simp only [ev_var] at b699
                        clear a699
                        refine ⟨fun h699 => ?_, fun h699 => ?_⟩
                        · have c699 := yes_of h699 b699
                          have c698 := no_of c699 b698
                          clear b699 b698
                          exfalso
                          omega
                        · have c699 := no_of h699 b699
                          have c698 := yes_of c699 b698
                          clear b699 b698
                          intro a938 k938
                          have b938 := c_eq a938
                          simp only [ev_lit, ev_var] at b938
                          clear a938
                          refine ⟨fun h938 => ?_, fun h938 => ?_⟩
                          · have c938 := yes_of h938 b938
                            clear b938
                            refine ⟨hp7 (by omega), ?_⟩
                            intro a1226 k1226
                            have v1226 : e 1226 = polyV (dec (e 1)) (e 2) % rOf (e 0) := a1226
                            clear a1226
                            intro a1274 k1274
                            have b1274 := c_num a1274 k11 k1226
                            clear a1274
                            intro a1275 k1275
                            have b1275 := c_not a1275
                            simp only [ev_var] at b1275
                            clear a1275
                            refine ⟨fun h1275 => ?_, fun h1275 => ?_⟩
                            · have c1275 := yes_of h1275 b1275
                              have c1274 := no_of c1275 b1274
                              clear b1275 b1274
                              exfalso
                              omega
                            · have c1275 := no_of h1275 b1275
                              have c1274 := yes_of c1275 b1274
                              clear b1275 b1274
                              intro a1418 k1418
                              have v1418 : e 1418 = ((dec (e 14)).length : Int) := a1418
                              clear a1418
                              intro a1419 k1419
                              have b1419 := c_eq a1419
                              simp only [ev_lit, ev_var] at b1419
                              clear a1419
                              exact congrArg (fun x => [x]) (show e 1419 = 1 by omega)
                          · have c938 := no_of h938 b938
                            clear b938
                            intro a1418 k1418
                            have v1418 : e 1418 = ((dec (e 14)).length : Int) := a1418
                            clear a1418
                            intro a1419 k1419
                            have b1419 := c_eq a1419
                            simp only [ev_lit, ev_var] at b1419
                            clear a1419
                            exact congrArg (fun x => [x]) (show e 1419 = 1 by omega)
                      · have c506 := no_of h506 b506
                        clear b506
                        intro a938 k938
                        have b938 := c_eq a938
                        simp only [ev_lit, ev_var] at b938
                        clear a938
                        refine ⟨fun h938 => ?_, fun h938 => ?_⟩
                        · have c938 := yes_of h938 b938
                          clear b938
                          refine ⟨hp7 (by omega), ?_⟩
                          intro a1226 k1226
                          have v1226 : e 1226 = polyV (dec (e 1)) (e 2) % rOf (e 0) := a1226
                          clear a1226
                          intro a1274 k1274
                          have b1274 := c_num a1274 k11 k1226
                          clear a1274
                          intro a1275 k1275
                          have b1275 := c_not a1275
                          simp only [ev_var] at b1275
                          clear a1275
                          refine ⟨fun h1275 => ?_, fun h1275 => ?_⟩
                          · have c1275 := yes_of h1275 b1275
                            have c1274 := no_of c1275 b1274
                            clear b1275 b1274
                            exfalso
                            omega
                          · have c1275 := no_of h1275 b1275
                            have c1274 := yes_of c1275 b1274
                            clear b1275 b1274
                            intro a1418 k1418
                            have v1418 : e 1418 = ((dec (e 14)).length : Int) := a1418
                            clear a1418
                            intro a1419 k1419
                            have b1419 := c_eq a1419
                            simp only [ev_lit, ev_var] at b1419
                            clear a1419
                            exact congrArg (fun x => [x]) (show e 1419 = 1 by omega)
                        · have c938 := no_of h938 b938
                          clear b938
                          intro a1418 k1418
                          have v1418 : e 1418 = ((dec (e 14)).length : Int) := a1418
                          clear a1418
                          intro a1419 k1419
                          have b1419 := c_eq a1419
                          simp only [ev_lit, ev_var] at b1419
                          clear a1419
                          exact congrArg (fun x => [x]) (show e 1419 = 1 by omega)
                · have c25 := no_of h25 b25
                  clear b25
                  intro a122 k122
                  have b122 := c_ne a122
                  simp only [ev_lit, ev_var] at b122
                  clear a122
                  refine ⟨fun h122 => ?_, fun h122 => ?_⟩
                  · have c122 := yes_of h122 b122
                    clear b122
                    exfalso
                    omega
                  · have c122 := no_of h122 b122
                    clear b122
                    intro a314 k314
                    have b314 := c_ne a314
                    simp only [ev_lit, ev_var] at b314
                    clear a314
                    refine ⟨fun h314 => ?_, fun h314 => ?_⟩
                    · have c314 := yes_of h314 b314
                      clear b314
                      exfalso
                      omega
                    · have c314 := no_of h314 b314
                      clear b314
                      intro a506 k506
                      have b506 := c_ne a506
                      simp only [ev_lit, ev_var] at b506
                      clear a506
                      refine ⟨fun h506 => ?_, fun h506 => ?_⟩
                      · have c506 := yes_of h506 b506
                        clear b506
                        intro a698 k698
                        have b698 := c_num0 a698 k11
                        clear a698
                        intro a699 k699
                        have b699 := c_not a699
                        simp only [ev_var] at b699
                        clear a699
                        refine ⟨fun h699 => ?_, fun h699 => ?_⟩
                        · have c699 := yes_of h699 b699
                          have c698 := no_of c699 b698
                          clear b699 b698
                          exfalso
                          omega
                        · have c699 := no_of h699 b699
                          have c698 := yes_of c699 b698
                          clear b699 b698
                          intro a938 k938
                          have b938 := c_eq a938
                          simp only [ev_lit, ev_var] at b938
                          clear a938
                          refine ⟨fun h938 => ?_, fun h938 => ?_⟩
                          · have c938 := yes_of h938 b938
                            clear b938
                            refine ⟨hp7 (by omega), ?_⟩
                            intro a1226 k1226
                            have v1226 : e 1226 = polyV (dec (e 1)) (e 2) % rOf (e 0) := a1226
                            clear a1226
                            intro a1274 k1274
                            have b1274 := c_num a1274 k11 k1226
                            clear a1274
                            intro a1275 k1275
                            have b1275 := c_not a1275
                            simp only [ev_var] at b1275
                            clear a1275
                            refine ⟨fun h1275 => ?_, fun h1275 => ?_⟩
                            · have c1275 := yes_of h1275 b1275
                              have c1274 := no_of c1275 b1274
                              clear b1275 b1274
                              exfalso
                              omega
                            · have c1275 := no_of h1275 b1275
                              have c1274 := yes_of c1275 b1274
                              clear b1275 b1274
                              intro a1418 k1418
                              have b1418 := c_ne a1418
                              simp only [ev_lit, ev_var] at b1418
                              clear a1418
                              refine ⟨fun h1418 => ?_, fun h1418 => ?_⟩
                              · have c1418 := yes_of h1418 b1418
                                clear b1418
                                intro a1419 k1419
                                have v1419 : e 1419 = ((dec (e 14)).length : Int) := a1419
                                clear a1419
                                intro a1420 k1420
                                have b1420 := c_eq a1420
                                simp only [ev_lit, ev_var] at b1420
                                clear a1420
                                exact congrArg (fun x => [x]) (show e 1420 = 1 by omega)
                              · have c1418 := no_of h1418 b1418
                                clear b1418
                                exact loop19_ok te fs 1419 14 (by omega) (by omega) e (by omega) (by omega) (hp0 (by omega)) (hS (by omega) (by omega) (by omega))
                          · have c938 := no_of h938 b938
                            clear b938
                            intro a1418 k1418
                            have b1418 := c_ne a1418
                            simp only [ev_lit, ev_var] at b1418
                            clear a1418
                            refine ⟨fun h1418 => ?_, fun h1418 => ?_⟩
                            · have c1418 := yes_of h1418 b1418
                              clear b1418
                              intro a1419 k1419
                              have v1419 : e 1419 = ((dec (e 14)).length : Int) := a1419
                              clear a1419
                              intro a1420 k1420
                              have b1420 := c_eq a1420
                              simp only [ev_lit, ev_var] at b1420
                              clear a1420
                              exact congrArg (fun x => [x]) (show e 1420 = 1 by omega)
                            · have c1418 := no_of h1418 b1418
                              clear b1418
                              exact loop19_ok te fs 1419 14 (by omega) (by omega) e (by omega) (by omega) (hp0 (by omega)) (hS (by omega) (by omega) (by omega))
                      · have c506 := no_of h506 b506
                        clear b506
                        intro a938 k938
                        have b938 := c_eq a938
                        simp only [ev_lit, ev_var] at b938
                        clear a938
                        refine ⟨fun h938 => ?_, fun h938 => ?_⟩
                        · have c938 := yes_of h938 b938
                          clear b938
                          refine ⟨hp7 (by omega), ?_⟩
                          intro a1226 k1226
                          have v1226 : e 1226 = polyV (dec (e 1)) (e 2) % rOf (e 0) := a1226
                          clear a1226
                          intro a1274 k1274
                          have b1274 := c_num a1274 k11 k1226
                          clear a1274
                          intro a1275 k1275
                          have b1275 := c_not a1275
                          simp only [ev_var] at b1275
                          clear a1275
                          refine ⟨fun h1275 => ?_, fun h1275 => ?_⟩
                          · have c1275 := yes_of h1275 b1275
                            have c1274 := no_of c1275 b1274
                            clear b1275 b1274
                            exfalso
                            omega
                          · have c1275 := no_of h1275 b1275
                            have c1274 := yes_of c1275 b1274
                            clear b1275 b1274
                            intro a1418 k1418
                            have b1418 := c_ne a1418
                            simp only [ev_lit, ev_var] at b1418
                            clear a1418
                            refine ⟨fun h1418 => ?_, fun h1418 => ?_⟩
                            · have c1418 := yes_of h1418 b1418
                              clear b1418
                              intro a1419 k1419
                              have v1419 : e 1419 = ((dec (e 14)).length : Int) := a1419
                              clear a1419
                              intro a1420 k1420
                              have b1420 := c_eq a1420
                              simp only [ev_lit, ev_var] at b1420
                              clear a1420
                              exact congrArg (fun x => [x]) (show e 1420 = 1 by omega)
                            · have c1418 := no_of h1418 b1418
                              clear b1418
                              exact loop19_ok te fs 1419 14 (by omega) (by omega) e (by omega) (by omega) (hp0 (by omega)) (hS (by omega) (by omega) (by omega))
                        · have c938 := no_of h938 b938
                          clear b938
                          intro a1418 k1418
                          have b1418 := c_ne a1418
                          simp only [ev_lit, ev_var] at b1418
                          clear a1418
                          refine ⟨fun h1418 => ?_, fun h1418 => ?_⟩
                          · have c1418 := yes_of h1418 b1418
                            clear b1418
                            intro a1419 k1419
                            have v1419 : e 1419 = ((dec (e 14)).length : Int) := a1419
                            clear a1419
                            intro a1420 k1420
                            have b1420 := c_eq a1420
                            simp only [ev_lit, ev_var] at b1420
                            clear a1420
                            exact congrArg (fun x => [x]) (show e 1420 = 1 by omega)
                          · have c1418 := no_of h1418 b1418
                            clear b1418
                            exact loop19_ok te fs 1419 14 (by omega) (by omega) e (by omega) (by omega) (hp0 (by omega)) (hS (by omega) (by omega) (by omega))
            · have c23 := no_of h23 b23
              clear b23
              intro a120 k120
              have b120 := c_ne a120
              simp only [ev_lit, ev_var] at b120
              clear a120
              refine ⟨fun h120 => ?_, fun h120 => ?_⟩
              · have c120 := yes_of h120 b120
                clear b120
                exfalso
                omega
              · have c120 := no_of h120 b120
                clear b120
                intro a312 k312
                have b312 := c_ne a312
                simp only [ev_lit, ev_var] at b312
                clear a312
                refine ⟨fun h312 => ?_, fun h312 => ?_⟩
                · have c312 := yes_of h312 b312
                  clear b312
                  exfalso
                  omega
                · have c312 := no_of h312 b312
                  clear b312
                  intro a504 k504
                  have b504 := c_ne a504
                  simp only [ev_lit, ev_var] at b504
                  clear a504
                  refine ⟨fun h504 => ?_, fun h504 => ?_⟩
                  · have c504 := yes_of h504 b504
                    clear b504
                    intro a696 k696
                    have b696 := c_num0 a696 k11
                    clear a696
                    intro a697 k697
                    have b697 := c_not a697
                    simp only [ev_var] at b697
                    clear a697
                    refine ⟨fun h697 => ?_, fun h697 => ?_⟩
                    · have c697 := yes_of h697 b697
                      have c696 := no_of c697 b696
                      clear b697 b696
                      exfalso
                      omega
                    · have c697 := no_of h697 b697
                      have c696 := yes_of c697 b696
                      clear b697 b696
                      intro a936 k936
                      have b936 := c_eq a936
                      simp only [ev_lit, ev_var] at b936
                      clear a936
                      refine ⟨fun h936 => ?_, fun h936 => ?_⟩
                      · have c936 := yes_of h936 b936
                        clear b936
                        refine ⟨hp7 (by omega), ?_⟩
                        intro a1224 k1224
                        have v1224 : e 1224 = polyV (dec (e 1)) (e 2) % rOf (e 0) := a1224
                        clear a1224
                        intro a1272 k1272
                        have b1272 := c_num a1272 k11 k1224
                        clear a1272
                        intro a1273 k1273
                        have b1273 := c_not a1273
                        simp only [ev_var] at b1273
                        clear a1273
                        refine ⟨fun h1273 => ?_, fun h1273 => ?_⟩
                        · have c1273 := yes_of h1273 b1273
                          have c1272 := no_of c1273 b1272
                          clear b1273 b1272
                          exfalso
                          omega
                        · have c1273 := no_of h1273 b1273
                          have c1272 := yes_of c1273 b1272
                          clear b1273 b1272
                          intro a1416 k1416
                          have b1416 := c_ne a1416
                          simp only [ev_lit, ev_var] at b1416
                          clear a1416
                          refine ⟨fun h1416 => ?_, fun h1416 => ?_⟩
                          · have c1416 := yes_of h1416 b1416
                            clear b1416
                            intro a1417 k1417
                            have v1417 : e 1417 = ((dec (e 14)).length : Int) := a1417
                            clear a1417
                            intro a1418 k1418
                            have b1418 := c_eq a1418
                            simp only [ev_lit, ev_var] at b1418
                            clear a1418
                            exact congrArg (fun x => [x]) (show e 1418 = 1 by omega)
                          · have c1416 := no_of h1416 b1416
                            clear b1416
                            exact loop19_ok te fs 1417 14 (by omega) (by omega) e (by omega) (by omega) (hp0 (by omega)) (hS (by omega) (by omega) (by omega))
                      · have c936 := no_of h936 b936
                        clear b936
                        intro a1416 k1416
                        have b1416 := c_ne a1416
                        simp only [ev_lit, ev_var] at b1416
                        clear a1416
                        refine ⟨fun h1416 => ?_, fun h1416 => ?_⟩
                        · have c1416 := yes_of h1416 b1416
                          clear b1416
                          intro a1417 k1417
                          have v1417 : e 1417 = ((dec (e 14)).length : Int) := a1417
                          clear a1417
                          intro a1418 k1418
                          have b1418 := c_eq a1418
                          simp only [ev_lit, ev_var] at b1418
                          clear a1418
                          exact congrArg (fun x => [x]) (show e 1418 = 1 by omega)
                        · have c1416 := no_of h1416 b1416
                          clear b1416
                          exact loop19_ok te fs 1417 14 (by omega) (by omega) e (by omega) (by omega) (hp0 (by omega)) (hS (by omega) (by omega) (by omega))
                  · have c504 := no_of h504 b504
                    clear b504
                    intro a936 k936
                    have b936 := c_eq a936
                    simp only [ev_lit, ev_var] at b936
                    clear a936
                    refine ⟨fun h936 => ?_, fun h936 => ?_⟩
                    · have c936 := yes_of h936 b936
                      clear b936
                      refine ⟨hp7 (by omega), ?_⟩
                      intro a1224 k1224
                      have v1224 : e 1224 = polyV (dec (e 1)) (e 2) % rOf (e 0) := a1224
                      clear a1224
                      intro a1272 k1272
                      have b1272 := c_num a1272 k11 k1224
                      clear a1272
                      intro a1273 k1273
                      have b1273 := c_not a1273
                      simp only [ev_var] at b1273
                      clear a1273
                      refine ⟨fun h1273 => ?_, fun h1273 => ?_⟩
                      · have c1273 := yes_of h1273 b1273
                        have c1272 := no_of c1273 b1272
                        clear b1273 b1272
                        exfalso
                        omega
                      · have c1273 := no_of h1273 b1273
                        have c1272 := yes_of c1273 b1272
                        clear b1273 b1272
                        intro a1416 k1416
                        have b1416 := c_ne a1416
                        simp only [ev_lit, ev_var] at b1416
                        clear a1416
                        refine ⟨fun h1416 => ?_, fun h1416 => ?_⟩
                        · have c1416 := yes_of h1416 b1416
                          clear b1416
                          intro a1417 k1417
                          have v1417 : e 1417 = ((dec (e 14)).length : Int) := a1417
                          clear a1417
                          intro a1418 k1418
                          have b1418 := c_eq a1418
                          simp only [ev_lit, ev_var] at b1418
                          clear a1418
                          exact congrArg (fun x => [x]) (show e 1418 = 1 by omega)
                        · have c1416 := no_of h1416 b1416
                          clear b1416
                          exact loop19_ok te fs 1417 14 (by omega) (by omega) e (by omega) (by omega) (hp0 (by omega)) (hS (by omega) (by omega) (by omega))
                    · have c936 := no_of h936 b936
                      clear b936
                      intro a1416 k1416
                      have b1416 := c_ne a1416
                      simp only [ev_lit, ev_var] at b1416
                      clear a1416
                      refine ⟨fun h1416 => ?_, fun h1416 => ?_⟩
                      · have c1416 := yes_of h1416 b1416
                        clear b1416
                        intro a1417 k1417
                        have v1417 : e 1417 = ((dec (e 14)).length : Int) := a1417
                        clear a1417
                        intro a1418 k1418
                        have b1418 := c_eq a1418
                        simp only [ev_lit, ev_var] at b1418
                        clear a1418
                        exact congrArg (fun x => [x]) (show e 1418 = 1 by omega)
                      · have c1416 := no_of h1416 b1416
                        clear b1416
                        exact loop19_ok te fs 1417 14 (by omega) (by omega) e (by omega) (by omega) (hp0 (by omega)) (hS (by omega) (by omega) (by omega))
  · have c5 := no_of h5 b5
    clear b5
    intro a6 k6
    have b6 := c_gt a6
    simp only [ev_lit, ev_var] at b6
    clear a6
    refine ⟨fun h6 => ?_, fun h6 => ?_⟩
    · have c6 := yes_of h6 b6
      clear b6
      rfl
    · have c6 := no_of h6 b6
      clear b6
      refine ⟨(show (dec (e 1)).length ≤ 1000 by omega), ?_⟩
      intro a7 k7
      have v7 : e 7 = enc (lentL (dec (e 1))) := a7
      clear a7
      intro a8 k8
      have v8 : e 8 = ((dec (e 1)).length : Int) := a8
      clear a8
      intro a9 k9
      have v9 : dec (e 9) = dec (e 1) := lsub_lent a9 v7 v8
      clear a9
      refine ⟨trivial, ?_⟩
      intro a10 k10
      have v10 : (errCo (e 0) (dec (e 1)) (e 2) ≠ 0 ∧ e 10 = 0) ∨ (errCo (e 0) (dec (e 1)) (e 2) = 0 ∧ e 10 = polyV (dec (e 1)) (e 2) % rOf (e 0)) := sv_val a10 v9
      clear a10
      intro a11 k11
      have v11 : e 11 = errCo (e 0) (dec (e 1)) (e 2) := sv_err a11 v9
      clear a11
      intro a12 k12
      have v12 : dec (e 12) = dec (e 1) := lsub_lent a12 v7 v8
      clear a12
      refine ⟨trivial, ?_⟩
      intro a13 k13
      have v13 : ((errCo (e 0) (dec (e 1)) 0 ≠ 0 ∨ e 3 < 1 ∨ 64 < e 3) ∧ (dec (e 13)).length = 0) ∨ (errCo (e 0) (dec (e 1)) 0 = 0 ∧ 1 ≤ e 3 ∧ e 3 ≤ 64 ∧ ((dec (e 13)).length : Int) = e 3) := sp_len a13 v12
      have hS : errCo (e 0) (dec (e 1)) 0 = 0 → 1 ≤ e 3 → e 3 ≤ 64 → e 13 = enc (sharesV (rOf (e 0)) (dec (e 1)) (e 3).toNat) := sp_list a13 v12
      clear a13
      intro a14 k14
      have v14 : (errCo (e 0) (dec (e 1)) 0 ≠ 0 ∧ e 14 = errCo (e 0) (dec (e 1)) 0) ∨ (errCo (e 0) (dec (e 1)) 0 = 0 ∧ (e 3 < 1 ∨ 64 < e 3) ∧ e 14 = 2) ∨ (errCo (e 0) (dec (e 1)) 0 = 0 ∧ 1 ≤ e 3 ∧ e 3 ≤ 64 ∧ e 14 = 0) := sp_err a14 v12
      clear a14
      refine ⟨(show (dec (e 1)).length ≤ 1000 by omega), ?_⟩
      intro a15 k15
      have v15 : e 15 = 1 := kept_yes a15 v7 v8
      clear a15
      intro a16 k16
      have b16 := c_not a16
      simp only [ev_var] at b16
      clear a16
      refine ⟨fun h16 => ?_, fun h16 => ?_⟩
      · have c16 := yes_of h16 b16
        clear b16
        exfalso
        omega
      · have c16 := no_of h16 b16
        clear b16
        refine ⟨trivial, ?_⟩
        intro a17 k17
        have v17 : e 17 = ((kFaults 0).sem [e 3]).getD 0 0 := a17
        clear a17
        refine ⟨trivial, ?_⟩
        intro a18 k18
        have v18 : e 18 = ((kFaults 0).sem [e 3]).getD 0 0 := a18
        clear a18
        intro a19 k19
        have b19 := c_ne a19
        simp only [ev_lit, ev_var] at b19
        clear a19
        refine ⟨fun h19 => ?_, fun h19 => ?_⟩
        · have c19 := yes_of h19 b19
          clear b19
          exfalso
          omega
        · have c19 := no_of h19 b19
          clear b19
          refine ⟨trivial, ?_⟩
          intro a20 k20
          have v20 : e 20 = errCo (e 0) (dec (e 1)) (e 2) := a20
          clear a20
          refine ⟨trivial, ?_⟩
          intro a21 k21
          have v21 : e 21 = errCo (e 0) (dec (e 1)) 0 := a21
          clear a21
          intro a22 k22
          have b22 := c_eq a22
          simp only [ev_lit, ev_var] at b22
          clear a22
          refine ⟨fun h22 => ?_, fun h22 => ?_⟩
          · have c22 := yes_of h22 b22
            clear b22
            intro a23 k23
            have b23 := c_lt a23
            simp only [ev_lit, ev_var] at b23
            clear a23
            refine ⟨fun h23 => ?_, fun h23 => ?_⟩
            · have c23 := yes_of h23 b23
              clear b23
              intro a120 k120
              have b120 := c_ne a120
              simp only [ev_lit, ev_var] at b120
              clear a120
              refine ⟨fun h120 => ?_, fun h120 => ?_⟩
              · have c120 := yes_of h120 b120
                clear b120
                exfalso
                omega
              · have c120 := no_of h120 b120
                clear b120
                intro a312 k312
                have b312 := c_ne a312
                simp only [ev_lit, ev_var] at b312
                clear a312
                refine ⟨fun h312 => ?_, fun h312 => ?_⟩
                · have c312 := yes_of h312 b312
                  clear b312
                  exfalso
                  omega
                · have c312 := no_of h312 b312
                  clear b312
                  intro a504 k504
                  have b504 := c_ne a504
                  simp only [ev_lit, ev_var] at b504
                  clear a504
                  refine ⟨fun h504 => ?_, fun h504 => ?_⟩
                  · have c504 := yes_of h504 b504
                    clear b504
                    intro a696 k696
                    have b696 := c_num0 a696 k10
                    clear a696
                    intro a697 k697
                    have b697 := c_not a697
                    simp only [ev_var] at b697
                    clear a697
                    refine ⟨fun h697 => ?_, fun h697 => ?_⟩
                    · have c697 := yes_of h697 b697
                      have c696 := no_of c697 b696
                      clear b697 b696
                      exfalso
                      omega
                    · have c697 := no_of h697 b697
                      have c696 := yes_of c697 b696
                      clear b697 b696
                      intro a936 k936
                      have b936 := c_eq a936
                      simp only [ev_lit, ev_var] at b936
                      clear a936
                      refine ⟨fun h936 => ?_, fun h936 => ?_⟩
                      · have c936 := yes_of h936 b936
                        clear b936
                        refine ⟨hp7 (by omega), ?_⟩
                        intro a1224 k1224
                        have v1224 : e 1224 = polyV (dec (e 1)) (e 2) % rOf (e 0) := a1224
                        clear a1224
                        intro a1272 k1272
                        have b1272 := c_num a1272 k10 k1224
                        clear a1272
                        intro a1273 k1273
                        have b1273 := c_not a1273
                        simp only [ev_var] at b1273
                        clear a1273
                        refine ⟨fun h1273 => ?_, fun h1273 => ?_⟩
                        · have c1273 := yes_of h1273 b1273
                          have c1272 := no_of c1273 b1272
                          clear b1273 b1272
                          exfalso
                          omega
                        · have c1273 := no_of h1273 b1273
                          have c1272 := yes_of c1273 b1272
                          clear b1273 b1272
                          intro a1416 k1416
                          have v1416 : e 1416 = ((dec (e 13)).length : Int) := a1416
                          clear a1416
                          intro a1417 k1417
                          have b1417 := c_eq a1417
                          simp only [ev_lit, ev_var] at b1417
                          clear a1417
                          exact congrArg (fun x => [x]) (show e 1417 = 1 by omega)
                      · have c936 := no_of h936 b936
                        clear b936
                        intro a1416 k1416
                        have v1416 : e 1416 = ((dec (e 13)).length : Int) := a1416
                        clear a1416
                        intro a1417 k1417
                        have b1417 := c_eq a1417
                        simp only [ev_lit, ev_var] at b1417
                        clear a1417
                        exact congrArg (fun x => [x]) (show e 1417 = 1 by omega)
                  · have c504 := no_of h504 b504
                    clear b504
                    intro a936 k936
                    have b936 := c_eq a936
                    simp only [ev_lit, ev_var] at b936
                    clear a936
                    refine ⟨fun h936 => ?_, fun h936 => ?_⟩
                    · have c936 := yes_of h936 b936
                      clear b936
                      refine ⟨hp7 (by omega), ?_⟩
                      intro a1224 k1224
                      have v1224 : e 1224 = polyV (dec (e 1)) (e 2) % rOf (e 0) := a1224
                      clear a1224
                      intro a1272 k1272
                      have b1272 := c_num a1272 k10 k1224
                      clear a1272
                      intro a1273 k1273
                      have b1273 := c_not a1273
                      simp only [ev_var] at b1273
                      clear a1273
                      refine ⟨fun h1273 => ?_, fun h1273 => ?_⟩
                      · have c1273 := yes_of h1273 b1273
                        have c1272 := no_of c1273 b1272
                        clear b1273 b1272
                        exfalso
                        omega
                      · have c1273 := no_of h1273 b1273
                        have c1272 := yes_of c1273 b1272
                        clear b1273 b1272
                        intro a1416 k1416
                        have v1416 : e 1416 = ((dec (e 13)).length : Int) := a1416
                        clear a1416
                        intro a1417 k1417
                        have b1417 := c_eq a1417
                        simp only [ev_lit, ev_var] at b1417
                        clear a1417
                        exact congrArg (fun x => [x]) (show e 1417 = 1 by omega)
                    · have c936 := no_of h936 b936
                      clear b936
                      intro a1416 k1416
                      have v1416 : e 1416 = ((dec (e 13)).length : Int) := a1416
                      clear a1416
                      intro a1417 k1417
                      have b1417 := c_eq a1417
                      simp only [ev_lit, ev_var] at b1417
                      clear a1417
                      exact congrArg (fun x => [x]) (show e 1417 = 1 by omega)
            · have c23 := no_of h23 b23
              clear b23
              intro a24 k24
              have b24 := c_gt a24
              simp only [ev_lit, ev_var] at b24
              clear a24
              refine ⟨fun h24 => ?_, fun h24 => ?_⟩
              · have c24 := yes_of h24 b24
                clear b24
                intro a121 k121
                have b121 := c_ne a121
                simp only [ev_lit, ev_var] at b121
                clear a121
                refine ⟨fun h121 => ?_, fun h121 => ?_⟩
                · have c121 := yes_of h121 b121
                  clear b121
                  exfalso
                  omega
                · have c121 := no_of h121 b121
                  clear b121
                  intro a313 k313
                  have b313 := c_ne a313
                  simp only [ev_lit, ev_var] at b313
                  clear a313
                  refine ⟨fun h313 => ?_, fun h313 => ?_⟩
                  · have c313 := yes_of h313 b313
                    clear b313
                    exfalso
                    omega
                  · have c313 := no_of h313 b313
                    clear b313
                    intro a505 k505
                    have b505 := c_ne a505
                    simp only [ev_lit, ev_var] at b505
                    clear a505
                    refine ⟨fun h505 => ?_, fun h505 => ?_⟩
                    · have c505 := yes_of h505 b505
                      clear b505
                      intro a697 k697
                      have b697 := c_num0 a697 k10
                      clear a697
                      intro a698 k698
                      have b698 := c_not a698
                      simp only [ev_var] at b698
                      clear a698
                      refine ⟨fun h698 => ?_, fun h698 => ?_⟩
                      · have c698 := yes_of h698 b698
                        have c697 := no_of c698 b697
                        clear b698 b697
                        exfalso
                        omega
                      · have c698 := no_of h698 b698
                        have c697 := yes_of c698 b697
                        clear b698 b697
                        intro a937 k937
                        have b937 := c_eq a937
                        simp only [ev_lit, ev_var] at b937
                        clear a937
                        refine ⟨fun h937 => ?_, fun h937 => ?_⟩
                        · have c937 := yes_of h937 b937
                          clear b937
                          refine ⟨hp7 (by omega), ?_⟩
                          intro a1225 k1225
                          have v1225 : e 1225 = polyV (dec (e 1)) (e 2) % rOf (e 0) := a1225
                          clear a1225
                          intro a1273 k1273
                          have b1273 := c_num a1273 k10 k1225
                          clear a1273
                          intro a1274 k1274
                          have b1274 := c_not a1274
                          simp only [ev_var] at b1274
                          clear a1274
                          refine ⟨fun h1274 => ?_, fun h1274 => ?_⟩
                          · have c1274 := yes_of h1274 b1274
                            have c1273 := no_of c1274 b1273
                            clear b1274 b1273
                            exfalso
                            omega
                          · have c1274 := no_of h1274 b1274
                            have c1273 := yes_of c1274 b1273
                            clear b1274 b1273
                            intro a1417 k1417
                            have v1417 : e 1417 = ((dec (e 13)).length : Int) := a1417
                            clear a1417
                            intro a1418 k1418
                            have b1418 := c_eq a1418
                            simp only [ev_lit, ev_var] at b1418
                            clear a1418
                            exact congrArg (fun x => [x]) (show e 1418 = 1 by omega)
                        · have c937 := no_of h937 b937
                          clear b937
                          intro a1417 k1417
                          have v1417 : e 1417 = ((dec (e 13)).length : Int) := a1417
                          clear a1417
                          intro a1418 k1418
                          have b1418 := c_eq a1418
                          simp only [ev_lit, ev_var] at b1418
                          clear a1418
                          exact congrArg (fun x => [x]) (show e 1418 = 1 by omega)
                    · have c505 := no_of h505 b505
                      clear b505
                      intro a937 k937
                      have b937 := c_eq a937
                      simp only [ev_lit, ev_var] at b937
                      clear a937
                      refine ⟨fun h937 => ?_, fun h937 => ?_⟩
                      · have c937 := yes_of h937 b937
                        clear b937
                        refine ⟨hp7 (by omega), ?_⟩
                        intro a1225 k1225
                        have v1225 : e 1225 = polyV (dec (e 1)) (e 2) % rOf (e 0) := a1225
                        clear a1225
                        intro a1273 k1273
                        have b1273 := c_num a1273 k10 k1225
                        clear a1273
                        intro a1274 k1274
                        have b1274 := c_not a1274
                        simp only [ev_var] at b1274
                        clear a1274
                        refine ⟨fun h1274 => ?_, fun h1274 => ?_⟩
                        · have c1274 := yes_of h1274 b1274
                          have c1273 := no_of c1274 b1273
                          clear b1274 b1273
                          exfalso
                          omega
                        · have c1274 := no_of h1274 b1274
                          have c1273 := yes_of c1274 b1273
                          clear b1274 b1273
                          intro a1417 k1417
                          have v1417 : e 1417 = ((dec (e 13)).length : Int) := a1417
                          clear a1417
                          intro a1418 k1418
                          have b1418 := c_eq a1418
                          simp only [ev_lit, ev_var] at b1418
                          clear a1418
                          exact congrArg (fun x => [x]) (show e 1418 = 1 by omega)
                      · have c937 := no_of h937 b937
                        clear b937
                        intro a1417 k1417
                        have v1417 : e 1417 = ((dec (e 13)).length : Int) := a1417
                        clear a1417
                        intro a1418 k1418
                        have b1418 := c_eq a1418
                        simp only [ev_lit, ev_var] at b1418
                        clear a1418
                        exact congrArg (fun x => [x]) (show e 1418 = 1 by omega)
              · have c24 := no_of h24 b24
                clear b24
                intro a121 k121
                have b121 := c_ne a121
                simp only [ev_lit, ev_var] at b121
                clear a121
                refine ⟨fun h121 => ?_, fun h121 => ?_⟩
                · have c121 := yes_of h121 b121
                  clear b121
                  exfalso
                  omega
                · have c121 := no_of h121 b121
                  clear b121
                  intro a313 k313
                  have b313 := c_ne a313
                  simp only [ev_lit, ev_var] at b313
                  clear a313
                  refine ⟨fun h313 => ?_, fun h313 => ?_⟩
                  · have c313 := yes_of h313 b313
                    clear b313
                    exfalso
                    omega
                  · have c313 := no_of h313 b313
                    clear b313
                    intro a505 k505
                    have b505 := c_ne a505
                    simp only [ev_lit, ev_var] at b505
                    clear a505
                    refine ⟨fun h505 => ?_, fun h505 => ?_⟩
                    · have c505 := yes_of h505 b505
                      clear b505
                      intro a697 k697
                      have b697 := c_num0 a697 k10
                      clear a697
                      intro a698 k698
                      have b698 := c_not a698
                      simp only [ev_var] at b698
                      clear a698
                      refine ⟨fun h698 => ?_, fun h698 => ?_⟩
                      · have c698 := yes_of h698 b698
                        have c697 := no_of c698 b697
                        clear b698 b697
                        exfalso
                        omega
                      · have c698 := no_of h698 b698
                        have c697 := yes_of c698 b697
                        clear b698 b697
                        intro a937 k937
                        have b937 := c_eq a937
                        simp only [ev_lit, ev_var] at b937
                        clear a937
                        refine ⟨fun h937 => ?_, fun h937 => ?_⟩
                        · have c937 := yes_of h937 b937
                          clear b937
                          refine ⟨hp7 (by omega), ?_⟩
                          intro a1225 k1225
                          have v1225 : e 1225 = polyV (dec (e 1)) (e 2) % rOf (e 0) := a1225
                          clear a1225
                          intro a1273 k1273
                          have b1273 := c_num a1273 k10 k1225
                          clear a1273
                          intro a1274 k1274
                          have b1274 := c_not a1274
                          simp only [ev_var] at b1274
                          clear a1274
                          refine ⟨fun h1274 => ?_, fun h1274 => ?_⟩
                          · have c1274 := yes_of h1274 b1274
                            have c1273 := no_of c1274 b1273
                            clear b1274 b1273
                            exfalso
                            omega
                          · have c1274 := no_of h1274 b1274
                            have c1273 := yes_of c1274 b1273
                            clear b1274 b1273
                            intro a1417 k1417
                            have b1417 := c_ne a1417
                            simp only [ev_lit, ev_var] at b1417
                            clear a1417
                            refine ⟨fun h1417 => ?_, fun h1417 => ?_⟩
                            · have c1417 := yes_of h1417 b1417
                              clear b1417
                              intro a1418 k1418
                              have v1418 : e 1418 = ((dec (e 13)).length : Int) := a1418
                              clear a1418
                              intro a1419 k1419
                              have b1419 := c_eq a1419
                              simp only [ev_lit, ev_var] at b1419
                              clear a1419
                              exact congrArg (fun x => [x]) (show e 1419 = 1 by omega)
                            · have c1417 := no_of h1417 b1417
                              clear b1417
                              exact loop19_ok te fs 1418 13 (by omega) (by omega) e (by omega) (by omega) (hp0 (by omega)) (hS (by omega) (by omega) (by omega))
                        · have c937 := no_of h937 b937
                          clear b937
                          intro a1417 k1417
                          have b1417 := c_ne a1417
                          simp only [ev_lit, ev_var] at b1417
                          clear a1417
                          refine ⟨fun h1417 => ?_, fun h1417 => ?_⟩
                          · have c1417 := yes_of h1417 b1417
                            clear b1417
                            intro a1418 k1418
                            have v1418 : e 1418 = ((dec (e 13)).length : Int) := a1418
                            clear a1418
                            intro a1419 k1419
                            have b1419 := c_eq a1419
                            simp only [ev_lit, ev_var] at b1419
                            clear a1419
                            exact congrArg (fun x => [x]) (show e 1419 = 1 by omega)
                          · have c1417 := no_of h1417 b1417
                            clear b1417
                            exact loop19_ok te fs 1418 13 (by omega) (by omega) e (by omega) (by omega) (hp0 (by omega)) (hS (by omega) (by omega) (by omega))
                    · have c505 := no_of h505 b505
                      clear b505
                      intro a937 k937
                      have b937 := c_eq a937
                      simp only [ev_lit, ev_var] at b937
                      clear a937
                      refine ⟨fun h937 => ?_, fun h937 => ?_⟩
                      · have c937 := yes_of h937 b937
                        clear b937
                        refine ⟨hp7 (by omega), ?_⟩
                        intro a1225 k1225
                        have v1225 : e 1225 = polyV (dec (e 1)) (e 2) % rOf (e 0) := a1225
                        clear a1225
                        intro a1273 k1273
                        have b1273 := c_num a1273 k10 k1225
                        clear a1273
                        intro a1274 k1274
                        have b1274 := c_not a1274
                        simp only [ev_var] at b1274
                        clear a1274
                        refine ⟨fun h1274 => ?_, fun h1274 => ?_⟩
                        · have c1274 := yes_of h1274 b1274
                          have c1273 := no_of c1274 b1273
                          clear b1274 b1273
                          exfalso
                          omega
                        · have c1274 := no_of h1274 b1274
                          have c1273 := yes_of c1274 b1273
                          clear b1274 b1273
                          intro a1417 k1417
                          have b1417 := c_ne a1417
                          simp only [ev_lit, ev_var] at b1417
                          clear a1417
                          refine ⟨fun h1417 => ?_, fun h1417 => ?_⟩
                          · have c1417 := yes_of h1417 b1417
                            clear b1417
                            intro a1418 k1418
                            have v1418 : e 1418 = ((dec (e 13)).length : Int) := a1418
                            clear a1418
                            intro a1419 k1419
                            have b1419 := c_eq a1419
                            simp only [ev_lit, ev_var] at b1419
                            clear a1419
                            exact congrArg (fun x => [x]) (show e 1419 = 1 by omega)
                          · have c1417 := no_of h1417 b1417
                            clear b1417
                            exact loop19_ok te fs 1418 13 (by omega) (by omega) e (by omega) (by omega) (hp0 (by omega)) (hS (by omega) (by omega) (by omega))
                      · have c937 := no_of h937 b937
                        clear b937
                        intro a1417 k1417
                        have b1417 := c_ne a1417
                        simp only [ev_lit, ev_var] at b1417
                        clear a1417
                        refine ⟨fun h1417 => ?_, fun h1417 => ?_⟩
                        · have c1417 := yes_of h1417 b1417
                          clear b1417
                          intro a1418 k1418
                          have v1418 : e 1418 = ((dec (e 13)).length : Int) := a1418
                          clear a1418
                          intro a1419 k1419
                          have b1419 := c_eq a1419
                          simp only [ev_lit, ev_var] at b1419
                          clear a1419
                          exact congrArg (fun x => [x]) (show e 1419 = 1 by omega)
                        · have c1417 := no_of h1417 b1417
                          clear b1417
                          exact loop19_ok te fs 1418 13 (by omega) (by omega) e (by omega) (by omega) (hp0 (by omega)) (hS (by omega) (by omega) (by omega))
          · have c22 := no_of h22 b22
            clear b22
            intro a119 k119
            have b119 := c_ne a119
            simp only [ev_lit, ev_var] at b119
            clear a119
            refine ⟨fun h119 => ?_, fun h119 => ?_⟩
            · have c119 := yes_of h119 b119
              clear b119
              exfalso
              omega
            · have c119 := no_of h119 b119
              clear b119
              intro a311 k311
              have b311 := c_ne a311
              simp only [ev_lit, ev_var] at b311
              clear a311
              refine ⟨fun h311 => ?_, fun h311 => ?_⟩
              · have c311 := yes_of h311 b311
                clear b311
                exfalso
                omega
              · have c311 := no_of h311 b311
                clear b311
                intro a503 k503
                have b503 := c_ne a503
                simp only [ev_lit, ev_var] at b503
                clear a503
                refine ⟨fun h503 => ?_, fun h503 => ?_⟩
                · have c503 := yes_of h503 b503
                  clear b503
                  intro a695 k695
                  have b695 := c_num0 a695 k10
                  clear a695
                  intro a696 k696
                  have b696 := c_not a696
                  simp only [ev_var] at b696
                  clear a696
                  refine ⟨fun h696 => ?_, fun h696 => ?_⟩
                  · have c696 := yes_of h696 b696
                    have c695 := no_of c696 b695
                    clear b696 b695
                    exfalso
                    omega
                  · have c696 := no_of h696 b696
                    have c695 := yes_of c696 b695
                    clear b696 b695
                    intro a935 k935
                    have b935 := c_eq a935
                    simp only [ev_lit, ev_var] at b935
                    clear a935
                    refine ⟨fun h935 => ?_, fun h935 => ?_⟩
                    · have c935 := yes_of h935 b935
                      clear b935
                      refine ⟨hp7 (by omega), ?_⟩
                      intro a1223 k1223
                      have v1223 : e 1223 = polyV (dec (e 1)) (e 2) % rOf (e 0) := a1223
                      clear a1223
                      intro a1271 k1271
                      have b1271 := c_num a1271 k10 k1223
                      clear a1271
                      intro a1272 k1272
                      have b1272 := c_not a1272
                      simp only [ev_var] at b1272
                      clear a1272
                      refine ⟨fun h1272 => ?_, fun h1272 => ?_⟩
                      · have c1272 := yes_of h1272 b1272
                        have c1271 := no_of c1272 b1271
                        clear b1272 b1271
                        exfalso
                        omega
                      · have c1272 := no_of h1272 b1272
                        have c1271 := yes_of c1272 b1271
                        clear b1272 b1271
                        intro a1415 k1415
                        have b1415 := c_ne a1415
                        simp only [ev_lit, ev_var] at b1415
                        clear a1415
                        refine ⟨fun h1415 => ?_, fun h1415 => ?_⟩
                        · have c1415 := yes_of h1415 b1415
                          clear b1415
                          intro a1416 k1416
                          have v1416 : e 1416 = ((dec (e 13)).length : Int) := a1416
                          clear a1416
                          intro a1417 k1417
                          have b1417 := c_eq a1417
                          simp only [ev_lit, ev_var] at b1417
                          clear a1417
                          exact congrArg (fun x => [x]) (show e 1417 = 1 by omega)
                        · have c1415 := no_of h1415 b1415
                          clear b1415
                          exact loop19_ok te fs 1416 13 (by omega) (by omega) e (by omega) (by omega) (hp0 (by omega)) (hS (by omega) (by omega) (by omega))
                    · have c935 := no_of h935 b935
                      clear b935
                      intro a1415 k1415
                      have b1415 := c_ne a1415
                      simp only [ev_lit, ev_var] at b1415
                      clear a1415
                      refine ⟨fun h1415 => ?_, fun h1415 => ?_⟩
                      · have c1415 := yes_of h1415 b1415
                        clear b1415
                        intro a1416 k1416
                        have v1416 : e 1416 = ((dec (e 13)).length : Int) := a1416
                        clear a1416
                        intro a1417 k1417
                        have b1417 := c_eq a1417
                        simp only [ev_lit, ev_var] at b1417
                        clear a1417
                        exact congrArg (fun x => [x]) (show e 1417 = 1 by omega)
                      · have c1415 := no_of h1415 b1415
                        clear b1415
                        exact loop19_ok te fs 1416 13 (by omega) (by omega) e (by omega) (by omega) (hp0 (by omega)) (hS (by omega) (by omega) (by omega))
                · have c503 := no_of h503 b503
                  clear b503
                  intro a935 k935
                  have b935 := c_eq a935
                  simp only [ev_lit, ev_var] at b935
                  clear a935
                  refine ⟨fun h935 => ?_, fun h935 => ?_⟩
                  · have c935 := yes_of h935 b935
                    clear b935
                    refine ⟨hp7 (by omega), ?_⟩
                    intro a1223 k1223
                    have v1223 : e 1223 = polyV (dec (e 1)) (e 2) % rOf (e 0) := a1223
                    clear a1223
                    intro a1271 k1271
                    have b1271 := c_num a1271 k10 k1223
                    clear a1271
                    intro a1272 k1272
                    have b1272 := c_not a1272
                    simp only [ev_var] at b1272
                    clear a1272
                    refine ⟨fun h1272 => ?_, fun h1272 => ?_⟩
                    · have c1272 := yes_of h1272 b1272
                      have c1271 := no_of c1272 b1271
                      clear b1272 b1271
                      exfalso
                      omega
                    · have c1272 := no_of h1272 b1272
                      have c1271 := yes_of c1272 b1271
                      clear b1272 b1271
                      intro a1415 k1415
                      have b1415 := c_ne a1415
                      simp only [ev_lit, ev_var] at b1415
                      clear a1415
                      refine ⟨fun h1415 => ?_, fun h1415 => ?_⟩
                      · have c1415 := yes_of h1415 b1415
                        clear b1415
                        intro a1416 k1416
                        have v1416 : e 1416 = ((dec (e 13)).length : Int) := a1416
                        clear a1416
                        intro a1417 k1417
                        have b1417 := c_eq a1417
                        simp only [ev_lit, ev_var] at b1417
                        clear a1417
                        exact congrArg (fun x => [x]) (show e 1417 = 1 by omega)
                      · have c1415 := no_of h1415 b1415
                        clear b1415
                        exact loop19_ok te fs 1416 13 (by omega) (by omega) e (by omega) (by omega) (hp0 (by omega)) (hS (by omega) (by omega) (by omega))
                  · have c935 := no_of h935 b935
                    clear b935
                    intro a1415 k1415
                    have b1415 := c_ne a1415
                    simp only [ev_lit, ev_var] at b1415
                    clear a1415
                    refine ⟨fun h1415 => ?_, fun h1415 => ?_⟩
                    · have c1415 := yes_of h1415 b1415
                      clear b1415
                      intro a1416 k1416
                      have v1416 : e 1416 = ((dec (e 13)).length : Int) := a1416
                      clear a1416
                      intro a1417 k1417
                      have b1417 := c_eq a1417
                      simp only [ev_lit, ev_var] at b1417
                      clear a1417
                      exact congrArg (fun x => [x]) (show e 1417 = 1 by omega)
                    · have c1415 := no_of h1415 b1415
                      clear b1415
                      exact loop19_ok te fs 1416 13 (by omega) (by omega) e (by omega) (by omega) (hp0 (by omega)) (hS (by omega) (by omega) (by omega))

end Go.Sx
