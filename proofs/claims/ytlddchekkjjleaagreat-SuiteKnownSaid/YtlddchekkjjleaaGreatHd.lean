/- Laws: the references: lengths, powers, little arithmetic, suite's scalars. -/
import Derived.Test.YtlddchekkjjleaaGreatHc
import Derived.Test.YtlddchekkjjleaaGreatHa
set_option linter.unusedVariables false
set_option linter.unusedSimpArgs false
namespace Go.Sx
open Go Go.RowKit
set_option maxRecDepth 100000
set_option linter.unusedSimpArgs false
set_option linter.unusedVariables false
def tRefLen : Tree := (.loop [(.lit 383)] [(.int .i64)] 1
(.lett 2 .bit (.cmp .geq (.var 1) (.lit 0))
(.split 2
 (.req 0 [(.var 0), (.var 1)]
 (.lett 3 (.int .i64) (.app 0 0 [(.var 0), (.var 1)])
 (.lett 4 .bit (.cmp .eql (.var 3) (.lit 1))
 (.split 4
  (.lett 5 (.int .i64) (.bin .add .i64 (.var 1) (.lit 1))
  (.ret [(.var 5)]))
  (.lett 5 (.int .i64) (.bin .sub .i64 (.var 1) (.lit 1))
  (.back 0 [(.var 5)]))))))
 (.ret [(.lit 0)]))))
def LenI (a : Int) : List Int → Prop
  | [i] => -1 ≤ i ∧ i ≤ 383 ∧ a < 2 ^ (i + 1).toNat
  | _ => False
theorem law_refLen (f1 f : FuncId) (e : Nat → Int) (hk : kkHas [.num] [e 0]) : tRefLen.says [kBit f1] ⟨fun ys => ys = (kWLen f).sem [e 0], []⟩ e := by
  have h0 := hk.1
  simp only [KK.has] at h0
  simp only [tRefLen, kBit, kWLen, Tree.says, List.getElem?_cons_zero, List.getElem?_cons_succ, List.map, ev_lit, ev_var, ev_limb, D.ev, List.getD_cons_zero, List.getD_cons_succ]
  refine ⟨LenI (e 0), fun | [i] => (i + 1).toNat | _ => 0, ⟨by decide, by decide, by rw [show ((383 : Int) + 1).toNat = 384 from rfl, show (2 : Int) ^ 384 = N384 by decide +kernel]; exact h0.2⟩, fun e' he hkk hI => ?_⟩
  obtain ⟨i1, i2, i3⟩ : LenI (e 0) [e' 1] := hI
  rw [he 0 (by decide)]
  intro a2 _
  have b2 := c_ge a2
  refine ⟨fun hs => ⟨trivial, fun a3 _ a4 _ => ?_⟩, fun hs => ?_⟩
  · have b4 := c_eq a4
    obtain ⟨n, hn⟩ := Int.eq_ofNat_of_zero_le (show 0 ≤ e' 1 by omega)
    rw [hn] at i3
    rw [if_pos (by omega), hn, Int.toNat_natCast] at a3
    rw [show ((n : Int) + 1).toNat = n + 1 by omega] at i3
    have hp : (0 : Int) < 2 ^ n := Int.pow_pos (by decide)
    have hq : e 0 / 2 ^ n < 2 := Int.ediv_lt_of_lt_mul hp (by rw [Int.pow_succ] at i3; omega)
    have hq0 : 0 ≤ e 0 / 2 ^ n := Int.ediv_nonneg h0.1 (by omega)
    refine ⟨fun hs2 => ?_, fun hs2 => ?_⟩
    · intro a5 _
      have h1 : e 0 / 2 ^ n = 1 := by omega
      have h2 : (2 : Int) ^ n ≤ e 0 := by
        have := Int.mul_le_of_le_ediv (a := 1) hp (show (1 : Int) ≤ e 0 / 2 ^ n by omega); omega
      have h3 := blen_gt n (e 0) h2
      have h4 := blen_le (n + 1) (e 0) h0.1 i3
      have h5 : e' 5 = n + 1 := by rw [a5]; simp only [binE, wr]; omega
      rw [h5]
      congr 1
      omega
    · intro a5 _
      have h1 : e 0 / 2 ^ n = 0 := by omega
      have h2 : e 0 < 2 ^ n := by
        by_cases hc : e 0 < 2 ^ n
        · exact hc
        · exfalso
          have := Int.le_ediv_of_mul_le hp (show 1 * 2 ^ n ≤ e 0 by omega)
          omega
      have h5 : e' 5 = n - 1 := by rw [a5]; simp only [binE, wr]; omega
      show LenI (e 0) [e' 5] ∧ (e' 5 + 1).toNat < (e' 1 + 1).toNat
      rw [h5, hn]
      refine ⟨⟨by omega, by omega, ?_⟩, by omega⟩
      rw [show ((n : Int) - 1 + 1).toNat = n by omega]; exact h2
  · have h1 : e' 1 = -1 := by omega
    rw [h1] at i3
    have h2 : e 0 = 0 := by
      have : e 0 < 1 := i3
      omega
    rw [h2]; rfl
/-! ### powers -/
theorem pow_bit (a : Int) (x : Int) (hx : 0 ≤ x) (i : Nat) : a ^ (x / 2 ^ i).toNat = a ^ (x / 2 ^ (i + 1)).toNat * a ^ (x / 2 ^ (i + 1)).toNat * (if x / 2 ^ i % 2 = 1 then a else 1) := by
  have hp : (0 : Int) < 2 ^ i := Int.pow_pos (by decide)
  have h1 : x / 2 ^ (i + 1) = x / 2 ^ i / 2 := by rw [Int.pow_succ, Int.ediv_ediv_of_nonneg (by omega)]
  have h0 := Int.ediv_nonneg hx (show (0 : Int) ≤ 2 ^ i by omega)
  rw [h1, ← Int.pow_add]
  generalize x / 2 ^ i = y at *
  split
  · rw [show y.toNat = ((y / 2).toNat + (y / 2).toNat) + 1 by omega, Int.pow_succ]
  · rw [Int.mul_one]; congr 1; omega
theorem md_mul {a b n : Int} : a % n * (b % n) % n = a * b % n := by rw [← Int.mul_emod]
def PowI (n a x : Int) : List Int → Prop
  | [i, o] => -1 ≤ i ∧ i ≤ 383 ∧ o = a ^ (x / 2 ^ (i + 1).toNat).toNat % n
  | _ => False
theorem pow_step0 {n a x o o1 : Int} {i : Nat} (hx : 0 ≤ x) (ho : o = a ^ (x / 2 ^ (i + 1)).toNat % n) (h1 : o1 = o * o % n) (hb : x / 2 ^ i % 2 = 0) : o1 = a ^ (x / 2 ^ i).toNat % n := by
  rw [pow_bit a x hx i, if_neg (by omega), Int.mul_one, h1, ho, md_mul]
theorem pow_step1 {n a x o o1 o2 : Int} {i : Nat} (hx : 0 ≤ x) (ho : o = a ^ (x / 2 ^ (i + 1)).toNat % n) (h1 : o1 = o * o % n) (h2 : o2 = o1 * a % n) (hb : x / 2 ^ i % 2 = 1) : o2 = a ^ (x / 2 ^ i).toNat % n := by
  rw [pow_bit a x hx i, if_pos hb, h2, h1, ho, md_mul]
  obtain ⟨z, hz⟩ := md_of (x := a ^ (x / 2 ^ (i + 1)).toNat * a ^ (x / 2 ^ (i + 1)).toNat) (n := n)
  rw [hz]
  exact md (z * a) (by grind)
def tFMul : Tree := (.req 0 [(.var 0), (.var 1), (.var 2), (.var 3), (.var 4)]
(.lett 197 .num (.app 0 0 [(.var 0), (.var 1), (.var 2), (.var 3), (.var 4)])
(.req 0 [(.var 0), (.var 1), (.var 2), (.var 197), (.var 2)]
(.lett 341 .num (.app 0 0 [(.var 0), (.var 1), (.var 2), (.var 197), (.var 2)])
(.ret [(.var 341)])))))
theorem law_fMul (f1 f : FuncId) (e : Nat → Int) (hk : kkHas [.num, .int .u64, .num, .num, .num] [e 0, e 1, e 2, e 3, e 4]) (hp : (kFMul f).pre [e 0, e 1, e 2, e 3, e 4]) : tFMul.says [kFMont f1] ⟨fun ys => ys = (kFMul f).sem [e 0, e 1, e 2, e 3, e 4], []⟩ e := by
  obtain ⟨⟨hm, hw⟩, hab⟩ := hp
  have hn := hm.2.1
  have hwl := wide_lt (n := e 0) (by omega)
  simp only [tFMul, kFMont, kFMul, Tree.says, List.getElem?_cons_zero, List.getElem?_cons_succ, List.map, ev_lit, ev_var, ev_limb, D.ev, List.getD_cons_zero, List.getD_cons_succ]
  refine ⟨⟨hm, hab⟩, fun a1 _ => ⟨⟨hm, .inr (by rw [hw]; exact hwl.2)⟩, fun a2 _ => ?_⟩⟩
  rw [a2, a1, hw]
  congr 1
  rw [← mont_mul (n := e 0) (a := e 3) (b := e 4) hm.odd]
  unfold montv
  have key : ∀ u v w : Int, u * v * half2 (e 0) ^ 384 % e 0 * w * half2 (e 0) ^ 384 % e 0 = u * v * half2 (e 0) ^ 384 * w * half2 (e 0) ^ 384 % e 0 := fun u v w => by
    obtain ⟨z, hz⟩ := md_of (x := u * v * half2 (e 0) ^ 384) (n := e 0)
    rw [hz]
    exact md (z * w * half2 (e 0) ^ 384) (by grind)
  show e 3 * e 4 * half2 (e 0) ^ 384 % e 0 * wideOf (e 0) * half2 (e 0) ^ 384 % e 0 = e 3 * wideOf (e 0) * half2 (e 0) ^ 384 % e 0 * e 4 * half2 (e 0) ^ 384 % e 0
  rw [key, key]
  congr 1
  grind
def tFAdd : Tree := (.req 0 [(.var 3), (.var 4)]
(.lett 5 .num (.app 0 0 [(.var 3), (.var 4)])
(.lett 6 .bit (.app 0 1 [(.var 3), (.var 4)])
(.req 1 [(.var 5), (.var 0)]
(.lett 7 (.int .i64) (.app 1 0 [(.var 5), (.var 0)])
(.lett 8 .bit (.cmp .geq (.var 7) (.lit 0))
(.split 8
 (.req 2 [(.var 5), (.var 0)]
 (.lett 9 .num (.app 2 0 [(.var 5), (.var 0)])
 (.lett 10 .bit (.app 2 1 [(.var 5), (.var 0)])
 (.ret [(.var 9)]))))
 (.ret [(.var 5)]))))))))
theorem law_fAdd (f1 f2 f3 f : FuncId) (e : Nat → Int) (hk : kkHas [.num, .int .u64, .num, .num, .num] [e 0, e 1, e 2, e 3, e 4]) (hp : (kFAdd f).pre [e 0, e 1, e 2, e 3, e 4]) : tFAdd.says [kWAdd f1, kWCmp f2, kWSub f3] ⟨fun ys => ys = (kFAdd f).sem [e 0, e 1, e 2, e 3, e 4], []⟩ e := by
  obtain ⟨hn, ha, hb⟩ := hp
  obtain ⟨_, _, _, h3, h4, _⟩ := hk
  simp only [KK.has] at h3 h4
  have hl : 2 * e 0 < N384 := by rw [p382] at hn; unfold N384; omega
  simp only [tFAdd, kWAdd, kWCmp, kWSub, kFAdd, Tree.says, List.getElem?_cons_zero, List.getElem?_cons_succ, List.map, ev_lit, ev_var, ev_limb, D.ev, List.getD_cons_zero, List.getD_cons_succ]
  refine ⟨trivial, fun a5 k5 a6 _ => ⟨trivial, fun a7 _ a8 _ => ?_⟩⟩
  have b8 := cmp_ge a7 a8
  rw [Int.emod_eq_of_lt (by omega) (by omega)] at a5
  refine ⟨fun hs => ⟨trivial, fun a9 _ _ _ => ?_⟩, fun hs => ?_⟩
  · rw [a9, Int.emod_eq_of_lt (by omega) (by omega), ← a5]
    congr 1
    exact (md_eq 1 (by omega) (by omega) (by omega)).symm
  · rw [← a5]
    congr 1
    exact (Int.emod_eq_of_lt (by omega) (by omega)).symm
def tFPow : Tree := (.req 0 [(.var 4)]
(.lett 5 (.int .i64) (.app 0 0 [(.var 4)])
(.lett 6 (.int .i64) (.bin .sub .i64 (.var 5) (.lit 1))
(.loop [(.var 6), (.lit 1)] [(.int .i64), .num] 7
(.lett 9 .bit (.cmp .geq (.var 7) (.lit 0))
(.split 9
 (.req 1 [(.var 0), (.var 1), (.var 2), (.var 8), (.var 8)]
 (.lett 10 .num (.app 1 0 [(.var 0), (.var 1), (.var 2), (.var 8), (.var 8)])
 (.req 2 [(.var 4), (.var 7)]
 (.lett 11 (.int .i64) (.app 2 0 [(.var 4), (.var 7)])
 (.lett 12 .bit (.cmp .eql (.var 11) (.lit 1))
 (.split 12
  (.req 1 [(.var 0), (.var 1), (.var 2), (.var 10), (.var 3)]
  (.lett 13 .num (.app 1 0 [(.var 0), (.var 1), (.var 2), (.var 10), (.var 3)])
  (.lett 14 (.int .i64) (.bin .sub .i64 (.var 7) (.lit 1))
  (.back 0 [(.var 14), (.var 13)]))))
  (.lett 13 (.int .i64) (.bin .sub .i64 (.var 7) (.lit 1))
  (.back 0 [(.var 13), (.var 10)]))))))))
 (.ret [(.var 8)])))))))
theorem law_fPow (f1 f2 f3 f : FuncId) (e : Nat → Int) (hk : kkHas [.num, .int .u64, .num, .num, .num] [e 0, e 1, e 2, e 3, e 4]) (hp : (kFPow f).pre [e 0, e 1, e 2, e 3, e 4]) : tFPow.says [kWLen f1, kFMul f2, kBit f3] ⟨fun ys => ys = (kFPow f).sem [e 0, e 1, e 2, e 3, e 4], []⟩ e := by
  obtain ⟨hm, ha⟩ := hp
  have hn := hm.1.2.1
  have h4 := hk.2.2.2.2.1
  simp only [KK.has] at h4
  simp only [tFPow, kWLen, kFMul, kBit, kFPow, Tree.says, List.getElem?_cons_zero, List.getElem?_cons_succ, List.map, ev_lit, ev_var, ev_limb, D.ev, List.getD_cons_zero, List.getD_cons_succ]
  refine ⟨trivial, fun a5 _ a6 _ => ?_⟩
  have b0 := blen_nn (e 4)
  have b1 := blen_le 384 (e 4) h4.1 (by rw [show (2 : Int) ^ 384 = N384 by decide +kernel]; exact h4.2)
  have c6 : e 6 = blen (e 4) - 1 := by rw [a6, a5]; simp only [binE, wr]; omega
  refine ⟨PowI (e 0) (e 3) (e 4), fun | [i, _] => (i + 1).toNat | _ => 0, ?_, fun e' he hkk hI => ?_⟩
  · rw [c6]
    refine ⟨by omega, by omega, ?_⟩
    rw [Int.sub_add_cancel]
    have h1 : e 4 / 2 ^ (blen (e 4)).toNat = 0 := by
      by_cases hc : e 4 < 2 ^ (blen (e 4)).toNat
      · exact Int.ediv_eq_zero_of_lt h4.1 hc
      · have := blen_gt (blen (e 4)).toNat (e 4) (by omega); omega
    rw [h1, Int.toNat_zero, Int.pow_zero]
    exact (Int.emod_eq_of_lt (by decide) (by omega)).symm
  · obtain ⟨i1, i2, i3⟩ : PowI (e 0) (e 3) (e 4) [e' 7, e' 8] := hI
    rw [he 0 (by decide), he 1 (by decide), he 2 (by decide), he 3 (by decide), he 4 (by decide)]
    intro a9 _
    have b9 := c_ge a9
    refine ⟨fun hs => ?_, fun hs => ?_⟩
    · obtain ⟨n, hi⟩ := Int.eq_ofNat_of_zero_le (show 0 ≤ e' 7 by omega)
      rw [hi, show ((n : Int) + 1).toNat = n + 1 by omega] at i3
      have hlt : e' 8 < e 0 := by rw [i3]; exact (md_lt (by omega)).2
      refine ⟨⟨hm, .inl hlt⟩, fun a10 _ => ⟨trivial, fun a11 _ a12 _ => ?_⟩⟩
      have b12 := c_eq a12
      rw [if_pos (by omega), hi, Int.toNat_natCast] at a11
      have hlt2 : e' 10 < e 0 := by rw [a10]; exact (md_lt (by omega)).2
      refine ⟨fun hs2 => ?_, fun hs2 => ?_⟩
      · refine ⟨⟨hm, .inl hlt2⟩, fun a13 _ a14 _ => ?_⟩
        have h14 : e' 14 = n - 1 := by rw [a14]; simp only [binE, wr]; omega
        show PowI (e 0) (e 3) (e 4) [e' 14, e' 13] ∧ (e' 14 + 1).toNat < (e' 7 + 1).toNat
        rw [h14, hi]
        refine ⟨⟨by omega, by omega, ?_⟩, by omega⟩
        rw [show ((n : Int) - 1 + 1).toNat = n by omega]
        exact pow_step1 h4.1 i3 a10 a13 (by omega)
      · intro a13 _
        have h13 : e' 13 = n - 1 := by rw [a13]; simp only [binE, wr]; omega
        show PowI (e 0) (e 3) (e 4) [e' 13, e' 10] ∧ (e' 13 + 1).toNat < (e' 7 + 1).toNat
        rw [h13, hi]
        refine ⟨⟨by omega, by omega, ?_⟩, by omega⟩
        rw [show ((n : Int) - 1 + 1).toNat = n by omega]
        exact pow_step0 h4.1 i3 a10 (by omega)
    · have h1 : e' 7 = -1 := by omega
      rw [i3, h1]
      show [e 3 ^ (e 4 / 1).toNat % e 0] = _
      rw [Int.ediv_one]
def tFInv : Tree := (.req 0 [(.var 0), (.lit 2)]
(.lett 4 .num (.app 0 0 [(.var 0), (.lit 2)])
(.lett 5 .bit (.app 0 1 [(.var 0), (.lit 2)])
(.req 1 [(.var 0), (.var 1), (.var 2), (.var 3), (.var 4)]
(.lett 6 .num (.app 1 0 [(.var 0), (.var 1), (.var 2), (.var 3), (.var 4)])
(.ret [(.var 6)]))))))
theorem law_fInv (f1 f2 f : FuncId) (e : Nat → Int) (hk : kkHas [.num, .int .u64, .num, .num] [e 0, e 1, e 2, e 3]) (hp : (kFInv f).pre [e 0, e 1, e 2, e 3]) : tFInv.says [kWSub f1, kFPow f2] ⟨fun ys => ys = (kFInv f).sem [e 0, e 1, e 2, e 3], []⟩ e := by
  obtain ⟨hm, ha⟩ := hp
  have hn := hm.1.2.1
  have h0 := hk.1
  simp only [KK.has] at h0
  simp only [tFInv, kWSub, kFPow, kFInv, Tree.says, List.getElem?_cons_zero, List.getElem?_cons_succ, List.map, ev_lit, ev_var, ev_limb, D.ev, List.getD_cons_zero, List.getD_cons_succ]
  refine ⟨trivial, fun a4 _ a5 _ => ⟨⟨hm, ha⟩, fun a6 _ => ?_⟩⟩
  have a4' : e 4 = e 0 - 2 := by rw [a4]; exact Int.emod_eq_of_lt (by omega) (by omega)
  rw [a6, a4']
def tField : Tree := (.lett 1 .bit (.cmp .eql (.var 0) (.lit 0))
(.split 1
 (.ret [(.lit 52435875175126190479447740508185965837690552500527637822603658699938581184513), (.lit 18446744069414584319), (.lit 49829253988540319354550742249276084460127446355315915089527227471280320770991)])
 (.lett 2 .bit (.cmp .eql (.var 0) (.lit 0))
 (.split 2
  (.bad 1121 "ref.go:130")
  (.lett 3 .bit (.cmp .eql (.var 0) (.lit 1))
  (.split 3
   (.bad 1121 "ref.go:130")
   (.lett 4 .bit (.cmp .eql (.var 0) (.lit 2))
   (.split 4
    (.bad 1121 "ref.go:130")
    (.bad 301 "")))))))))
theorem field_good : mGood rGreat 18446744069414584319 (wideOf rGreat) := by
  refine ⟨⟨by decide +kernel, by decide +kernel, by rw [p382]; decide +kernel⟩, rfl⟩
theorem law_field (f : FuncId) (e : Nat → Int) (hp : (kField f).pre [e 0]) : tField.says [] ⟨fun ys => ys = (kField f).sem [e 0], []⟩ e := by
  have h0 : e 0 = 0 := hp
  simp only [tField, kField, Tree.says, List.getElem?_cons_zero, List.getElem?_cons_succ, List.map, ev_lit, ev_var, ev_limb, D.ev, List.getD_cons_zero, List.getD_cons_succ]
  intro a1 _
  have b1 := c_eq a1
  refine ⟨fun n => ?_, fun n => by omega⟩
  rw [show wideOf rGreat = 49829253988540319354550742249276084460127446355315915089527227471280320770991 by decide +kernel]
  rfl
/-! ### little arithmetic -/
def tCAdd : Tree := (.lett 8 (.int .u64) (.bin .add .u64 (.var 6) (.var 7))
(.lett 9 (.int .u64) (.bin .rem .u64 (.var 8) (.var 0))
(.nz (.var 0)
(.ret [(.var 9)]))))
theorem law_cAdd (f : FuncId) (e : Nat → Int) (hk : kkHas [.int .u64, .int .u64, .int .u64, .int .u64, .int .u64, .bit, .int .u64, .int .u64] [e 0, e 1, e 2, e 3, e 4, e 5, e 6, e 7]) (hp : (kCAdd f).pre [e 0, e 1, e 2, e 3, e 4, e 5, e 6, e 7]) : tCAdd.says [] ⟨fun ys => ys = (kCAdd f).sem [e 0, e 1, e 2, e 3, e 4, e 5, e 6, e 7], []⟩ e := by
  obtain ⟨p0, p1, p2, p3⟩ := hp
  obtain ⟨_, _, _, _, _, _, h6, h7, _⟩ := hk
  have u6 := has_u64 h6
  have u7 := has_u64 h7
  simp only [tCAdd, kCAdd, Tree.says, List.getElem?_cons_zero, List.getElem?_cons_succ, List.map, ev_lit, ev_var, ev_limb, D.ev, List.getD_cons_zero, List.getD_cons_succ]
  intro a8 _ a9 _
  have c8 : e 8 = e 6 + e 7 := by rw [a8]; simp only [binE, wr]; omega
  refine ⟨by omega, ?_⟩
  rw [a9, c8]; simp only [binE]; rw [Int.tmod_eq_emod_of_nonneg (by omega)]
def tCNeg : Tree := (.lett 7 (.int .u64) (.bin .sub .u64 (.var 0) (.var 6))
(.lett 8 (.int .u64) (.bin .rem .u64 (.var 7) (.var 0))
(.nz (.var 0)
(.ret [(.var 8)]))))
theorem law_cNeg (f : FuncId) (e : Nat → Int) (hk : kkHas [.int .u64, .int .u64, .int .u64, .int .u64, .int .u64, .bit, .int .u64] [e 0, e 1, e 2, e 3, e 4, e 5, e 6]) (hp : (kCNeg f).pre [e 0, e 1, e 2, e 3, e 4, e 5, e 6]) : tCNeg.says [] ⟨fun ys => ys = (kCNeg f).sem [e 0, e 1, e 2, e 3, e 4, e 5, e 6], []⟩ e := by
  obtain ⟨p0, p1, p2⟩ := hp
  obtain ⟨_, _, _, _, _, _, h6, _⟩ := hk
  have u6 := has_u64 h6
  simp only [tCNeg, kCNeg, Tree.says, List.getElem?_cons_zero, List.getElem?_cons_succ, List.map, ev_lit, ev_var, ev_limb, D.ev, List.getD_cons_zero, List.getD_cons_succ]
  intro a7 _ a8 _
  have c7 : e 7 = e 0 - e 6 := by rw [a7]; simp only [binE, wr]; omega
  refine ⟨by omega, ?_⟩
  rw [a8, c7]; simp only [binE]; rw [Int.tmod_eq_emod_of_nonneg (by omega)]
  congr 1
  exact md 1 (by omega)
def tCSub : Tree := (.req 1 [(.var 0), (.var 1), (.var 2), (.var 3), (.var 4), (.var 5), (.var 7)]
(.lett 200 (.int .u64) (.app 1 0 [(.var 0), (.var 1), (.var 2), (.var 3), (.var 4), (.var 5), (.var 7)])
(.req 0 [(.var 0), (.var 1), (.var 2), (.var 3), (.var 4), (.var 5), (.var 6), (.var 200)]
(.lett 248 (.int .u64) (.app 0 0 [(.var 0), (.var 1), (.var 2), (.var 3), (.var 4), (.var 5), (.var 6), (.var 200)])
(.ret [(.var 248)])))))
theorem law_cSub (f1 f2 f : FuncId) (e : Nat → Int) (hp : (kCSub f).pre [e 0, e 1, e 2, e 3, e 4, e 5, e 6, e 7]) : tCSub.says [kCAdd f1, kCNeg f2] ⟨fun ys => ys = (kCSub f).sem [e 0, e 1, e 2, e 3, e 4, e 5, e 6, e 7], []⟩ e := by
  obtain ⟨p0, p1, p2, p3⟩ := hp
  simp only [tCSub, kCAdd, kCNeg, kCSub, Tree.says, List.getElem?_cons_zero, List.getElem?_cons_succ, List.map, ev_lit, ev_var, ev_limb, D.ev, List.getD_cons_zero, List.getD_cons_succ]
  refine ⟨⟨p0, p1, p3⟩, fun a1 _ => ⟨⟨p0, p1, p2, by rw [a1]; have := (md_lt (x := -e 7) p0).2; omega⟩, fun a2 _ => ?_⟩⟩
  rw [a2, a1, Int.add_emod_emod, Int.sub_eq_add_neg]
def tCMul : Tree := (.req 0 [(.var 6), (.var 7)]
(.lett 8 (.int .u64) (.app 0 0 [(.var 6), (.var 7)])
(.lett 9 (.int .u64) (.app 0 1 [(.var 6), (.var 7)])
(.req 1 [(.var 8), (.var 9), (.var 0)]
(.lett 10 (.int .u64) (.app 1 0 [(.var 8), (.var 9), (.var 0)])
(.ret [(.var 10)]))))))
theorem law_cMul (f1 f2 f : FuncId) (e : Nat → Int) (hp : (kCMul f).pre [e 0, e 1, e 2, e 3, e 4, e 5, e 6, e 7]) : tCMul.says [kMul64 f1, kRem64 f2] ⟨fun ys => ys = (kCMul f).sem [e 0, e 1, e 2, e 3, e 4, e 5, e 6, e 7], []⟩ e := by
  have p0 : 0 < e 0 := hp
  simp only [tCMul, kMul64, kRem64, kCMul, Tree.says, List.getElem?_cons_zero, List.getElem?_cons_succ, List.map, ev_lit, ev_var, ev_limb, D.ev, List.getD_cons_zero, List.getD_cons_succ]
  refine ⟨trivial, fun a1 _ a2 _ => ⟨p0, fun a3 _ => ?_⟩⟩
  rw [a3, a1, a2]
  congr 2
  generalize e 6 * e 7 = x
  omega
def tSmall : Tree := (.req 0 [(.var 2), (.lit 0), (.lit 0), (.lit 0), (.lit 0), (.lit 0), (.var 0), (.var 1)]
(.lett 291 (.int .u64) (.app 0 0 [(.var 2), (.lit 0), (.lit 0), (.lit 0), (.lit 0), (.lit 0), (.var 0), (.var 1)])
(.req 0 [(.var 2), (.lit 0), (.lit 0), (.lit 0), (.lit 0), (.lit 0), (.lit 0), (.lit 0)]
(.lett 579 (.int .u64) (.app 0 0 [(.var 2), (.lit 0), (.lit 0), (.lit 0), (.lit 0), (.lit 0), (.lit 0), (.lit 0)])
(.req 1 [(.var 2), (.lit 0), (.lit 0), (.lit 0), (.lit 0), (.lit 0), (.var 291), (.var 579)]
(.lett 627 (.int .u64) (.app 1 0 [(.var 2), (.lit 0), (.lit 0), (.lit 0), (.lit 0), (.lit 0), (.var 291), (.var 579)])
(.req 0 [(.var 2), (.lit 0), (.lit 0), (.lit 0), (.lit 0), (.lit 0), (.var 0), (.lit 0)]
(.lett 963 (.int .u64) (.app 0 0 [(.var 2), (.lit 0), (.lit 0), (.lit 0), (.lit 0), (.lit 0), (.var 0), (.lit 0)])
(.req 0 [(.var 2), (.lit 0), (.lit 0), (.lit 0), (.lit 0), (.lit 0), (.lit 0), (.var 1)]
(.lett 1251 (.int .u64) (.app 0 0 [(.var 2), (.lit 0), (.lit 0), (.lit 0), (.lit 0), (.lit 0), (.lit 0), (.var 1)])
(.req 2 [(.var 2), (.lit 0), (.lit 0), (.lit 0), (.lit 0), (.lit 0), (.var 963), (.var 1251)]
(.lett 1299 (.int .u64) (.app 2 0 [(.var 2), (.lit 0), (.lit 0), (.lit 0), (.lit 0), (.lit 0), (.var 963), (.var 1251)])
(.ret [(.var 627)])))))))))))))
theorem law_small (f1 f2 f3 f : FuncId) (e : Nat → Int) (hp : (kSmall f).pre [e 0, e 1, e 2]) : tSmall.says [kCMul f1, kCSub f2, kCAdd f3] ⟨fun ys => ys = (kSmall f).sem [e 0, e 1, e 2], []⟩ e := by
  obtain ⟨p0, p1⟩ := hp
  simp only [tSmall, kCMul, kCSub, kCAdd, kSmall, Tree.says, List.getElem?_cons_zero, List.getElem?_cons_succ, List.map, ev_lit, ev_var, ev_limb, D.ev, List.getD_cons_zero, List.getD_cons_succ]
  have hm : ∀ x : Int, x % e 2 ≤ e 2 := fun x => by have := (md_lt (x := x) p0).2; omega
  refine ⟨p0, fun a1 _ => ⟨p0, fun a2 _ => ⟨⟨p0, p1, by rw [a1]; exact hm _, by rw [a2]; exact hm _⟩, fun a3 _ => ⟨p0, fun a4 _ => ⟨p0, fun a5 _ => ⟨⟨p0, p1, by rw [a4]; exact hm _, by rw [a5]; exact hm _⟩, fun a6 _ => ?_⟩⟩⟩⟩⟩⟩
  rw [a3, a1, a2]
  simp
/-! ### suite's scalars, by the reference -/
def tRScalar : Tree := (.req 0 [(.var 0)]
(.lett 98 .num (.app 0 0 [(.var 0)])
(.req 1 [(.var 1), (.var 98)]
(.lett 146 (.int .i64) (.app 1 0 [(.var 1), (.var 98)])
(.lett 194 .bit (.cmp .lss (.var 146) (.lit 0))
(.ret [(.var 194)]))))))
theorem law_rScalar (f1 f2 f : FuncId) (e : Nat → Int) (hp : (kRScalar f).pre [e 0, e 1]) : tRScalar.says [kOrder f1, kWCmp f2] ⟨fun ys => ys = (kRScalar f).sem [e 0, e 1], []⟩ e := by
  simp only [tRScalar, kOrder, kWCmp, kRScalar, Tree.says, List.getElem?_cons_zero, List.getElem?_cons_succ, List.map, ev_lit, ev_var, ev_limb, D.ev, List.getD_cons_zero, List.getD_cons_succ]
  refine ⟨hp, fun a1 _ => ⟨trivial, fun a2 _ a3 _ => ?_⟩⟩
  have := cmp_lt a2 a3
  rw [a1] at this
  unfold bi
  split <;> congr 1 <;> omega
theorem rOf_small {s : Int} (h : isS s) (h0 : s ≠ 0) : rOf s < 9223372036854775808 := by
  unfold isS at h
  unfold rOf
  rw [if_neg h0]
  split <;> decide
theorem lim0_small {x : Int} (h0 : 0 ≤ x) (h : x < 18446744073709551616) : lim x 0 = x := by rw [lim_0]; exact Int.emod_eq_of_lt h0 h
theorem join1 (x : Int) : joinE [x, 0, 0, 0, 0, 0] = x := by simp [joinE]
def tRAdd : Tree := (.lett 3 .bit (.cmp .eql (.var 0) (.lit 0))
(.split 3
 (.req 2 [(.var 0)]
 (.lett 52 .num (.app 2 0 [(.var 0)])
 (.lett 53 (.int .u64) (.app 2 1 [(.var 0)])
 (.lett 54 .num (.app 2 2 [(.var 0)])
 (.req 1 [(.var 52), (.var 53), (.var 54), (.var 1), (.var 2)]
 (.lett 196 .num (.app 1 0 [(.var 52), (.var 53), (.var 54), (.var 1), (.var 2)])
 (.ret [(.var 196)])))))))
 (.lett 196 (.int .u64) (.bin .add .u64 (.limb 1 0) (.limb 2 0))
 (.req 0 [(.var 0)]
 (.lett 292 .num (.app 0 0 [(.var 0)])
 (.lett 388 (.int .u64) (.bin .rem .u64 (.var 196) (.limb 292 0))
 (.nz (.limb 292 0)
 (.lett 532 .num (.join [(.var 388), (.lit 0), (.lit 0), (.lit 0), (.lit 0), (.lit 0)])
 (.ret [(.var 532)])))))))))
theorem law_rAdd (f1 f2 f3 f : FuncId) (e : Nat → Int) (hk : kkHas [.int .i64, .num, .num] [e 0, e 1, e 2]) (hp : (kR2 f (· + ·)).pre [e 0, e 1, e 2]) : tRAdd.says [kOrder f1, kFAdd f2, kField f3] ⟨fun ys => ys = (kR2 f (· + ·)).sem [e 0, e 1, e 2], []⟩ e := by
  obtain ⟨hs, ha, hb⟩ := hp
  obtain ⟨_, h1, h2, _⟩ := hk
  simp only [KK.has] at h1 h2
  simp only [tRAdd, kOrder, kFAdd, kField, kR2, Tree.says, List.getElem?_cons_zero, List.getElem?_cons_succ, List.map, ev_lit, ev_var, ev_limb, D.ev, List.getD_cons_zero, List.getD_cons_succ]
  intro a3 _
  have b3 := c_eq a3
  refine ⟨fun n => ?_, fun n => ?_⟩
  · have h0 : e 0 = 0 := by omega
    rw [h0] at ha hb ⊢
    refine ⟨rfl, fun a4 _ a5 _ a6 _ => ⟨by rw [a4]; exact ⟨field_good.1.2.2, ha, hb⟩, fun a7 _ => ?_⟩⟩
    rw [a7, a4]; rfl
  · have hr := rOf_small hs (by omega)
    have hr3 := (rOf_ok hs).2.1
    rw [lim0_small h1.1 (by omega), lim0_small h2.1 (by omega)]
    intro a4 _
    refine ⟨hs, fun a5 _ a6 _ => ?_⟩
    rw [a5, lim0_small (by omega) (by omega)] at a6
    rw [a5, lim0_small (by omega) (by omega)]
    refine ⟨by omega, fun a7 _ => ?_⟩
    have c4 : e 196 = e 1 + e 2 := by rw [a4]; simp only [binE, wr]; omega
    rw [a7, join1, a6, c4]; simp only [binE]; rw [Int.tmod_eq_emod_of_nonneg (by omega)]
def tRNeg : Tree := (.lett 2 .bit (.eqs [((.limb 1 0), (.lit 0)), ((.limb 1 1), (.lit 0)), ((.limb 1 2), (.lit 0)), ((.limb 1 3), (.lit 0)), ((.limb 1 4), (.lit 0)), ((.limb 1 5), (.lit 0))])
(.split 2
 (.ret [(.var 1)])
 (.req 0 [(.var 0)]
 (.lett 51 .num (.app 0 0 [(.var 0)])
 (.req 1 [(.var 51), (.var 1)]
 (.lett 147 .num (.app 1 0 [(.var 51), (.var 1)])
 (.lett 148 .bit (.app 1 1 [(.var 51), (.var 1)])
 (.ret [(.var 147)]))))))))
theorem law_rNeg (f1 f2 f : FuncId) (e : Nat → Int) (hk : kkHas [.int .i64, .num] [e 0, e 1]) (hp : (kRNeg f).pre [e 0, e 1]) : tRNeg.says [kOrder f1, kWSub f2] ⟨fun ys => ys = (kRNeg f).sem [e 0, e 1], []⟩ e := by
  obtain ⟨hs, ha⟩ := hp
  obtain ⟨_, h1, _⟩ := hk
  have hr3 := (rOf_ok hs).2
  rw [p382] at hr3
  simp only [tRNeg, kOrder, kWSub, kRNeg, Tree.says, List.getElem?_cons_zero, List.getElem?_cons_succ, List.map, ev_lit, ev_var, ev_limb, D.ev, List.getD_cons_zero, List.getD_cons_succ]
  simp only [KK.has] at h1
  intro a2 _
  have b2 := c_num0 a2 h1
  refine ⟨fun n => ?_, fun n => ?_⟩
  · rw [show e 1 = 0 by omega]; simp
  · refine ⟨hs, fun a3 _ => ⟨trivial, fun a4 _ _ _ => ?_⟩⟩
    rw [a4, a3, Int.emod_eq_of_lt (by omega) (by unfold N384; omega)]
    congr 1
    exact (md_eq (-1) (by omega) (by omega) (by omega)).symm
def tRSub : Tree := (.req 1 [(.var 0), (.var 2)]
(.lett 195 .num (.app 1 0 [(.var 0), (.var 2)])
(.req 0 [(.var 0), (.var 1), (.var 195)]
(.lett 243 .num (.app 0 0 [(.var 0), (.var 1), (.var 195)])
(.ret [(.var 243)])))))
theorem law_rSub (f1 f2 f : FuncId) (e : Nat → Int) (hp : (kR2 f (· - ·)).pre [e 0, e 1, e 2]) : tRSub.says [kR2 f1 (· + ·), kRNeg f2] ⟨fun ys => ys = (kR2 f (· - ·)).sem [e 0, e 1, e 2], []⟩ e := by
  obtain ⟨hs, ha, hb⟩ := hp
  have hr3 := (rOf_ok hs).2.1
  simp only [tRSub, kR2, kRNeg, Tree.says, List.getElem?_cons_zero, List.getElem?_cons_succ, List.map, ev_lit, ev_var, ev_limb, D.ev, List.getD_cons_zero, List.getD_cons_succ]
  refine ⟨⟨hs, hb⟩, fun a1 _ => ⟨⟨hs, ha, by rw [a1]; exact (md_lt (by omega)).2⟩, fun a2 _ => ?_⟩⟩
  rw [a2, a1, Int.add_emod_emod, Int.sub_eq_add_neg]
def tRMul : Tree := (.lett 3 .bit (.cmp .eql (.var 0) (.lit 0))
(.split 3
 (.req 3 [(.var 0)]
 (.lett 52 .num (.app 3 0 [(.var 0)])
 (.lett 53 (.int .u64) (.app 3 1 [(.var 0)])
 (.lett 54 .num (.app 3 2 [(.var 0)])
 (.req 1 [(.var 52), (.var 53), (.var 54), (.var 1), (.var 2)]
 (.lett 196 .num (.app 1 0 [(.var 52), (.var 53), (.var 54), (.var 1), (.var 2)])
 (.ret [(.var 196)])))))))
 (.req 0 [(.var 0)]
 (.lett 244 .num (.app 0 0 [(.var 0)])
 (.req 2 [(.limb 1 0), (.limb 2 0), (.limb 244 0)]
 (.lett 340 (.int .u64) (.app 2 0 [(.limb 1 0), (.limb 2 0), (.limb 244 0)])
 (.lett 484 .num (.join [(.var 340), (.lit 0), (.lit 0), (.lit 0), (.lit 0), (.lit 0)])
 (.ret [(.var 484)]))))))))
theorem law_rMul (f1 f2 f3 f4 f : FuncId) (e : Nat → Int) (hk : kkHas [.int .i64, .num, .num] [e 0, e 1, e 2]) (hp : (kR2 f (· * ·)).pre [e 0, e 1, e 2]) : tRMul.says [kOrder f1, kFMul f2, kSmall f3, kField f4] ⟨fun ys => ys = (kR2 f (· * ·)).sem [e 0, e 1, e 2], []⟩ e := by
  obtain ⟨hs, ha, hb⟩ := hp
  obtain ⟨_, h1, h2, _⟩ := hk
  simp only [KK.has] at h1 h2
  simp only [tRMul, kOrder, kFMul, kSmall, kField, kR2, Tree.says, List.getElem?_cons_zero, List.getElem?_cons_succ, List.map, ev_lit, ev_var, ev_limb, D.ev, List.getD_cons_zero, List.getD_cons_succ]
  intro a3 _
  have b3 := c_eq a3
  refine ⟨fun n => ?_, fun n => ?_⟩
  · have h0 : e 0 = 0 := by omega
    rw [h0] at ha hb ⊢
    refine ⟨rfl, fun a4 _ a5 _ a6 _ => ⟨by rw [a4, a5, a6]; exact ⟨field_good, .inl ha⟩, fun a7 _ => ?_⟩⟩
    rw [a7, a4]; rfl
  · have hr := rOf_small hs (by omega)
    have hr3 := (rOf_ok hs).2.1
    rw [lim0_small h1.1 (by omega), lim0_small h2.1 (by omega)]
    refine ⟨hs, fun a5 _ => ?_⟩
    rw [a5, lim0_small (by omega) (by omega)]
    refine ⟨⟨by omega, hr⟩, fun a6 _ a7 _ => ?_⟩
    rw [a7, join1, a6]
def tRInv : Tree := (.lett 2 .bit (.cmp .eql (.var 0) (.lit 0))
(.split 2
 (.req 2 [(.var 0)]
 (.lett 51 .num (.app 2 0 [(.var 0)])
 (.lett 52 (.int .u64) (.app 2 1 [(.var 0)])
 (.lett 53 .num (.app 2 2 [(.var 0)])
 (.req 0 [(.var 51), (.var 52), (.var 53), (.var 1)]
 (.lett 147 .num (.app 0 0 [(.var 51), (.var 52), (.var 53), (.var 1)])
 (.ret [(.var 147)])))))))
 (.req 3 [(.var 0)]
 (.lett 3 .num (.app 3 0 [(.var 0)])
 (.loop [(.lit 63), (.lit 1)] [(.int .i64), (.int .u64)] 4
 (.lett 6 .bit (.cmp .geq (.var 4) (.lit 0))
 (.split 6
  (.req 1 [(.var 5), (.var 5), (.limb 3 0)]
  (.lett 7 (.int .u64) (.app 1 0 [(.var 5), (.var 5), (.limb 3 0)])
  (.lett 8 (.int .u64) (.bin .sub .u64 (.limb 3 0) (.lit 2))
  (.lett 9 .bit (.cmp .leq (.lit 0) (.var 4))
  (.lett 10 (.int .u64) (.bin .shr .u64 (.var 8) (.var 4))
  (.nz (.var 9)
  (.lett 11 (.int .u64) (.bin .and .u64 (.var 10) (.lit 1))
  (.lett 12 .bit (.cmp .eql (.var 11) (.lit 1))
  (.split 12
   (.req 1 [(.var 7), (.limb 1 0), (.limb 3 0)]
   (.lett 13 (.int .u64) (.app 1 0 [(.var 7), (.limb 1 0), (.limb 3 0)])
   (.lett 14 (.int .i64) (.bin .sub .i64 (.var 4) (.lit 1))
   (.back 0 [(.var 14), (.var 13)]))))
   (.lett 13 (.int .i64) (.bin .sub .i64 (.var 4) (.lit 1))
   (.back 0 [(.var 13), (.var 7)])))))))))))
  (.lett 7 .num (.join [(.var 5), (.lit 0), (.lit 0), (.lit 0), (.lit 0), (.lit 0)])
  (.ret [(.var 7)])))))))))
theorem law_rInv (f1 f2 f3 f4 f : FuncId) (e : Nat → Int) (hk : kkHas [.int .i64, .num] [e 0, e 1]) (hp : (kRInv f).pre [e 0, e 1]) : tRInv.says [kFInv f1, kSmall f2, kField f3, kOrder f4] ⟨fun ys => ys = (kRInv f).sem [e 0, e 1], []⟩ e := by
  obtain ⟨hs, ha⟩ := hp
  obtain ⟨_, h1, _⟩ := hk
  simp only [KK.has] at h1
  simp only [tRInv, kFInv, kSmall, kField, kOrder, kRInv, Tree.says, List.getElem?_cons_zero, List.getElem?_cons_succ, List.map, ev_lit, ev_var, ev_limb, D.ev, List.getD_cons_zero, List.getD_cons_succ]
  intro a3 _
  have b3 := c_eq a3
  refine ⟨fun n => ?_, fun n => ?_⟩
  · have h0 : e 0 = 0 := by omega
    rw [h0] at ha ⊢
    refine ⟨rfl, fun a4 _ a5 _ a6 _ => ⟨by rw [a4, a5, a6]; exact ⟨field_good, ha⟩, fun a7 _ => ?_⟩⟩
    rw [a7, a4]; rfl
  · have hr := rOf_small hs (by omega)
    have hr3 := (rOf_ok hs).2.1
    refine ⟨hs, fun a5 _ => ?_⟩
    have hl3 : lim (e 3) 0 = rOf (e 0) := by rw [a5]; exact lim0_small (by omega) (by omega)
    have hl1 : lim (e 1) 0 = e 1 := lim0_small h1.1 (by omega)
    generalize hR : rOf (e 0) = R at *
    refine ⟨fun | [i, o] => -1 ≤ i ∧ i ≤ 63 ∧ o = e 1 ^ ((R - 2) / 2 ^ (i + 1).toNat).toNat % R | _ => False, fun | [i, _] => (i + 1).toNat | _ => 0, ?_, fun e' he hkk hI => ?_⟩
    · refine ⟨by decide, by decide, ?_⟩
      rw [show ((63 : Int) + 1).toNat = 64 from rfl, Int.ediv_eq_zero_of_lt (by omega) (by rw [p64']; omega)]
      rw [Int.toNat_zero, Int.pow_zero]
      exact (Int.emod_eq_of_lt (by decide) (by omega)).symm
    · obtain ⟨i1, i2, i3⟩ : -1 ≤ e' 4 ∧ e' 4 ≤ 63 ∧ e' 5 = e 1 ^ ((R - 2) / 2 ^ (e' 4 + 1).toNat).toNat % R := hI
      rw [he 3 (by decide), he 1 (by decide), hl3, hl1]
      intro a6 _
      have b6 := c_ge a6
      refine ⟨fun hs1 => ⟨⟨by omega, hr⟩, fun a7 _ a8 _ a9 _ a10 _ => ?_⟩, fun hs1 => ?_⟩
      · obtain ⟨n, hi⟩ := Int.eq_ofNat_of_zero_le (show 0 ≤ e' 4 by omega)
        rw [hi, show ((n : Int) + 1).toNat = n + 1 by omega] at i3
        have c8 : e' 8 = R - 2 := by rw [a8]; simp only [binE, wr]; omega
        have c10 : e' 10 = (R - 2) / 2 ^ n := by
          rw [a10, c8, hi]; simp only [binE]
          rw [show min ((n : Int).toNat) IntKind.u64.bits = n by show min n 64 = n; omega, Int.natCast_pow]
          exact Int.fdiv_eq_ediv_of_nonneg _ (Int.pow_nonneg (by decide))
        have hp2 : (0 : Int) < 2 ^ n := Int.pow_pos (by decide)
        have hU : U (e' 10) := by
          rw [c10]; exact ⟨Int.ediv_nonneg (by omega) (by omega), Int.lt_of_le_of_lt (Int.ediv_le_self _ (by omega)) (by omega)⟩
        refine ⟨bit_nz a9 (by omega), fun a11 _ a12 _ => ?_⟩
        have c11 := and_1 a11 hU
        have b12 := c_eq a12
        rw [c10] at c11
        refine ⟨fun hs2 => ⟨⟨by omega, hr⟩, fun a13 _ a14 _ => ?_⟩, fun hs2 => ?_⟩
        · have h14 : e' 14 = n - 1 := by rw [a14]; simp only [binE, wr]; omega
          show (-1 ≤ e' 14 ∧ e' 14 ≤ 63 ∧ e' 13 = e 1 ^ ((R - 2) / 2 ^ (e' 14 + 1).toNat).toNat % R) ∧ (e' 14 + 1).toNat < (e' 4 + 1).toNat
          rw [h14, hi]
          refine ⟨⟨by omega, by omega, ?_⟩, by omega⟩
          rw [show ((n : Int) - 1 + 1).toNat = n by omega]
          exact pow_step1 (by omega) i3 a7 a13 (by rw [← c11]; omega)
        · intro a13 _
          have h13 : e' 13 = n - 1 := by rw [a13]; simp only [binE, wr]; omega
          show (-1 ≤ e' 13 ∧ e' 13 ≤ 63 ∧ e' 7 = e 1 ^ ((R - 2) / 2 ^ (e' 13 + 1).toNat).toNat % R) ∧ (e' 13 + 1).toNat < (e' 4 + 1).toNat
          rw [h13, hi]
          refine ⟨⟨by omega, by omega, ?_⟩, by omega⟩
          rw [show ((n : Int) - 1 + 1).toNat = n by omega]
          exact pow_step0 (by omega) i3 a7 (by rw [← c11]; have := and_1 a11 hU; omega)
      · have h4' : e' 4 = -1 := by omega
        intro a7 _
        rw [a7, join1, i3, h4']
        show [e 1 ^ ((R - 2) / 1).toNat % R] = _
        rw [Int.ediv_one]
end Go.Sx

/- Contracts: the little curves. -/
namespace Go.Sx
open Go Go.RowKit
abbrev oPt : Oh := .agg [.int .u64, .int .u64, .bool]
abbrev iPt : Sh := .agg [.int .u64, .int .u64, .bool]
def pOk (p : Int) : Prop := 3 ≤ p ∧ p < 4611686018427387904
def kLAdd (f : FuncId) : K := { fn := f, ext := false, ins := [iC, iU, iU], outs := [oU], pre := fun | [p, _, _, _, _, _, a, b] => pOk p ∧ a < p ∧ b < p | _ => False, sem := fun | [p, _, _, _, _, _, a, b] => [(a + b) % p] | _ => [] }
def kLSub (f : FuncId) : K := { fn := f, ext := false, ins := [iC, iU, iU], outs := [oU], pre := fun | [p, _, _, _, _, _, a, b] => pOk p ∧ a < p ∧ b < p | _ => False, sem := fun | [p, _, _, _, _, _, a, b] => [(a - b) % p] | _ => [] }
def kLMul (f : FuncId) : K := { fn := f, ext := false, ins := [iC, iU, iU], outs := [oU], pre := fun | [p, _, _, _, _, _, _, _] => pOk p | _ => False, sem := fun | [p, _, _, _, _, _, a, b] => [a * b % p] | _ => [] }
/-- a power's rest, reckoned on natural numbers -/
def pwM (p a n : Int) : Int := ((a.toNat ^ n.toNat % p.toNat : Nat) : Int)
def kLPow (f : FuncId) : K := { fn := f, ext := false, ins := [iC, iU, iU], outs := [oU], pre := fun | [p, _, _, _, _, _, _, _] => pOk p | _ => False, sem := fun | [p, _, _, _, _, _, a, n] => [pwM p a n] | _ => [] }
def invP (p a : Int) : Int := pwM p a (p - 2)
def kLInv (f : FuncId) : K := { fn := f, ext := false, ins := [iC, iU], outs := [oU], pre := fun | [p, _, _, _, _, _, _] => pOk p | _ => False, sem := fun | [p, _, _, _, _, _, a] => [invP p a] | _ => [] }
def rightP (p x : Int) : Int := (x * x % p * x % p + x) % p
def kLRight (f : FuncId) : K := { fn := f, ext := false, ins := [iC, iU], outs := [oU], pre := fun | [p, _, _, _, _, _, x] => pOk p ∧ x < p | _ => False, sem := fun | [p, _, _, _, _, _, x] => [rightP p x] | _ => [] }
def onP (p x y z : Int) : Prop := if z = 0 then x < p ∧ y < p ∧ y * y % p = rightP p x else x = 0 ∧ y = 0
instance (p x y z : Int) : Decidable (onP p x y z) := by unfold onP; exact inferInstance
def kLOn (f : FuncId) : K := { fn := f, ext := false, ins := [iC, iPt], outs := [oB], pre := fun | [p, _, _, _, _, _, _, _, _] => pOk p | _ => False, sem := fun | [p, _, _, _, _, _, x, y, z] => [bi (onP p x y z)] | _ => [] }
def slopeP (p x y x' y' : Int) : Int × Int :=
  if x ≠ x' then ((y' - y) % p * invP p ((x' - x) % p) % p, 1)
  else if y ≠ y' ∨ y = 0 then (0, 0)
  else ((((x * x % p + x * x % p) % p + x * x % p) % p + 1) % p * invP p ((y + y) % p) % p, 1)
def kLSlope (f : FuncId) : K := { fn := f, ext := false, ins := [iC, iPt, iPt], outs := [oU, oB], pre := fun | [p, _, _, _, _, _, x, y, _, x', y', _] => pOk p ∧ x < p ∧ y < p ∧ x' < p ∧ y' < p | _ => False, sem := fun | [p, _, _, _, _, _, x, y, _, x', y', _] => [(slopeP p x y x' y').1, (slopeP p x y x' y').2] | _ => [] }
structure Pt where
  x : Int
  y : Int
  z : Int
  deriving DecidableEq
def sumP (p : Int) (a b : Pt) : Pt :=
  if a.z ≠ 0 then b else if b.z ≠ 0 then a else
  let s := slopeP p a.x a.y b.x b.y
  if s.2 = 0 then ⟨0, 0, 1⟩ else
  let x := ((s.1 * s.1 % p - a.x) % p - b.x) % p
  ⟨x, (s.1 * ((a.x - x) % p) % p - a.y) % p, 0⟩
def Pt.l (a : Pt) : List Int := [a.x, a.y, a.z]
def Pt.lt (a : Pt) (p : Int) : Prop := (0 ≤ a.x ∧ a.x < p) ∧ (0 ≤ a.y ∧ a.y < p)
def kLSum (f : FuncId) : K := { fn := f, ext := false, ins := [iC, iPt, iPt], outs := [oPt], pre := fun | [p, _, _, _, _, _, x, y, _, x', y', _] => pOk p ∧ x < p ∧ y < p ∧ x' < p ∧ y' < p | _ => False, sem := fun | [p, _, _, _, _, _, x, y, z, x', y', z'] => (sumP p ⟨x, y, z⟩ ⟨x', y', z'⟩).l | _ => [] }
/-- a multiple, the highest bit first -/
def mulP (p : Int) (a : Pt) : Nat → Nat → Pt
  | 0, _ => ⟨0, 0, 1⟩
  | k + 1, n => if n = 0 then ⟨0, 0, 1⟩ else
    let h := mulP p a k (n / 2)
    let d := sumP p h h
    if n % 2 = 1 then sumP p d a else d
def kLTimes (f : FuncId) : K := { fn := f, ext := false, ins := [iC, iPt, iU], outs := [oPt], pre := fun | [p, _, _, _, _, _, x, y, _, _] => pOk p ∧ x < p ∧ y < p | _ => False, sem := fun | [p, _, _, _, _, _, x, y, z, n] => (mulP p ⟨x, y, z⟩ 64 n.toNat).l | _ => [] }
def inP (p r x y z : Int) : Prop := onP p x y z ∧ (mulP p ⟨x, y, z⟩ 64 r.toNat).z ≠ 0
instance (p r x y z : Int) : Decidable (inP p r x y z) := by unfold inP; exact inferInstance
def kLIn (f : FuncId) : K := { fn := f, ext := false, ins := [iC, iPt], outs := [oB], pre := fun | [p, _, _, _, _, _, _, _, _] => pOk p | _ => False, sem := fun | [p, r, _, _, _, _, x, y, z] => [bi (inP p r x y z)] | _ => [] }
/-- a quotient and a rest -/
def kDivide (f : FuncId) : K := { fn := f, ext := false, ins := [iN, iN], outs := [oN, oN, oI], pre := fun _ => True, sem := fun | [a, b] => if b = 0 then [0, 0, 2] else [a / b, a % b, 0] | _ => [] }
end Go.Sx

/- Laws: the little curves. -/
namespace Go.Sx
open Go Go.RowKit
set_option maxRecDepth 100000
set_option linter.unusedSimpArgs false
set_option linter.unusedVariables false
theorem pwM_eq {p a n : Int} (hp : 0 < p) (ha : 0 ≤ a) : pwM p a n = a ^ n.toNat % p := by
  unfold pwM
  rw [Int.natCast_emod, Int.natCast_pow, Int.toNat_of_nonneg ha, Int.toNat_of_nonneg (by omega)]
theorem pwM_lt {p a n : Int} (hp : 0 < p) (ha : 0 ≤ a) : 0 ≤ pwM p a n ∧ pwM p a n < p := by rw [pwM_eq hp ha]; exact md_lt hp
def tLAdd : Tree := (.lett 8 (.int .u64) (.bin .add .u64 (.var 6) (.var 7))
(.lett 9 (.int .u64) (.bin .rem .u64 (.var 8) (.var 0))
(.nz (.var 0)
(.ret [(.var 9)]))))
theorem law_lAdd (f : FuncId) (e : Nat → Int) (hk : kkHas [.int .u64, .int .u64, .int .u64, .int .u64, .int .u64, .bit, .int .u64, .int .u64] [e 0, e 1, e 2, e 3, e 4, e 5, e 6, e 7]) (hp : (kLAdd f).pre [e 0, e 1, e 2, e 3, e 4, e 5, e 6, e 7]) : tLAdd.says [] ⟨fun ys => ys = (kLAdd f).sem [e 0, e 1, e 2, e 3, e 4, e 5, e 6, e 7], []⟩ e := by
  obtain ⟨⟨p0, p1⟩, p2, p3⟩ := hp
  obtain ⟨_, _, _, _, _, _, h6, h7, _⟩ := hk
  have u6 := has_u64 h6
  have u7 := has_u64 h7
  simp only [tLAdd, kLAdd, Tree.says, List.getElem?_cons_zero, List.getElem?_cons_succ, List.map, ev_lit, ev_var, ev_limb, D.ev, List.getD_cons_zero, List.getD_cons_succ]
  intro a8 _ a9 _
  have c8 : e 8 = e 6 + e 7 := by rw [a8]; simp only [binE, wr]; omega
  refine ⟨by omega, ?_⟩
  rw [a9, c8]; simp only [binE]; rw [Int.tmod_eq_emod_of_nonneg (by omega)]
def tLSub : Tree := (.lett 8 (.int .u64) (.bin .add .u64 (.var 6) (.var 0))
(.lett 9 (.int .u64) (.bin .sub .u64 (.var 8) (.var 7))
(.lett 10 (.int .u64) (.bin .rem .u64 (.var 9) (.var 0))
(.nz (.var 0)
(.ret [(.var 10)])))))
theorem law_lSub (f : FuncId) (e : Nat → Int) (hk : kkHas [.int .u64, .int .u64, .int .u64, .int .u64, .int .u64, .bit, .int .u64, .int .u64] [e 0, e 1, e 2, e 3, e 4, e 5, e 6, e 7]) (hp : (kLSub f).pre [e 0, e 1, e 2, e 3, e 4, e 5, e 6, e 7]) : tLSub.says [] ⟨fun ys => ys = (kLSub f).sem [e 0, e 1, e 2, e 3, e 4, e 5, e 6, e 7], []⟩ e := by
  obtain ⟨⟨p0, p1⟩, p2, p3⟩ := hp
  obtain ⟨_, _, _, _, _, _, h6, h7, _⟩ := hk
  have u6 := has_u64 h6
  have u7 := has_u64 h7
  simp only [tLSub, kLSub, Tree.says, List.getElem?_cons_zero, List.getElem?_cons_succ, List.map, ev_lit, ev_var, ev_limb, D.ev, List.getD_cons_zero, List.getD_cons_succ]
  intro a8 _ a9 _ a10 _
  have c8 : e 8 = e 6 + e 0 := by rw [a8]; simp only [binE, wr]; omega
  have c9 : e 9 = e 6 + e 0 - e 7 := by rw [a9, c8]; simp only [binE, wr]; omega
  refine ⟨by omega, ?_⟩
  rw [a10, c9]; simp only [binE]; rw [Int.tmod_eq_emod_of_nonneg (by omega)]
  congr 1
  exact md 1 (by omega)
def tLMul : Tree := (.req 0 [(.var 6), (.var 7)]
(.lett 8 (.int .u64) (.app 0 0 [(.var 6), (.var 7)])
(.lett 9 (.int .u64) (.app 0 1 [(.var 6), (.var 7)])
(.req 1 [(.var 8), (.var 9), (.var 0)]
(.lett 10 (.int .u64) (.app 1 0 [(.var 8), (.var 9), (.var 0)])
(.ret [(.var 10)]))))))
theorem law_lMul (f1 f2 f : FuncId) (e : Nat → Int) (hp : (kLMul f).pre [e 0, e 1, e 2, e 3, e 4, e 5, e 6, e 7]) : tLMul.says [kMul64 f1, kRem64 f2] ⟨fun ys => ys = (kLMul f).sem [e 0, e 1, e 2, e 3, e 4, e 5, e 6, e 7], []⟩ e := by
  have p0 : 0 < e 0 := by have := hp.1; omega
  simp only [tLMul, kMul64, kRem64, kLMul, Tree.says, List.getElem?_cons_zero, List.getElem?_cons_succ, List.map, ev_lit, ev_var, ev_limb, D.ev, List.getD_cons_zero, List.getD_cons_succ]
  refine ⟨trivial, fun a1 _ a2 _ => ⟨p0, fun a3 _ => ?_⟩⟩
  rw [a3, a1, a2]
  congr 2
  generalize e 6 * e 7 = x
  omega
theorem shr_n {v x : Int} {n : Nat} (h : v = binE .shr .u64 x n) (hn : n ≤ 63) : v = x / 2 ^ n := by
  rw [h]
  simp only [binE, Int.toNat_natCast]
  rw [show min n IntKind.u64.bits = n by simp [IntKind.bits]; omega]
  rw [Int.fdiv_eq_ediv_of_nonneg _ (by exact_mod_cast Nat.zero_le _)]
  simp
def tLPow : Tree := (.req 0 [(.var 7)]
(.lett 8 (.int .i64) (.app 0 0 [(.var 7)])
(.lett 9 (.int .i64) (.bin .sub .i64 (.var 8) (.lit 1))
(.loop [(.var 9), (.lit 1)] [(.int .i64), (.int .u64)] 10
(.lett 12 .bit (.cmp .geq (.var 10) (.lit 0))
(.split 12
 (.req 1 [(.var 0), (.var 1), (.var 2), (.var 3), (.var 4), (.var 5), (.var 11), (.var 11)]
 (.lett 13 (.int .u64) (.app 1 0 [(.var 0), (.var 1), (.var 2), (.var 3), (.var 4), (.var 5), (.var 11), (.var 11)])
 (.lett 14 .bit (.cmp .leq (.lit 0) (.var 10))
 (.lett 15 (.int .u64) (.bin .shr .u64 (.var 7) (.var 10))
 (.nz (.var 14)
 (.lett 16 (.int .u64) (.bin .and .u64 (.var 15) (.lit 1))
 (.lett 17 .bit (.cmp .eql (.var 16) (.lit 1))
 (.split 17
  (.req 1 [(.var 0), (.var 1), (.var 2), (.var 3), (.var 4), (.var 5), (.var 13), (.var 6)]
  (.lett 18 (.int .u64) (.app 1 0 [(.var 0), (.var 1), (.var 2), (.var 3), (.var 4), (.var 5), (.var 13), (.var 6)])
  (.lett 19 (.int .i64) (.bin .sub .i64 (.var 10) (.lit 1))
  (.back 0 [(.var 19), (.var 18)]))))
  (.lett 18 (.int .i64) (.bin .sub .i64 (.var 10) (.lit 1))
  (.back 0 [(.var 18), (.var 13)]))))))))))
 (.ret [(.var 11)])))))))
theorem law_lPow (f1 f2 f : FuncId) (e : Nat → Int) (hk : kkHas [.int .u64, .int .u64, .int .u64, .int .u64, .int .u64, .bit, .int .u64, .int .u64] [e 0, e 1, e 2, e 3, e 4, e 5, e 6, e 7]) (hp : (kLPow f).pre [e 0, e 1, e 2, e 3, e 4, e 5, e 6, e 7]) : tLPow.says [kLen64 f1, kLMul f2] ⟨fun ys => ys = (kLPow f).sem [e 0, e 1, e 2, e 3, e 4, e 5, e 6, e 7], []⟩ e := by
  have hp : pOk (e 0) := hp
  have p0 : 0 < e 0 := by have := hp.1; omega
  obtain ⟨_, _, _, _, _, _, h6, h7, _⟩ := hk
  have u6 := has_u64 h6
  have u7 := has_u64 h7
  simp only [tLPow, kLen64, kLMul, kLPow, Tree.says, List.getElem?_cons_zero, List.getElem?_cons_succ, List.map, ev_lit, ev_var, ev_limb, D.ev, List.getD_cons_zero, List.getD_cons_succ]
  refine ⟨trivial, fun a8 _ a9 _ => ?_⟩
  have b0 := blen_nn (e 7)
  have b1 := blen_le 64 (e 7) u7.1 (by rw [p64']; exact u7.2)
  have c9 : e 9 = blen (e 7) - 1 := by rw [a9, a8]; simp only [binE, wr]; omega
  rw [pwM_eq p0 u6.1]
  refine ⟨fun l => PowI (e 0) (e 6) (e 7) l ∧ l.headD 0 ≤ 63, fun | [i, _] => (i + 1).toNat | _ => 0, ?_, fun e' he hkk hI => ?_⟩
  · rw [c9]
    refine ⟨⟨by omega, by omega, ?_⟩, by show blen (e 7) - 1 ≤ 63; omega⟩
    rw [Int.sub_add_cancel]
    have h1 : e 7 / 2 ^ (blen (e 7)).toNat = 0 := by
      by_cases hc : e 7 < 2 ^ (blen (e 7)).toNat
      · exact Int.ediv_eq_zero_of_lt u7.1 hc
      · have := blen_gt (blen (e 7)).toNat (e 7) (by omega); omega
    rw [h1, Int.toNat_zero, Int.pow_zero]
    exact (Int.emod_eq_of_lt (by decide) (by have := hp.1; omega)).symm
  · obtain ⟨⟨i1, i2, i3⟩, i4⟩ : PowI (e 0) (e 6) (e 7) [e' 10, e' 11] ∧ e' 10 ≤ 63 := hI
    simp only [he 0 (by decide), he 1 (by decide), he 2 (by decide), he 3 (by decide), he 4 (by decide), he 5 (by decide), he 6 (by decide), he 7 (by decide)]
    intro a12 _
    have b12 := c_ge a12
    refine ⟨fun hs => ?_, fun hs => ?_⟩
    · obtain ⟨n, hi⟩ := Int.eq_ofNat_of_zero_le (show 0 ≤ e' 10 by omega)
      rw [hi, show ((n : Int) + 1).toNat = n + 1 by omega] at i3
      refine ⟨hp, fun a13 _ a14 _ a15 _ => ⟨bit_nz a14 (by omega), fun a16 _ a17 _ => ?_⟩⟩
      have b17 := c_eq a17
      rw [hi] at a15
      have c15 := shr_n a15 (by omega)
      have hq : (0 : Int) < 2 ^ n := Int.pow_pos (by decide)
      have u15 : U (e' 15) := by
        rw [c15]
        exact ⟨Int.ediv_nonneg u7.1 (by omega), Int.lt_of_le_of_lt (Int.ediv_le_self _ u7.1) u7.2⟩
      have c16 := and_1 a16 u15
      rw [c15] at c16
      refine ⟨fun hs2 => ?_, fun hs2 => ?_⟩
      · refine ⟨hp, fun a18 _ a19 _ => ?_⟩
        have h19 : e' 19 = n - 1 := by rw [a19]; simp only [binE, wr]; omega
        show (PowI (e 0) (e 6) (e 7) [e' 19, e' 18] ∧ e' 19 ≤ 63) ∧ (e' 19 + 1).toNat < (e' 10 + 1).toNat
        rw [h19, hi]
        refine ⟨⟨⟨by omega, by omega, ?_⟩, by omega⟩, by omega⟩
        rw [show ((n : Int) - 1 + 1).toNat = n by omega]
        exact pow_step1 u7.1 i3 a13 a18 (by omega)
      · intro a18 _
        have h18 : e' 18 = n - 1 := by rw [a18]; simp only [binE, wr]; omega
        show (PowI (e 0) (e 6) (e 7) [e' 18, e' 13] ∧ e' 18 ≤ 63) ∧ (e' 18 + 1).toNat < (e' 10 + 1).toNat
        rw [h18, hi]
        refine ⟨⟨⟨by omega, by omega, ?_⟩, by omega⟩, by omega⟩
        rw [show ((n : Int) - 1 + 1).toNat = n by omega]
        exact pow_step0 u7.1 i3 a13 (by omega)
    · have h1 : e' 10 = -1 := by omega
      rw [i3, h1]
      show [e 6 ^ (e 7 / 1).toNat % e 0] = _
      rw [Int.ediv_one]
def tLInv : Tree := (.lett 7 (.int .u64) (.bin .sub .u64 (.var 0) (.lit 2))
(.req 0 [(.var 0), (.var 1), (.var 2), (.var 3), (.var 4), (.var 5), (.var 6), (.var 7)]
(.lett 8 (.int .u64) (.app 0 0 [(.var 0), (.var 1), (.var 2), (.var 3), (.var 4), (.var 5), (.var 6), (.var 7)])
(.ret [(.var 8)]))))
theorem law_lInv (f1 f : FuncId) (e : Nat → Int) (hk : kkHas [.int .u64, .int .u64, .int .u64, .int .u64, .int .u64, .bit, .int .u64] [e 0, e 1, e 2, e 3, e 4, e 5, e 6]) (hp : (kLInv f).pre [e 0, e 1, e 2, e 3, e 4, e 5, e 6]) : tLInv.says [kLPow f1] ⟨fun ys => ys = (kLInv f).sem [e 0, e 1, e 2, e 3, e 4, e 5, e 6], []⟩ e := by
  have hp : pOk (e 0) := hp
  have p0 := hp.1
  have p1 := hp.2
  simp only [tLInv, kLPow, kLInv, Tree.says, List.getElem?_cons_zero, List.getElem?_cons_succ, List.map, ev_lit, ev_var, ev_limb, D.ev, List.getD_cons_zero, List.getD_cons_succ]
  intro a7 _
  have c7 : e 7 = e 0 - 2 := by rw [a7]; simp only [binE, wr]; omega
  refine ⟨hp, fun a8 _ => ?_⟩
  rw [a8, c7]; rfl
def tLRight : Tree := (.req 0 [(.var 0), (.var 1), (.var 2), (.var 3), (.var 4), (.var 5), (.var 6), (.var 6)]
(.lett 247 (.int .u64) (.app 0 0 [(.var 0), (.var 1), (.var 2), (.var 3), (.var 4), (.var 5), (.var 6), (.var 6)])
(.req 0 [(.var 0), (.var 1), (.var 2), (.var 3), (.var 4), (.var 5), (.var 247), (.var 6)]
(.lett 343 (.int .u64) (.app 0 0 [(.var 0), (.var 1), (.var 2), (.var 3), (.var 4), (.var 5), (.var 247), (.var 6)])
(.req 1 [(.var 0), (.var 1), (.var 2), (.var 3), (.var 4), (.var 5), (.var 343), (.var 6)]
(.lett 439 (.int .u64) (.app 1 0 [(.var 0), (.var 1), (.var 2), (.var 3), (.var 4), (.var 5), (.var 343), (.var 6)])
(.ret [(.var 439)])))))))
theorem law_lRight (f1 f2 f : FuncId) (e : Nat → Int) (hp : (kLRight f).pre [e 0, e 1, e 2, e 3, e 4, e 5, e 6]) : tLRight.says [kLMul f1, kLAdd f2] ⟨fun ys => ys = (kLRight f).sem [e 0, e 1, e 2, e 3, e 4, e 5, e 6], []⟩ e := by
  obtain ⟨hp, hx⟩ : pOk (e 0) ∧ e 6 < e 0 := hp
  have p0 := hp.1
  simp only [tLRight, kLMul, kLAdd, kLRight, Tree.says, List.getElem?_cons_zero, List.getElem?_cons_succ, List.map, ev_lit, ev_var, ev_limb, D.ev, List.getD_cons_zero, List.getD_cons_succ]
  refine ⟨hp, fun a1 _ => ⟨hp, fun a2 _ => ⟨⟨hp, by rw [a2]; exact (md_lt (by omega)).2, hx⟩, fun a3 _ => ?_⟩⟩⟩
  rw [a3, a2, a1]; rfl
def tLOn : Tree := (.split 8
 (.lett 9 .bit (.cmp .eql (.var 6) (.lit 0))
 (.split 9
  (.lett 10 .bit (.cmp .eql (.var 7) (.lit 0))
  (.ret [(.var 10)]))
  (.ret [(.lit 0)])))
 (.lett 201 .bit (.cmp .lss (.var 6) (.var 0))
 (.split 201
  (.lett 489 .bit (.cmp .lss (.var 7) (.var 0))
  (.split 489
   (.req 0 [(.var 0), (.var 1), (.var 2), (.var 3), (.var 4), (.var 5), (.var 7), (.var 7)]
   (.lett 873 (.int .u64) (.app 0 0 [(.var 0), (.var 1), (.var 2), (.var 3), (.var 4), (.var 5), (.var 7), (.var 7)])
   (.req 1 [(.var 0), (.var 1), (.var 2), (.var 3), (.var 4), (.var 5), (.var 6)]
   (.lett 1065 (.int .u64) (.app 1 0 [(.var 0), (.var 1), (.var 2), (.var 3), (.var 4), (.var 5), (.var 6)])
   (.lett 1113 .bit (.cmp .eql (.var 873) (.var 1065))
   (.ret [(.var 1113)]))))))
   (.ret [(.lit 0)])))
  (.ret [(.lit 0)]))))
theorem law_lOn (f1 f2 f : FuncId) (e : Nat → Int) (hp : (kLOn f).pre [e 0, e 1, e 2, e 3, e 4, e 5, e 6, e 7, e 8]) : tLOn.says [kLMul f1, kLRight f2] ⟨fun ys => ys = (kLOn f).sem [e 0, e 1, e 2, e 3, e 4, e 5, e 6, e 7, e 8], []⟩ e := by
  have hp : pOk (e 0) := hp
  simp only [tLOn, kLMul, kLRight, kLOn, Tree.says, List.getElem?_cons_zero, List.getElem?_cons_succ, List.map, ev_lit, ev_var, ev_limb, D.ev, List.getD_cons_zero, List.getD_cons_succ]
  unfold bi
  refine ⟨fun hz => ?_, fun hz => ?_⟩
  · intro a9 _
    have b9 := c_eq a9
    refine ⟨fun h1 => ?_, fun h1 => ?_⟩
    · intro a10 _
      have b10 := c_eq a10
      have : onP (e 0) (e 6) (e 7) (e 8) ↔ e 7 = 0 := by unfold onP; rw [if_neg hz]; constructor <;> intro h <;> omega
      simp only [this]
      congr 1
      split <;> omega
    · have : ¬ onP (e 0) (e 6) (e 7) (e 8) := by unfold onP; rw [if_neg hz]; omega
      rw [if_neg this]
  · intro a1 _
    have b1 := c_lt a1
    have hon : onP (e 0) (e 6) (e 7) (e 8) ↔ e 6 < e 0 ∧ e 7 < e 0 ∧ e 7 * e 7 % e 0 = rightP (e 0) (e 6) := by unfold onP; rw [if_pos hz]
    refine ⟨fun h1 => ?_, fun h1 => ?_⟩
    · intro a2 _
      have b2 := c_lt a2
      refine ⟨fun h2 => ?_, fun h2 => ?_⟩
      · refine ⟨hp, fun a3 _ => ⟨⟨hp, by omega⟩, fun a4 _ a5 _ => ?_⟩⟩
        have b5 := c_eq a5
        rw [a3, a4] at b5
        simp only [hon]
        congr 1
        split
        · rename_i h; rcases b5 with b5 | b5
          · exact b5.1
          · exact absurd h.2.2 b5.2
        · rename_i h; rcases b5 with b5 | b5
          · exact absurd ⟨by omega, by omega, b5.2⟩ h
          · exact b5.1
      · rw [if_neg (by rw [hon]; omega)]
    · rw [if_neg (by rw [hon]; omega)]
def tLSlope : Tree := (.lett 12 .bit (.cmp .neq (.var 6) (.var 9))
(.split 12
 (.req 0 [(.var 0), (.var 1), (.var 2), (.var 3), (.var 4), (.var 5), (.var 10), (.var 7)]
 (.lett 301 (.int .u64) (.app 0 0 [(.var 0), (.var 1), (.var 2), (.var 3), (.var 4), (.var 5), (.var 10), (.var 7)])
 (.req 0 [(.var 0), (.var 1), (.var 2), (.var 3), (.var 4), (.var 5), (.var 9), (.var 6)]
 (.lett 637 (.int .u64) (.app 0 0 [(.var 0), (.var 1), (.var 2), (.var 3), (.var 4), (.var 5), (.var 9), (.var 6)])
 (.req 1 [(.var 0), (.var 1), (.var 2), (.var 3), (.var 4), (.var 5), (.var 637)]
 (.lett 685 (.int .u64) (.app 1 0 [(.var 0), (.var 1), (.var 2), (.var 3), (.var 4), (.var 5), (.var 637)])
 (.req 2 [(.var 0), (.var 1), (.var 2), (.var 3), (.var 4), (.var 5), (.var 301), (.var 685)]
 (.lett 733 (.int .u64) (.app 2 0 [(.var 0), (.var 1), (.var 2), (.var 3), (.var 4), (.var 5), (.var 301), (.var 685)])
 (.ret [(.var 733), (.lit 1)])))))))))
 (.lett 13 .bit (.cmp .neq (.var 7) (.var 10))
 (.split 13
  (.ret [(.lit 0), (.lit 0)])
  (.lett 14 .bit (.cmp .eql (.var 7) (.lit 0))
  (.split 14
   (.ret [(.lit 0), (.lit 0)])
   (.req 2 [(.var 0), (.var 1), (.var 2), (.var 3), (.var 4), (.var 5), (.var 6), (.var 6)]
   (.lett 15 (.int .u64) (.app 2 0 [(.var 0), (.var 1), (.var 2), (.var 3), (.var 4), (.var 5), (.var 6), (.var 6)])
   (.req 3 [(.var 0), (.var 1), (.var 2), (.var 3), (.var 4), (.var 5), (.var 15), (.var 15)]
   (.lett 304 (.int .u64) (.app 3 0 [(.var 0), (.var 1), (.var 2), (.var 3), (.var 4), (.var 5), (.var 15), (.var 15)])
   (.req 3 [(.var 0), (.var 1), (.var 2), (.var 3), (.var 4), (.var 5), (.var 304), (.var 15)]
   (.lett 400 (.int .u64) (.app 3 0 [(.var 0), (.var 1), (.var 2), (.var 3), (.var 4), (.var 5), (.var 304), (.var 15)])
   (.req 3 [(.var 0), (.var 1), (.var 2), (.var 3), (.var 4), (.var 5), (.var 400), (.lit 1)]
   (.lett 448 (.int .u64) (.app 3 0 [(.var 0), (.var 1), (.var 2), (.var 3), (.var 4), (.var 5), (.var 400), (.lit 1)])
   (.req 3 [(.var 0), (.var 1), (.var 2), (.var 3), (.var 4), (.var 5), (.var 7), (.var 7)]
   (.lett 784 (.int .u64) (.app 3 0 [(.var 0), (.var 1), (.var 2), (.var 3), (.var 4), (.var 5), (.var 7), (.var 7)])
   (.req 1 [(.var 0), (.var 1), (.var 2), (.var 3), (.var 4), (.var 5), (.var 784)]
   (.lett 832 (.int .u64) (.app 1 0 [(.var 0), (.var 1), (.var 2), (.var 3), (.var 4), (.var 5), (.var 784)])
   (.req 2 [(.var 0), (.var 1), (.var 2), (.var 3), (.var 4), (.var 5), (.var 448), (.var 832)]
   (.lett 880 (.int .u64) (.app 2 0 [(.var 0), (.var 1), (.var 2), (.var 3), (.var 4), (.var 5), (.var 448), (.var 832)])
   (.ret [(.var 880), (.lit 1)])))))))))))))))))))))
theorem law_lSlope (f1 f2 f3 f4 f : FuncId) (e : Nat → Int) (hk : kkHas [.int .u64, .int .u64, .int .u64, .int .u64, .int .u64, .bit, .int .u64, .int .u64, .bit, .int .u64, .int .u64, .bit] [e 0, e 1, e 2, e 3, e 4, e 5, e 6, e 7, e 8, e 9, e 10, e 11]) (hp : (kLSlope f).pre [e 0, e 1, e 2, e 3, e 4, e 5, e 6, e 7, e 8, e 9, e 10, e 11]) : tLSlope.says [kLSub f1, kLInv f2, kLMul f3, kLAdd f4] ⟨fun ys => ys = (kLSlope f).sem [e 0, e 1, e 2, e 3, e 4, e 5, e 6, e 7, e 8, e 9, e 10, e 11], []⟩ e := by
  obtain ⟨hp, q1, q2, q3, q4⟩ := hp
  have p0 : 0 < e 0 := by have := hp.1; omega
  have p3 := hp.1
  have lt : ∀ x : Int, x % e 0 < e 0 := fun x => (md_lt p0).2
  simp only [tLSlope, kLSub, kLInv, kLMul, kLAdd, kLSlope, Tree.says, List.getElem?_cons_zero, List.getElem?_cons_succ, List.map, ev_lit, ev_var, ev_limb, D.ev, List.getD_cons_zero, List.getD_cons_succ]
  intro a12 _
  have b12 := c_ne a12
  refine ⟨fun h => ?_, fun h => ?_⟩
  · refine ⟨⟨hp, q4, q2⟩, fun a1 _ => ⟨⟨hp, q3, q1⟩, fun a2 _ => ⟨hp, fun a3 _ => ⟨hp, fun a4 _ => ?_⟩⟩⟩⟩
    unfold slopeP
    rw [if_pos (by omega), a4, a1, a3, a2]
  · intro a13 _
    have b13 := c_ne a13
    refine ⟨fun h1 => ?_, fun h1 => ?_⟩
    · unfold slopeP
      rw [if_neg (by omega), if_pos (by omega)]
    · intro a14 _
      have b14 := c_eq a14
      refine ⟨fun h2 => ?_, fun h2 => ?_⟩
      · unfold slopeP
        rw [if_neg (by omega), if_pos (by omega)]
      · refine ⟨hp, fun a1 _ => ⟨⟨hp, by rw [a1]; exact lt _, by rw [a1]; exact lt _⟩, fun a2 _ => ⟨⟨hp, by rw [a2]; exact lt _, by rw [a1]; exact lt _⟩, fun a3 _ => ⟨⟨hp, by rw [a3]; exact lt _, by omega⟩, fun a4 _ => ⟨⟨hp, q2, q2⟩, fun a5 _ => ⟨hp, fun a6 _ => ⟨hp, fun a7 _ => ?_⟩⟩⟩⟩⟩⟩⟩
        unfold slopeP
        rw [if_neg (by omega), if_neg (by omega), a7, a4, a6, a3, a5, a2, a1]
theorem slope_lt {p x y x' y' : Int} (hp : 0 < p) : 0 ≤ (slopeP p x y x' y').1 ∧ (slopeP p x y x' y').1 < p := by
  unfold slopeP
  split
  · exact md_lt hp
  · split
    · exact ⟨Int.le_refl _, hp⟩
    · exact md_lt hp
theorem slope_bit {p x y x' y' : Int} : (slopeP p x y x' y').2 = 0 ∨ (slopeP p x y x' y').2 = 1 := by
  unfold slopeP
  split
  · exact .inr rfl
  · split
    · exact .inl rfl
    · exact .inr rfl
def tLSum : Tree := (.split 8
 (.ret [(.var 9), (.var 10), (.var 11)])
 (.split 11
  (.ret [(.var 6), (.var 7), (.var 8)])
  (.req 0 [(.var 0), (.var 1), (.var 2), (.var 3), (.var 4), (.var 5), (.var 6), (.var 7), (.var 8), (.var 9), (.var 10), (.var 11)]
  (.lett 12 (.int .u64) (.app 0 0 [(.var 0), (.var 1), (.var 2), (.var 3), (.var 4), (.var 5), (.var 6), (.var 7), (.var 8), (.var 9), (.var 10), (.var 11)])
  (.lett 13 .bit (.app 0 1 [(.var 0), (.var 1), (.var 2), (.var 3), (.var 4), (.var 5), (.var 6), (.var 7), (.var 8), (.var 9), (.var 10), (.var 11)])
  (.lett 14 .bit (.not (.var 13))
  (.split 14
   (.ret [(.lit 0), (.lit 0), (.lit 1)])
   (.req 1 [(.var 0), (.var 1), (.var 2), (.var 3), (.var 4), (.var 5), (.var 12), (.var 12)]
   (.lett 255 (.int .u64) (.app 1 0 [(.var 0), (.var 1), (.var 2), (.var 3), (.var 4), (.var 5), (.var 12), (.var 12)])
   (.req 2 [(.var 0), (.var 1), (.var 2), (.var 3), (.var 4), (.var 5), (.var 255), (.var 6)]
   (.lett 399 (.int .u64) (.app 2 0 [(.var 0), (.var 1), (.var 2), (.var 3), (.var 4), (.var 5), (.var 255), (.var 6)])
   (.req 2 [(.var 0), (.var 1), (.var 2), (.var 3), (.var 4), (.var 5), (.var 399), (.var 9)]
   (.lett 543 (.int .u64) (.app 2 0 [(.var 0), (.var 1), (.var 2), (.var 3), (.var 4), (.var 5), (.var 399), (.var 9)])
   (.req 2 [(.var 0), (.var 1), (.var 2), (.var 3), (.var 4), (.var 5), (.var 6), (.var 543)]
   (.lett 1023 (.int .u64) (.app 2 0 [(.var 0), (.var 1), (.var 2), (.var 3), (.var 4), (.var 5), (.var 6), (.var 543)])
   (.req 1 [(.var 0), (.var 1), (.var 2), (.var 3), (.var 4), (.var 5), (.var 12), (.var 1023)]
   (.lett 1071 (.int .u64) (.app 1 0 [(.var 0), (.var 1), (.var 2), (.var 3), (.var 4), (.var 5), (.var 12), (.var 1023)])
   (.req 2 [(.var 0), (.var 1), (.var 2), (.var 3), (.var 4), (.var 5), (.var 1071), (.var 7)]
   (.lett 1215 (.int .u64) (.app 2 0 [(.var 0), (.var 1), (.var 2), (.var 3), (.var 4), (.var 5), (.var 1071), (.var 7)])
   (.ret [(.var 543), (.var 1215), (.lit 0)]))))))))))))))))))))
theorem law_lSum (f1 f2 f3 f : FuncId) (e : Nat → Int) (hk : kkHas [.int .u64, .int .u64, .int .u64, .int .u64, .int .u64, .bit, .int .u64, .int .u64, .bit, .int .u64, .int .u64, .bit] [e 0, e 1, e 2, e 3, e 4, e 5, e 6, e 7, e 8, e 9, e 10, e 11]) (hp : (kLSum f).pre [e 0, e 1, e 2, e 3, e 4, e 5, e 6, e 7, e 8, e 9, e 10, e 11]) : tLSum.says [kLSlope f1, kLMul f2, kLSub f3] ⟨fun ys => ys = (kLSum f).sem [e 0, e 1, e 2, e 3, e 4, e 5, e 6, e 7, e 8, e 9, e 10, e 11], []⟩ e := by
  obtain ⟨hp, q1, q2, q3, q4⟩ := hp
  have p0 : 0 < e 0 := by have := hp.1; omega
  have lt : ∀ x : Int, x % e 0 < e 0 := fun x => (md_lt p0).2
  simp only [tLSum, kLSlope, kLMul, kLSub, kLSum, Tree.says, List.getElem?_cons_zero, List.getElem?_cons_succ, List.map, ev_lit, ev_var, ev_limb, D.ev, List.getD_cons_zero, List.getD_cons_succ]
  refine ⟨fun h => ?_, fun h => ?_⟩
  · unfold sumP Pt.l; rw [if_pos h]
  refine ⟨fun h1 => ?_, fun h1 => ?_⟩
  · unfold sumP Pt.l; rw [if_neg (by simpa using h), if_pos h1]
  refine ⟨⟨hp, q1, q2, q3, q4⟩, fun a12 _ a13 _ a14 _ => ?_⟩
  have b14 := c_not a14
  refine ⟨fun h2 => ?_, fun h2 => ?_⟩
  · have hz : (slopeP (e 0) (e 6) (e 7) (e 9) (e 10)).2 = 0 := by rw [← a13]; omega
    unfold sumP Pt.l
    rw [if_neg (by simpa using h), if_neg (by simpa using h1)]
    simp only [hz, if_true]
  · have hz : ¬ (slopeP (e 0) (e 6) (e 7) (e 9) (e 10)).2 = 0 := by rw [← a13]; omega
    refine ⟨hp, fun a1 _ => ⟨⟨hp, by rw [a1]; exact lt _, q1⟩, fun a2 _ => ⟨⟨hp, by rw [a2]; exact lt _, q3⟩, fun a3 _ => ⟨⟨hp, q1, by rw [a3]; exact lt _⟩, fun a4 _ => ⟨hp, fun a5 _ => ⟨⟨hp, by rw [a5]; exact lt _, q2⟩, fun a6 _ => ?_⟩⟩⟩⟩⟩⟩
    unfold sumP Pt.l
    rw [if_neg (by simpa using h), if_neg (by simpa using h1)]
    simp only [hz, if_false]
    rw [a6, a5, a4, a3, a2, a1, a12]
theorem sumP_lt {p : Int} (hp : 0 < p) {a b : Pt} (ha : a.lt p) (hb : b.lt p) : (sumP p a b).lt p := by
  unfold sumP
  split
  · exact hb
  split
  · exact ha
  simp only
  split
  · exact ⟨⟨Int.le_refl _, hp⟩, Int.le_refl _, hp⟩
  · exact ⟨md_lt hp, md_lt hp⟩
theorem mulP_lt {p : Int} (hp : 0 < p) {a : Pt} (ha : a.lt p) : ∀ (k n : Nat), (mulP p a k n).lt p
  | 0, n => ⟨⟨Int.le_refl _, hp⟩, Int.le_refl _, hp⟩
  | k + 1, n => by
    unfold mulP
    split
    · exact ⟨⟨Int.le_refl _, hp⟩, Int.le_refl _, hp⟩
    · simp only
      have h := mulP_lt hp ha k (n / 2)
      have hd := sumP_lt hp h h
      split
      · exact sumP_lt hp hd ha
      · exact hd
theorem mulP_fuel {p : Int} {a : Pt} : ∀ (k n : Nat), n < 2 ^ k → mulP p a (k + 1) n = mulP p a k n
  | 0, n, h => by
    have : n = 0 := by simpa using h
    subst this; rfl
  | k + 1, n, h => by
    have ih := mulP_fuel (p := p) (a := a) k (n / 2) (by rw [Nat.pow_succ] at h; omega)
    have e1 : ∀ j, mulP p a (j + 1) n = if n = 0 then ⟨0, 0, 1⟩ else (if n % 2 = 1 then sumP p (sumP p (mulP p a j (n / 2)) (mulP p a j (n / 2))) a else sumP p (mulP p a j (n / 2)) (mulP p a j (n / 2))) := fun j => rfl
    rw [e1, e1, ih]
theorem mulP_step {p : Int} {a : Pt} {n : Nat} (h : n < 2 ^ 64) : mulP p a 64 n = (if n % 2 = 1 then sumP p (sumP p (mulP p a 64 (n / 2)) (mulP p a 64 (n / 2))) a else sumP p (mulP p a 64 (n / 2)) (mulP p a 64 (n / 2))) := by
  have hf : mulP p a 64 (n / 2) = mulP p a 63 (n / 2) := mulP_fuel 63 (n / 2) (by omega)
  rw [hf]
  conv => lhs; unfold mulP
  split
  · rename_i h0
    subst h0
    rfl
  · rfl
def TimesI (p : Int) (a : Pt) (n : Int) : List Int → Prop
  | [i, x, y, z] => -1 ≤ i ∧ i ≤ 63 ∧ (⟨x, y, z⟩ : Pt) = mulP p a 64 (n / 2 ^ (i + 1).toNat).toNat
  | _ => False
def tLTimes : Tree := (.req 0 [(.var 9)]
(.lett 10 (.int .i64) (.app 0 0 [(.var 9)])
(.lett 11 (.int .i64) (.bin .sub .i64 (.var 10) (.lit 1))
(.loop [(.var 11), (.lit 0), (.lit 0), (.lit 1)] [(.int .i64), (.int .u64), (.int .u64), .bit] 12
(.lett 16 .bit (.cmp .geq (.var 12) (.lit 0))
(.split 16
 (.req 1 [(.var 0), (.var 1), (.var 2), (.var 3), (.var 4), (.var 5), (.var 13), (.var 14), (.var 15), (.var 13), (.var 14), (.var 15)]
 (.lett 17 (.int .u64) (.app 1 0 [(.var 0), (.var 1), (.var 2), (.var 3), (.var 4), (.var 5), (.var 13), (.var 14), (.var 15), (.var 13), (.var 14), (.var 15)])
 (.lett 18 (.int .u64) (.app 1 1 [(.var 0), (.var 1), (.var 2), (.var 3), (.var 4), (.var 5), (.var 13), (.var 14), (.var 15), (.var 13), (.var 14), (.var 15)])
 (.lett 19 .bit (.app 1 2 [(.var 0), (.var 1), (.var 2), (.var 3), (.var 4), (.var 5), (.var 13), (.var 14), (.var 15), (.var 13), (.var 14), (.var 15)])
 (.lett 20 .bit (.cmp .leq (.lit 0) (.var 12))
 (.lett 21 (.int .u64) (.bin .shr .u64 (.var 9) (.var 12))
 (.nz (.var 20)
 (.lett 22 (.int .u64) (.bin .and .u64 (.var 21) (.lit 1))
 (.lett 23 .bit (.cmp .eql (.var 22) (.lit 1))
 (.split 23
  (.req 1 [(.var 0), (.var 1), (.var 2), (.var 3), (.var 4), (.var 5), (.var 17), (.var 18), (.var 19), (.var 6), (.var 7), (.var 8)]
  (.lett 24 (.int .u64) (.app 1 0 [(.var 0), (.var 1), (.var 2), (.var 3), (.var 4), (.var 5), (.var 17), (.var 18), (.var 19), (.var 6), (.var 7), (.var 8)])
  (.lett 25 (.int .u64) (.app 1 1 [(.var 0), (.var 1), (.var 2), (.var 3), (.var 4), (.var 5), (.var 17), (.var 18), (.var 19), (.var 6), (.var 7), (.var 8)])
  (.lett 26 .bit (.app 1 2 [(.var 0), (.var 1), (.var 2), (.var 3), (.var 4), (.var 5), (.var 17), (.var 18), (.var 19), (.var 6), (.var 7), (.var 8)])
  (.lett 27 (.int .i64) (.bin .sub .i64 (.var 12) (.lit 1))
  (.back 0 [(.var 27), (.var 24), (.var 25), (.var 26)]))))))
  (.lett 24 (.int .i64) (.bin .sub .i64 (.var 12) (.lit 1))
  (.back 0 [(.var 24), (.var 17), (.var 18), (.var 19)]))))))))))))
 (.ret [(.var 13), (.var 14), (.var 15)])))))))
theorem law_lTimes (f1 f2 f : FuncId) (e : Nat → Int) (hk : kkHas [.int .u64, .int .u64, .int .u64, .int .u64, .int .u64, .bit, .int .u64, .int .u64, .bit, .int .u64] [e 0, e 1, e 2, e 3, e 4, e 5, e 6, e 7, e 8, e 9]) (hp : (kLTimes f).pre [e 0, e 1, e 2, e 3, e 4, e 5, e 6, e 7, e 8, e 9]) : tLTimes.says [kLen64 f1, kLSum f2] ⟨fun ys => ys = (kLTimes f).sem [e 0, e 1, e 2, e 3, e 4, e 5, e 6, e 7, e 8, e 9], []⟩ e := by
  obtain ⟨hp, q1, q2⟩ := hp
  have p0 : 0 < e 0 := by have := hp.1; omega
  obtain ⟨_, _, _, _, _, _, h6, h7, h8, h9, _⟩ := hk
  have u6 := has_u64 h6
  have u7 := has_u64 h7
  have u9 := has_u64 h9
  have ha : (⟨e 6, e 7, e 8⟩ : Pt).lt (e 0) := ⟨⟨u6.1, q1⟩, u7.1, q2⟩
  simp only [tLTimes, kLen64, kLSum, kLTimes, Tree.says, List.getElem?_cons_zero, List.getElem?_cons_succ, List.map, ev_lit, ev_var, ev_limb, D.ev, List.getD_cons_zero, List.getD_cons_succ]
  refine ⟨trivial, fun a10 _ a11 _ => ?_⟩
  have b0 := blen_nn (e 9)
  have b1 := blen_le 64 (e 9) u9.1 (by rw [p64']; exact u9.2)
  have c11 : e 11 = blen (e 9) - 1 := by rw [a11, a10]; simp only [binE, wr]; omega
  refine ⟨TimesI (e 0) ⟨e 6, e 7, e 8⟩ (e 9), fun | [i, _, _, _] => (i + 1).toNat | _ => 0, ?_, fun e' he hkk hI => ?_⟩
  · rw [c11]
    refine ⟨by omega, by omega, ?_⟩
    rw [Int.sub_add_cancel]
    have h1 : e 9 / 2 ^ (blen (e 9)).toNat = 0 := by
      by_cases hc : e 9 < 2 ^ (blen (e 9)).toNat
      · exact Int.ediv_eq_zero_of_lt u9.1 hc
      · have := blen_gt (blen (e 9)).toNat (e 9) (by omega); omega
    rw [h1]; rfl
  · obtain ⟨i1, i2, i3⟩ : TimesI (e 0) ⟨e 6, e 7, e 8⟩ (e 9) [e' 12, e' 13, e' 14, e' 15] := hI
    simp only [he 0 (by decide), he 1 (by decide), he 2 (by decide), he 3 (by decide), he 4 (by decide), he 5 (by decide), he 6 (by decide), he 7 (by decide), he 8 (by decide), he 9 (by decide)]
    intro a16 _
    have b16 := c_ge a16
    refine ⟨fun hs => ?_, fun hs => ?_⟩
    · obtain ⟨n, hi⟩ := Int.eq_ofNat_of_zero_le (show 0 ≤ e' 12 by omega)
      rw [hi, show ((n : Int) + 1).toNat = n + 1 by omega] at i3
      have hq : (0 : Int) < 2 ^ n := Int.pow_pos (by decide)
      have hn0 := Int.ediv_nonneg u9.1 (show (0 : Int) ≤ 2 ^ n by omega)
      have hn1 : e 9 / 2 ^ n < 18446744073709551616 := Int.lt_of_le_of_lt (Int.ediv_le_self _ u9.1) u9.2
      have hlt := mulP_lt p0 ha 64 (e 9 / 2 ^ (n + 1)).toNat
      rw [← i3] at hlt
      have hst := mulP_step (p := e 0) (a := ⟨e 6, e 7, e 8⟩) (n := (e 9 / 2 ^ n).toNat) (by omega)
      have hhalf : (e 9 / 2 ^ n).toNat / 2 = (e 9 / 2 ^ (n + 1)).toNat := by
        rw [Int.pow_succ, ← Int.ediv_ediv_of_nonneg (by omega)]; omega
      rw [hhalf, ← i3] at hst
      refine ⟨⟨hp, hlt.1.2, hlt.2.2, hlt.1.2, hlt.2.2⟩, fun a17 _ a18 _ a19 _ a20 _ a21 _ => ⟨bit_nz a20 (by omega), fun a22 _ a23 _ => ?_⟩⟩
      have b23 := c_eq a23
      rw [hi] at a21
      have c21 := shr_n a21 (by omega)
      have c22 := and_1 a22 (by rw [c21]; exact ⟨hn0, hn1⟩)
      rw [c21] at c22
      have hd : (⟨e' 17, e' 18, e' 19⟩ : Pt) = sumP (e 0) ⟨e' 13, e' 14, e' 15⟩ ⟨e' 13, e' 14, e' 15⟩ := by rw [a17, a18, a19]; rfl
      have hdl := sumP_lt p0 hlt hlt
      rw [← hd] at hdl hst
      refine ⟨fun hs2 => ?_, fun hs2 => ?_⟩
      · refine ⟨⟨hp, hdl.1.2, hdl.2.2, q1, q2⟩, fun a24 _ a25 _ a26 _ a27 _ => ?_⟩
        have h27 : e' 27 = n - 1 := by rw [a27]; simp only [binE, wr]; omega
        show TimesI (e 0) ⟨e 6, e 7, e 8⟩ (e 9) [e' 27, e' 24, e' 25, e' 26] ∧ (e' 27 + 1).toNat < (e' 12 + 1).toNat
        rw [h27, hi]
        refine ⟨⟨by omega, by omega, ?_⟩, by omega⟩
        rw [show ((n : Int) - 1 + 1).toNat = n by omega, hst, if_pos (by omega), a24, a25, a26]; rfl
      · intro a24 _
        have h24 : e' 24 = n - 1 := by rw [a24]; simp only [binE, wr]; omega
        show TimesI (e 0) ⟨e 6, e 7, e 8⟩ (e 9) [e' 24, e' 17, e' 18, e' 19] ∧ (e' 24 + 1).toNat < (e' 12 + 1).toNat
        rw [h24, hi]
        refine ⟨⟨by omega, by omega, ?_⟩, by omega⟩
        rw [show ((n : Int) - 1 + 1).toNat = n by omega, hst, if_neg (by omega)]
    · have h1 : e' 12 = -1 := by omega
      rw [h1] at i3
      have h2 : (⟨e' 13, e' 14, e' 15⟩ : Pt) = mulP (e 0) ⟨e 6, e 7, e 8⟩ 64 (e 9).toNat := by
        rw [i3]; congr 2
        show e 9 / 1 = e 9
        rw [Int.ediv_one]
      rw [← h2]; rfl
def tLIn : Tree := (.req 0 [(.var 0), (.var 1), (.var 2), (.var 3), (.var 4), (.var 5), (.var 6), (.var 7), (.var 8)]
(.lett 9 .bit (.app 0 0 [(.var 0), (.var 1), (.var 2), (.var 3), (.var 4), (.var 5), (.var 6), (.var 7), (.var 8)])
(.split 9
 (.req 1 [(.var 0), (.var 1), (.var 2), (.var 3), (.var 4), (.var 5), (.var 6), (.var 7), (.var 8), (.var 1)]
 (.lett 10 (.int .u64) (.app 1 0 [(.var 0), (.var 1), (.var 2), (.var 3), (.var 4), (.var 5), (.var 6), (.var 7), (.var 8), (.var 1)])
 (.lett 11 (.int .u64) (.app 1 1 [(.var 0), (.var 1), (.var 2), (.var 3), (.var 4), (.var 5), (.var 6), (.var 7), (.var 8), (.var 1)])
 (.lett 12 .bit (.app 1 2 [(.var 0), (.var 1), (.var 2), (.var 3), (.var 4), (.var 5), (.var 6), (.var 7), (.var 8), (.var 1)])
 (.ret [(.var 12)])))))
 (.ret [(.lit 0)]))))
theorem law_lIn (f1 f2 f : FuncId) (e : Nat → Int) (hk : kkHas [.int .u64, .int .u64, .int .u64, .int .u64, .int .u64, .bit, .int .u64, .int .u64, .bit] [e 0, e 1, e 2, e 3, e 4, e 5, e 6, e 7, e 8]) (hp : (kLIn f).pre [e 0, e 1, e 2, e 3, e 4, e 5, e 6, e 7, e 8]) : tLIn.says [kLOn f1, kLTimes f2] ⟨fun ys => ys = (kLIn f).sem [e 0, e 1, e 2, e 3, e 4, e 5, e 6, e 7, e 8], []⟩ e := by
  have hp : pOk (e 0) := hp
  have p0 := hp.1
  simp only [tLIn, kLOn, kLTimes, kLIn, Tree.says, List.getElem?_cons_zero, List.getElem?_cons_succ, List.map, ev_lit, ev_var, ev_limb, D.ev, List.getD_cons_zero, List.getD_cons_succ]
  refine ⟨hp, fun a9 _ => ?_⟩
  unfold bi at a9 ⊢
  refine ⟨fun h => ?_, fun h => ?_⟩
  · have hon : onP (e 0) (e 6) (e 7) (e 8) := by
      by_cases hc : onP (e 0) (e 6) (e 7) (e 8)
      · exact hc
      · rw [if_neg hc] at a9; omega
    have hb : e 6 < e 0 ∧ e 7 < e 0 := by
      unfold onP at hon
      split at hon <;> omega
    refine ⟨⟨hp, hb.1, hb.2⟩, fun a10 _ a11 _ a12 k12 => ?_⟩
    have hz : e 12 = (mulP (e 0) ⟨e 6, e 7, e 8⟩ 64 (e 1).toNat).z := a12
    have k12 : 0 ≤ e 12 ∧ e 12 ≤ 1 := k12
    by_cases hc : (mulP (e 0) ⟨e 6, e 7, e 8⟩ 64 (e 1).toNat).z ≠ 0
    · rw [if_pos ⟨hon, hc⟩]; congr 1; omega
    · rw [if_neg (fun hh => hc hh.2)]; congr 1; omega
  · have hon : ¬ onP (e 0) (e 6) (e 7) (e 8) := fun hc => by rw [if_pos hc] at a9; omega
    rw [if_neg (fun hh => hon hh.1)]
end Go.Sx

/- The law of SuiteScalars, a way for each of its cases (printed by gscal.py). -/
namespace Go.Sx
open Go Go.RowKit
set_option maxRecDepth 100000
set_option linter.unusedSimpArgs false
set_option linter.unusedVariables false
def tIs : Tree := (.lett 1 .bit (.cmp .geq (.var 0) (.lit 0))
(.split 1
 (.lett 2 .bit (.cmp .leq (.var 0) (.lit 2))
 (.ret [(.var 2)]))
 (.ret [(.lit 0)])))
theorem law_is (f : FuncId) (e : Nat → Int) : tIs.says [] ⟨fun ys => ys = (kIs f).sem [e 0], []⟩ e := by
  simp only [tIs, kIs, Tree.says, List.getElem?_cons_zero, List.getElem?_cons_succ, List.map, ev_lit, ev_var, ev_limb, D.ev, List.getD_cons_zero, List.getD_cons_succ]
  intro a1 _
  have b1 := c_ge a1
  refine ⟨fun n => ?_, fun n => ?_⟩
  · intro a2 _
    have b2 := c_le a2
    by_cases h : isS (e 0)
    · rw [bi, if_pos h]; unfold isS at h; congr 1; omega
    · rw [bi, if_neg h]; unfold isS at h; congr 1; omega
  · rw [bi, if_neg (by unfold isS; omega)]
def FermatAll : Prop := ∀ s a : Int, isS s → 0 < a → a < rOf s → a * (a ^ (rOf s - 2).toNat % rOf s) % rOf s = 1
noncomputable def TScal (f : Nat → FuncId) : List K := [kSOrder (f 0), kS2 (f 1) (· + ·), kS2 (f 2) (· - ·), kS2 (f 3) (· * ·), kSNeg (f 4), kSInv (f 5), kRScalar (f 6), kOrder (f 7), kR2 (f 8) (· + ·), kR2 (f 9) (· - ·), kR2 (f 10) (· * ·), kRNeg (f 11), kRInv (f 12), kNumber (f 13), kIs (f 14)]
theorem so_yes {s : Int} (h : isS s) : ((kSOrder 0).sem [s]).getD 0 0 = rOf s ∧ ((kSOrder 0).sem [s]).getD 1 0 = 0 := by simp only [kSOrder]; rw [if_pos h]; exact ⟨rfl, rfl⟩
theorem so_no {s : Int} (h : ¬ isS s) : ((kSOrder 0).sem [s]).getD 0 0 = 0 ∧ ((kSOrder 0).sem [s]).getD 1 0 = 2 := by simp only [kSOrder]; rw [if_neg h]; exact ⟨rfl, rfl⟩
theorem s2_yes {op : Int → Int → Int} {s a b : Int} (h : isS s ∧ a < rOf s ∧ b < rOf s) : (sem2 op [s, a, b]).getD 0 0 = op a b % rOf s ∧ (sem2 op [s, a, b]).getD 1 0 = 0 := by simp only [sem2]; rw [if_pos h]; exact ⟨rfl, rfl⟩
theorem s2_no {op : Int → Int → Int} {s a b : Int} (h : ¬ (isS s ∧ a < rOf s ∧ b < rOf s)) : (sem2 op [s, a, b]).getD 0 0 = 0 ∧ (sem2 op [s, a, b]).getD 1 0 = 2 := by simp only [sem2]; rw [if_neg h]; exact ⟨rfl, rfl⟩
theorem sn_yes {s a : Int} (h : isS s ∧ a < rOf s) : ((kSNeg 0).sem [s, a]).getD 0 0 = (-a) % rOf s ∧ ((kSNeg 0).sem [s, a]).getD 1 0 = 0 := by simp only [kSNeg]; rw [if_pos h]; exact ⟨rfl, rfl⟩
theorem sn_no {s a : Int} (h : ¬ (isS s ∧ a < rOf s)) : ((kSNeg 0).sem [s, a]).getD 0 0 = 0 ∧ ((kSNeg 0).sem [s, a]).getD 1 0 = 2 := by simp only [kSNeg]; rw [if_neg h]; exact ⟨rfl, rfl⟩
theorem si_no {s a : Int} (h : ¬ (isS s ∧ a < rOf s)) : ((kSInv 0).sem [s, a]).getD 0 0 = 0 ∧ ((kSInv 0).sem [s, a]).getD 1 0 = 2 := by simp only [kSInv]; rw [if_neg h]; exact ⟨rfl, rfl⟩
theorem si_zero {s a : Int} (h : isS s) (ha : a = 0) : ((kSInv 0).sem [s, a]).getD 0 0 = 0 ∧ ((kSInv 0).sem [s, a]).getD 1 0 = 6 := by
  have h3 := (rOf_ok h).2.1
  have hno : ¬ ∃ y, 0 ≤ y ∧ y < rOf s ∧ a * y % rOf s = 1 := by
    rintro ⟨y, _, _, hy⟩
    rw [ha, Int.zero_mul, Int.zero_emod] at hy
    cases hy
  simp only [kSInv]
  rw [if_pos ⟨h, by omega⟩, invM_none hno, if_neg hno]
  exact ⟨rfl, rfl⟩
theorem si_yes {s a : Int} (hF : FermatAll) (h : isS s) (ha : a < rOf s) (hz : ¬ a = 0) (h1 : 0 ≤ a ∧ a < N384) : ((kSInv 0).sem [s, a]).getD 0 0 = a ^ (rOf s - 2).toNat % rOf s ∧ ((kSInv 0).sem [s, a]).getD 1 0 = 0 := by
  have h3 := (rOf_ok h).2.1
  obtain ⟨q1, q2⟩ := invM_eq (n := rOf s) (a := a) (y := a ^ (rOf s - 2).toNat % rOf s) (md_lt (by omega)) (hF s a h (by omega) ha)
  simp only [kSInv]
  rw [if_pos ⟨h, ha⟩, q1, if_pos q2]
  exact ⟨rfl, rfl⟩
theorem bi_1 {p : Prop} [Decidable p] (h : p) : bi p = 1 := if_pos h
theorem bi_0 {p : Prop} [Decidable p] (h : ¬ p) : bi p = 0 := if_neg h
theorem not_1 {x : Int} (h : x = 1) : (if x = 0 then (1 : Int) else 0) = 0 := by subst h; rfl
theorem not_0 {x : Int} (h : x = 0) : (if x = 0 then (1 : Int) else 0) = 1 := by subst h; rfl
theorem ne_0 {v x : Int} (h : v = b2i (cmpE .neq x 6)) (hx : x = 6) : v = 0 := by have := c_ne h; omega
theorem cn_1 {v : Int} {p : Prop} (h : (v = 1 ∧ p) ∨ (v = 0 ∧ ¬ p)) (hp : p) : v = 1 := h.elim (·.1) fun x => absurd hp x.2
theorem cn_0 {v : Int} {p : Prop} (h : (v = 1 ∧ p) ∨ (v = 0 ∧ ¬ p)) (hp : ¬ p) : v = 0 := h.elim (fun x => absurd x.2 hp) (·.1)
theorem nm_no {n x w : Int} (hn : n = 0) (hx : x = 2) : ((kNumber 0).sem [n, x, 0, w]).getD 0 0 = 1 := by
  show [if (0 : Int) = 0 then bi (n = 0 ∧ x = 2) else bi (n = w ∧ x = 0)].getD 0 0 = 1
  rw [if_pos rfl, bi_1 ⟨hn, hx⟩]; rfl
theorem nm_yes {n x w : Int} (hn : n = w) (hx : x = 0) : ((kNumber 0).sem [n, x, 1, w]).getD 0 0 = 1 := by
  simp only [kNumber]; rw [if_neg (by decide), bi_1 ⟨hn, hx⟩]; rfl

end Go.Sx

/- Plain numbers: Fermat's little law; how a great prime is known. -/
namespace Np
def isP (p : Nat) : Prop := 2 ≤ p ∧ ∀ d, d ∣ p → d = 1 ∨ d = p
theorem cop {p a : Nat} (hp : isP p) (h : ¬ p ∣ a) : Nat.Coprime p a := by
  rcases hp.2 _ (Nat.gcd_dvd_left p a) with h1 | h1
  · exact h1
  · exact absurd (h1 ▸ Nat.gcd_dvd_right p a) h
theorem euclid {p a b : Nat} (hp : isP p) (h : p ∣ a * b) : p ∣ a ∨ p ∣ b := by
  by_cases ha : p ∣ a
  · exact .inl ha
  · exact .inr ((cop hp ha).dvd_of_dvd_mul_left h)
/-! ### binomials -/
def ch : Nat → Nat → Nat
  | _, 0 => 1
  | 0, _ + 1 => 0
  | n + 1, k + 1 => ch n k + ch n (k + 1)
theorem ch_0 (n : Nat) : ch n 0 = 1 := by cases n <;> rfl
theorem ch_absorb : ∀ n k : Nat, (k + 1) * ch (n + 1) (k + 1) = (n + 1) * ch n k
  | 0, 0 => rfl
  | 0, k + 1 => by simp [ch]
  | n + 1, 0 => by
    have := ch_absorb n 0
    simp only [ch_0] at this
    show (0 + 1) * (ch (n + 1) 0 + ch (n + 1) (0 + 1)) = (n + 1 + 1) * ch (n + 1) 0
    simp only [ch_0]; omega
  | n + 1, k + 1 => by
    have h1 := ch_absorb n k
    have h2 := ch_absorb n (k + 1)
    show (k + 1 + 1) * (ch (n + 1) (k + 1) + ch (n + 1) (k + 1 + 1)) = (n + 1 + 1) * ch (n + 1) (k + 1)
    have h3 : ch (n + 1) (k + 1) = ch n k + ch n (k + 1) := rfl
    rw [Nat.mul_add, h2, Nat.add_mul (k + 1) 1, h1]
    have h4 : (n + 1) * ch n k + (n + 1) * ch n (k + 1) = (n + 1) * ch (n + 1) (k + 1) := by rw [← Nat.mul_add, h3]
    have h5 : (n + 1 + 1) * ch (n + 1) (k + 1) = (n + 1) * ch (n + 1) (k + 1) + ch (n + 1) (k + 1) := by rw [Nat.add_mul (n + 1) 1, Nat.one_mul]
    omega
theorem ch_gt : ∀ n k : Nat, n < k → ch n k = 0
  | 0, k + 1, _ => rfl
  | n + 1, k + 1, h => by
    show ch n k + ch n (k + 1) = 0
    rw [ch_gt n k (by omega), ch_gt n (k + 1) (by omega)]
theorem ch_self : ∀ n : Nat, ch n n = 1
  | 0 => rfl
  | n + 1 => by
    show ch n n + ch n (n + 1) = 1
    rw [ch_self n, ch_gt n (n + 1) (by omega)]
def bs (x n : Nat) : Nat → Nat
  | 0 => 0
  | m + 1 => bs x n m + ch n m * x ^ m
theorem bs_step (x n : Nat) : ∀ m, bs x (n + 1) (m + 1) = bs x n (m + 1) + x * bs x n m
  | 0 => by simp [bs, ch_0]
  | m + 1 => by
    have h := bs_step x n m
    have h3 : ch (n + 1) (m + 1) = ch n m + ch n (m + 1) := rfl
    show bs x (n + 1) (m + 1) + ch (n + 1) (m + 1) * x ^ (m + 1) = bs x n (m + 1) + ch n (m + 1) * x ^ (m + 1) + x * (bs x n m + ch n m * x ^ m)
    rw [h, h3, Nat.add_mul, Nat.mul_add, show x * (ch n m * x ^ m) = ch n m * x ^ (m + 1) by rw [Nat.pow_succ, Nat.mul_left_comm, Nat.mul_comm x]]
    omega
theorem binom (x : Nat) : ∀ n, (x + 1) ^ n = bs x n (n + 1)
  | 0 => by simp [bs, ch_0]
  | n + 1 => by
    have h : bs x n (n + 2) = bs x n (n + 1) := by show bs x n (n + 1) + ch n (n + 1) * x ^ (n + 1) = _; rw [ch_gt n (n + 1) (by omega)]; simp
    rw [bs_step, h, ← binom x n, Nat.pow_succ, Nat.mul_add, Nat.mul_one, Nat.mul_comm x]
    omega
theorem dvd_ch {p k : Nat} (hp : isP p) (h0 : 0 < k) (h1 : k < p) : p ∣ ch p k := by
  obtain ⟨n, rfl⟩ : ∃ n, p = n + 1 := ⟨p - 1, by have := hp.1; omega⟩
  obtain ⟨j, rfl⟩ : ∃ j, k = j + 1 := ⟨k - 1, by omega⟩
  have h := ch_absorb n j
  have : n + 1 ∣ (j + 1) * ch (n + 1) (j + 1) := ⟨ch n j, h⟩
  rcases euclid hp this with h2 | h2
  · exact absurd (Nat.le_of_dvd (by omega) h2) (by omega)
  · exact h2
theorem bs_mod {p : Nat} (hp : isP p) (x : Nat) : ∀ m, m + 1 ≤ p → bs x p (m + 1) % p = 1 % p
  | 0, _ => by simp [bs, ch_0]
  | m + 1, h => by
    show (bs x p (m + 1) + ch p (m + 1) * x ^ (m + 1)) % p = 1 % p
    obtain ⟨c, hc⟩ := dvd_ch hp (show 0 < m + 1 by omega) (by omega)
    rw [hc, Nat.mul_assoc, Nat.add_mul_mod_self_left]
    exact bs_mod hp x m (by omega)
theorem dream {p : Nat} (hp : isP p) (x : Nat) : (x + 1) ^ p % p = (x ^ p + 1) % p := by
  rw [binom]
  show (bs x p p + ch p p * x ^ p) % p = _
  rw [ch_self, Nat.one_mul]
  obtain ⟨n, hn⟩ : ∃ n, p = n + 1 := ⟨p - 1, by have := hp.1; omega⟩
  have h := bs_mod hp x n (by omega)
  rw [← hn] at h
  rw [Nat.add_comm, Nat.add_mod, h, ← Nat.add_mod]
theorem fermat0 {p : Nat} (hp : isP p) : ∀ x, x ^ p % p = x % p
  | 0 => by rw [Nat.zero_pow (by have := hp.1; omega)]
  | x + 1 => by rw [dream hp, Nat.add_mod, fermat0 hp x, ← Nat.add_mod]
theorem fermat {p x : Nat} (hp : isP p) (hx : ¬ p ∣ x) : x ^ (p - 1) % p = 1 := by
  have h2 := hp.1
  obtain ⟨n, hn⟩ : ∃ n, p = n + 1 := ⟨p - 1, by omega⟩
  have h := fermat0 hp x
  have h0 : 0 < x := Nat.pos_of_ne_zero fun h => hx (h ▸ Nat.dvd_zero p)
  have hle : 1 ≤ x ^ (p - 1) := Nat.pow_pos h0
  have hs : p ∣ x ^ p - x := Nat.dvd_of_mod_eq_zero (Nat.sub_mod_eq_zero_of_mod_eq h)
  have he : x ^ p - x = x * (x ^ (p - 1) - 1) := by
    rw [Nat.mul_sub, Nat.mul_one, show x * x ^ (p - 1) = x ^ p by rw [← Nat.pow_succ']; congr 1; omega]
  rw [he] at hs
  rcases euclid hp hs with h3 | h3
  · exact absurd h3 hx
  · obtain ⟨c, hc⟩ := h3
    rw [show x ^ (p - 1) = 1 + p * c by omega, Nat.add_mul_mod_self_left, Nat.mod_eq_of_lt (by omega)]
/-! ### prime factors -/
theorem small {n k : Nat} (h2 : 2 ≤ n) (hk : n < k * k) (h : ∀ d, d < k → 2 ≤ d → n % d ≠ 0) : isP n := by
  refine ⟨h2, fun d hd => ?_⟩
  obtain ⟨m, hm⟩ := hd
  by_cases h1 : d = 1
  · exact .inl h1
  by_cases h3 : m = 1
  · right; rw [hm, h3, Nat.mul_one]
  exfalso
  have hd0 : d ≠ 0 := fun h => by rw [h, Nat.zero_mul] at hm; omega
  have hm0 : m ≠ 0 := fun h => by rw [h, Nat.mul_zero] at hm; omega
  by_cases hdk : d < k
  · exact h d hdk (by omega) (by rw [hm]; exact Nat.mul_mod_right d m)
  · have hmk : m < k := by
      by_cases hc : m < k
      · exact hc
      · have := Nat.mul_le_mul (show k ≤ d by omega) (show k ≤ m by omega); omega
    exact h m hmk (by omega) (by rw [hm]; exact Nat.mul_mod_left d m)
theorem has_p : ∀ N n : Nat, n ≤ N → 2 ≤ n → ∃ q, isP q ∧ q ∣ n := by
  intro N
  induction N with
  | zero => intro n h1 h2; omega
  | succ N ih =>
    intro n h1 h2
    by_cases hp : isP n
    · exact ⟨n, hp, Nat.dvd_refl n⟩
    · have : ∃ d, d ∣ n ∧ d ≠ 1 ∧ d ≠ n := by
        apply Classical.byContradiction
        intro hc
        refine hp ⟨h2, fun d hd => ?_⟩
        by_cases h1 : d = 1
        · exact .inl h1
        · by_cases h3 : d = n
          · exact .inr h3
          · exact absurd ⟨d, hd, h1, h3⟩ hc
      obtain ⟨d, hd, d1, d2⟩ := this
      have hle := Nat.le_of_dvd (by omega) hd
      have hd0 : d ≠ 0 := fun h => by subst h; obtain ⟨c, hc⟩ := hd; omega
      obtain ⟨q, hq, hqd⟩ := ih d (by omega) (by omega)
      exact ⟨q, hq, Nat.dvd_trans hqd hd⟩
theorem least {n : Nat} (h2 : 2 ≤ n) (hp : ¬ isP n) : ∃ q, isP q ∧ q ∣ n ∧ q * q ≤ n := by
  have : ∃ d, d ∣ n ∧ d ≠ 1 ∧ d ≠ n := by
    apply Classical.byContradiction
    intro hc
    refine hp ⟨h2, fun d hd => ?_⟩
    by_cases h1 : d = 1
    · exact .inl h1
    · by_cases h3 : d = n
      · exact .inr h3
      · exact absurd ⟨d, hd, h1, h3⟩ hc
  obtain ⟨d, ⟨m, hm⟩, d1, d2⟩ := this
  have hd0 : d ≠ 0 := fun h => by rw [h, Nat.zero_mul] at hm; omega
  have hm0 : m ≠ 0 := fun h => by rw [h, Nat.mul_zero] at hm; omega
  have hm1 : m ≠ 1 := fun h => by rw [h, Nat.mul_one] at hm; exact d2 hm.symm
  have go : ∀ u v : Nat, u ≠ 0 → u ≠ 1 → u ≤ v → n = u * v → ∃ q, isP q ∧ q ∣ n ∧ q * q ≤ n := fun u v h0 h1 huv huvn => by
    obtain ⟨q, hq, hqu⟩ := has_p u u (Nat.le_refl u) (by omega)
    have hle := Nat.le_of_dvd (by omega) hqu
    exact ⟨q, hq, huvn ▸ Nat.dvd_trans hqu (Nat.dvd_mul_right u v), by rw [huvn]; exact Nat.mul_le_mul hle (by omega)⟩
  by_cases hc : d ≤ m
  · exact go d m hd0 d1 hc hm
  · exact go m d hm0 hm1 (by omega) (by rw [hm, Nat.mul_comm])
/-! ### powers -/
theorem pow_one_mod {b l : Nat} (hl : 2 ≤ l) (h : b % l = 1) (k : Nat) : b ^ k % l = 1 := by
  rw [Nat.pow_mod, h, Nat.one_pow, Nat.mod_eq_of_lt (by omega)]
theorem pow_gcd {a l : Nat} (hl : 2 ≤ l) (m n : Nat) : a ^ m % l = 1 → a ^ n % l = 1 → a ^ (Nat.gcd m n) % l = 1 := by
  induction m, n using Nat.gcd.induction with
  | H0 n => intro _ h; rwa [Nat.gcd_zero_left]
  | H1 m n hm ih =>
    intro h1 h2
    rw [Nat.gcd_rec]
    refine ih ?_ h1
    have h3 := Nat.div_add_mod n m
    have h4 : a ^ n % l = a ^ (n % m) % l := by
      conv => lhs; rw [← h3, Nat.pow_add, Nat.pow_mul, Nat.mul_mod, pow_one_mod hl h1, Nat.one_mul, Nat.mod_mod]
    rw [← h4]; exact h2
theorem dpp {q d e : Nat} (hq : isP q) (h : d ∣ q ^ (e + 1)) : d = q ^ (e + 1) ∨ d ∣ q ^ e := by
  obtain ⟨m, hm⟩ := h
  have hq0 : 0 < q := by have := hq.1; omega
  by_cases hqm : q ∣ m
  · right
    obtain ⟨c, hc⟩ := hqm
    refine ⟨c, ?_⟩
    have : q * q ^ e = q * (d * c) := by rw [← Nat.pow_succ', hm, hc, Nat.mul_left_comm]
    exact Nat.eq_of_mul_eq_mul_left hq0 this
  · left
    have h1 : Nat.Coprime (q ^ (e + 1)) m := Nat.Coprime.pow_left _ (cop hq hqm)
    have h2 : m ∣ q ^ (e + 1) := ⟨d, by rw [hm, Nat.mul_comm]⟩
    have h3 := Nat.Coprime.eq_one_of_dvd h1.symm h2
    rw [h3, Nat.mul_one] at hm
    exact hm.symm
/-- a prime's power that must go into every prime factor less one -/
theorem pock {n l q a e c : Nat} (hl : isP l) (hln : l ∣ n) (hq : isP q) (hn : n - 1 = q ^ (e + 1) * c) (h1 : a ^ (n - 1) % n = 1) (hg : Nat.gcd (a ^ (q ^ e * c) % n + (n - 1)) n = 1) (hn2 : 2 ≤ n) : q ^ (e + 1) ∣ l - 1 := by
  have hl2 := hl.1
  have m1 : a ^ (n - 1) % l = 1 := by
    rw [← Nat.mod_mod_of_dvd _ hln, h1, Nat.mod_eq_of_lt (by omega)]
  have hn0 : n - 1 ≠ 0 := by omega
  have hla : ¬ l ∣ a := fun h => by
    have : l ∣ a ^ (n - 1) := Nat.dvd_trans h ⟨a ^ (n - 1 - 1), by rw [← Nat.pow_succ']; congr 1; omega⟩
    rw [Nat.mod_eq_zero_of_dvd this] at m1; cases m1
  have f1 : (a ^ c) ^ (l - 1) % l = 1 := by
    rw [← Nat.pow_mul, Nat.mul_comm, Nat.pow_mul]; exact pow_one_mod hl2 (fermat hl hla) c
  have f2 : (a ^ c) ^ (q ^ (e + 1)) % l = 1 := by rw [← Nat.pow_mul, Nat.mul_comm, ← hn]; exact m1
  have f3 := pow_gcd hl2 _ _ f2 f1
  rcases dpp hq (Nat.gcd_dvd_left (q ^ (e + 1)) (l - 1)) with h | h
  · rw [← h]; exact Nat.gcd_dvd_right _ _
  · exfalso
    obtain ⟨k, hk⟩ := h
    have f4 : (a ^ c) ^ (q ^ e) % l = 1 := by rw [hk, Nat.pow_mul]; exact pow_one_mod hl2 f3 k
    rw [← Nat.pow_mul, Nat.mul_comm] at f4
    have f5 : a ^ (q ^ e * c) % n % l = 1 := by rw [Nat.mod_mod_of_dvd _ hln]; exact f4
    obtain ⟨t, ht⟩ := hln
    have f6 : l ∣ a ^ (q ^ e * c) % n + (n - 1) := by
      have h7 := Nat.div_add_mod (a ^ (q ^ e * c) % n) l
      rw [f5] at h7
      have ht0 : t ≠ 0 := fun h => by rw [h, Nat.mul_zero] at ht; omega
      refine ⟨a ^ (q ^ e * c) % n / l + t, ?_⟩
      rw [Nat.mul_add, ← ht]
      omega
    have : l ∣ 1 := by rw [← hg]; exact Nat.dvd_gcd f6 ⟨t, ht⟩
    have := Nat.le_of_dvd (by decide) this
    omega
theorem big {n F : Nat} (hn : 2 ≤ n) (hF : n < (F + 1) * (F + 1)) (h : ∀ l, isP l → l ∣ n → F ∣ l - 1) : isP n := by
  apply Classical.byContradiction
  intro hp
  obtain ⟨q, hq, hqn, hqq⟩ := least hn hp
  have h1 := hq.1
  have h2 := Nat.le_of_dvd (by omega) (h q hq hqn)
  have := Nat.mul_le_mul (show F + 1 ≤ q by omega) (show F + 1 ≤ q by omega)
  omega
/-! ### powers, reckoned -/
def pm (n : Nat) : Nat → Nat → Nat → Nat
  | 0, _, _ => 1 % n
  | f + 1, a, e => if e = 0 then 1 % n else if e % 2 = 1 then a * pm n f (a * a % n) (e / 2) % n else pm n f (a * a % n) (e / 2)
theorem pm_ok (n : Nat) : ∀ f a e, e < 2 ^ f → pm n f a e = a ^ e % n
  | 0, a, e, h => by have : e = 0 := by simpa using h
                     subst this; rfl
  | f + 1, a, e, h => by
    unfold pm
    by_cases h0 : e = 0
    · subst h0; rfl
    · rw [if_neg h0, pm_ok n f _ _ (by rw [Nat.pow_succ] at h; omega)]
      have hd := Nat.div_add_mod e 2
      have h2 : (a * a % n) ^ (e / 2) % n = a ^ (2 * (e / 2)) % n := by
        rw [← Nat.pow_mod, Nat.pow_mul, Nat.pow_two]
      by_cases h1 : e % 2 = 1
      · rw [if_pos h1, h2, Nat.mul_mod_mod, Nat.mul_comm, ← Nat.pow_succ]
        congr 2; omega
      · rw [if_neg h1, h2]
        congr 2; omega
theorem pock' {n l q a e c : Nat} (f : Nat) (hf : n ≤ 2 ^ f) (hl : isP l) (hln : l ∣ n) (hq : isP q) (hn : n - 1 = q ^ (e + 1) * c) (h1 : pm n f a (n - 1) = 1) (hg : Nat.gcd (pm n f a (q ^ e * c) + (n - 1)) n = 1) (hn2 : 2 ≤ n) : q ^ (e + 1) ∣ l - 1 := by
  have hlt : q ^ e * c ≤ n - 1 := by
    rw [hn, Nat.pow_succ, Nat.mul_right_comm]
    exact Nat.le_mul_of_pos_right _ (by have := hq.1; omega)
  rw [pm_ok n f a (n - 1) (by omega)] at h1
  rw [pm_ok n f a _ (by omega)] at hg
  exact pock hl hln hq hn h1 hg hn2
theorem small' {n : Nat} (k : Nat) (h2 : 2 ≤ n) (hk : n < k * k) (h : (List.range k).all (fun d => decide (d < 2) || n % d != 0) = true) : isP n :=
  small h2 hk fun d hd hd2 => by
    have := List.all_eq_true.1 h d (List.mem_range.2 hd)
    simp only [Bool.or_eq_true, decide_eq_true_eq, bne_iff_ne] at this
    omega
theorem p_little : isP 65521 := small' 256 (by decide) (by decide) (by decide +kernel)
theorem p2 : isP 2 := small' 2 (by decide) (by decide) (by decide)
theorem p3 : isP 3 := small' 2 (by decide) (by decide) (by decide)
theorem p11 : isP 11 := small' 4 (by decide) (by decide) (by decide)
theorem p13 : isP 13 := small' 4 (by decide) (by decide) (by decide)
theorem p19 : isP 19 := small' 5 (by decide) (by decide) (by decide)
theorem p10177 : isP 10177 := small' 101 (by decide) (by decide) (by decide +kernel)
theorem p125527 : isP 125527 := small' 355 (by decide) (by decide) (by decide +kernel)
theorem p859267 : isP 859267 := small' 927 (by decide) (by decide) (by decide +kernel)
theorem p906349 : isP 906349 := small' 953 (by decide) (by decide) (by decide +kernel)
theorem p2192917 : isP 2192917 := small' 1481 (by decide) (by decide) (by decide +kernel)
def nM : Nat := 72057594037927889
theorem p_middle : isP nM := by
  refine big (F := 2 ^ 4 * 13 ^ 1 * 2192917 ^ 1) (by decide +kernel) (by decide +kernel) fun l hl hln => ?_
  have a1 := pock' (n := nM) (l := l) (q := 2) (a := 3) (e := 3) (c := (nM - 1) / 2 ^ 4) 60 (by decide +kernel) hl hln p2 (by decide +kernel) (by decide +kernel) (by decide +kernel) (by decide +kernel)
  have a2 := pock' (n := nM) (l := l) (q := 13) (a := 3) (e := 0) (c := (nM - 1) / 13) 60 (by decide +kernel) hl hln p13 (by decide +kernel) (by decide +kernel) (by decide +kernel) (by decide +kernel)
  have a3 := pock' (n := nM) (l := l) (q := 2192917) (a := 3) (e := 0) (c := (nM - 1) / 2192917) 60 (by decide +kernel) hl hln p2192917 (by decide +kernel) (by decide +kernel) (by decide +kernel) (by decide +kernel)
  exact Nat.Coprime.mul_dvd_of_dvd_of_dvd (by decide +kernel) (Nat.Coprime.mul_dvd_of_dvd_of_dvd (by decide +kernel) a1 a2) a3
def nG : Nat := 52435875175126190479447740508185965837690552500527637822603658699938581184513
theorem p_great : isP nG := by
  refine big (F := 2 ^ 32 * 3 ^ 1 * 11 ^ 1 * 19 ^ 1 * 10177 ^ 1 * 125527 ^ 1 * 859267 ^ 1 * 906349 ^ 2) (by decide +kernel) (by decide +kernel) fun l hl hln => ?_
  have a1 := pock' (n := nG) (l := l) (q := 2) (a := 7) (e := 31) (c := (nG - 1) / 2 ^ 32) 256 (by decide +kernel) hl hln p2 (by decide +kernel) (by decide +kernel) (by decide +kernel) (by decide +kernel)
  have a2 := pock' (n := nG) (l := l) (q := 3) (a := 7) (e := 0) (c := (nG - 1) / 3) 256 (by decide +kernel) hl hln p3 (by decide +kernel) (by decide +kernel) (by decide +kernel) (by decide +kernel)
  have a3 := pock' (n := nG) (l := l) (q := 11) (a := 7) (e := 0) (c := (nG - 1) / 11) 256 (by decide +kernel) hl hln p11 (by decide +kernel) (by decide +kernel) (by decide +kernel) (by decide +kernel)
  have a4 := pock' (n := nG) (l := l) (q := 19) (a := 7) (e := 0) (c := (nG - 1) / 19) 256 (by decide +kernel) hl hln p19 (by decide +kernel) (by decide +kernel) (by decide +kernel) (by decide +kernel)
  have a5 := pock' (n := nG) (l := l) (q := 10177) (a := 7) (e := 0) (c := (nG - 1) / 10177) 256 (by decide +kernel) hl hln p10177 (by decide +kernel) (by decide +kernel) (by decide +kernel) (by decide +kernel)
  have a6 := pock' (n := nG) (l := l) (q := 125527) (a := 7) (e := 0) (c := (nG - 1) / 125527) 256 (by decide +kernel) hl hln p125527 (by decide +kernel) (by decide +kernel) (by decide +kernel) (by decide +kernel)
  have a7 := pock' (n := nG) (l := l) (q := 859267) (a := 7) (e := 0) (c := (nG - 1) / 859267) 256 (by decide +kernel) hl hln p859267 (by decide +kernel) (by decide +kernel) (by decide +kernel) (by decide +kernel)
  have a8 := pock' (n := nG) (l := l) (q := 906349) (a := 7) (e := 1) (c := (nG - 1) / 906349 ^ 2) 256 (by decide +kernel) hl hln p906349 (by decide +kernel) (by decide +kernel) (by decide +kernel) (by decide +kernel)
  have c2 := Nat.Coprime.mul_dvd_of_dvd_of_dvd (by decide +kernel) a1 a2
  have c3 := Nat.Coprime.mul_dvd_of_dvd_of_dvd (by decide +kernel) c2 a3
  have c4 := Nat.Coprime.mul_dvd_of_dvd_of_dvd (by decide +kernel) c3 a4
  have c5 := Nat.Coprime.mul_dvd_of_dvd_of_dvd (by decide +kernel) c4 a5
  have c6 := Nat.Coprime.mul_dvd_of_dvd_of_dvd (by decide +kernel) c5 a6
  have c7 := Nat.Coprime.mul_dvd_of_dvd_of_dvd (by decide +kernel) c6 a7
  exact Nat.Coprime.mul_dvd_of_dvd_of_dvd (by decide +kernel) c7 a8
end Np

/- What is left of a number to the order less two is its inverse. -/
namespace Go.Sx
open Go Go.RowKit
theorem fermat_int {p : Nat} (hp : Np.isP p) {a : Int} (h0 : 0 < a) (h1 : a < p) : a * (a ^ ((p : Int) - 2).toNat % p) % p = 1 := by
  obtain ⟨x, rfl⟩ := Int.eq_ofNat_of_zero_le (Int.le_of_lt h0)
  have h2 := hp.1
  have hx : ¬ p ∣ x := fun h => by have := Nat.le_of_dvd (by omega) h; omega
  have hf := Np.fermat hp hx
  rw [show ((p : Int) - 2).toNat = p - 2 by omega]
  have e : x * (x ^ (p - 2) % p) % p = 1 := by rw [Nat.mul_mod_mod, ← Nat.pow_succ', show (p - 2).succ = p - 1 by omega]; exact hf
  have : ((x * (x ^ (p - 2) % p) % p : Nat) : Int) = 1 := by rw [e]; rfl
  rw [← this, Int.natCast_emod, Int.natCast_mul, Int.natCast_emod, Int.natCast_pow]
theorem fermatAll : FermatAll := by
  intro s a hs h0 h1
  have hcase : s = 0 ∨ s = 1 ∨ s = 2 := by unfold isS at hs; omega
  rcases hcase with h | h | h <;> subst h
  · exact fermat_int Np.p_great h0 h1
  · exact fermat_int Np.p_little h0 h1
  · exact fermat_int Np.p_middle h0 h1
end Go.Sx

/- Laws: whether a key of the little suites may be; the chapter's awake. -/
namespace Go.Sx
open Go Go.RowKit
set_option maxRecDepth 100000
set_option linter.unusedSimpArgs false
set_option linter.unusedVariables false
abbrev iKey : Sh := .agg [.int .i64, .num, .num, .bool, .int .u64, .int .u64, .bool]
def pL (s : Int) : Int := if s = 1 then 786251 else 1152921504606846223
def kKeyL (f : FuncId) : K := { fn := f, ext := false, ins := [iKey], outs := [oB], pre := fun | [s, _, _, _, _, _, _] => s = 1 ∨ s = 2 | _ => False, sem := fun | [s, px, py, pz, x, y, z] => [bi ((px = 0 ∧ py = 0 ∧ pz = 0) ∧ inP (pL s) (rOf s) x y z)] | _ => [] }
/-- a contract of a call that never comes -/
def kNever (f : FuncId) (ins : List Sh) (outs : List Oh) : K := { fn := f, ext := false, ins := ins, outs := outs, pre := fun _ => False, sem := fun _ => [] }
theorem ok_never (P : Program) (f : FuncId) (ins : List Sh) (outs : List Oh) : (kNever f ins outs).ok P := fun _ _ _ _ hpre => hpre.elim
def kAwake (f : FuncId) : K := { fn := f, ext := false, ins := [], outs := [oB], pre := fun _ => True, sem := fun _ => [1] }
theorem c_p1 {e : Nat → Int} {v : Int} {i j k : Nat} (h : v = (D.eqs [((.limb i 0), (.lit 0)), ((.limb i 1), (.lit 0)), ((.limb i 2), (.lit 0)), ((.limb i 3), (.lit 0)), ((.limb i 4), (.lit 0)), ((.limb i 5), (.lit 0)), ((.limb j 0), (.lit 0)), ((.limb j 1), (.lit 0)), ((.limb j 2), (.lit 0)), ((.limb j 3), (.lit 0)), ((.limb j 4), (.lit 0)), ((.limb j 5), (.lit 0)), ((.var k), (.lit 0))]).ev [] e)
    (hi : 0 ≤ e i ∧ e i < N384) (hj : 0 ≤ e j ∧ e j < N384) : (v = 1 ∧ e i = 0 ∧ e j = 0 ∧ e k = 0) ∨ (v = 0 ∧ ¬ (e i = 0 ∧ e j = 0 ∧ e k = 0)) := by
  simp only [D.ev, List.all_cons, List.all_nil, ev_limb, ev_lit, ev_var, Bool.and_true, b2i_bi, Bool.and_eq_true, beq_iff_eq] at h
  by_cases hc : e i = 0 ∧ e j = 0 ∧ e k = 0
  · left; rw [hc.1, hc.2.1, hc.2.2] at h; simp [lim] at h; exact ⟨h, hc⟩
  · right
    rw [if_neg (fun hh => hc (by have := lim_eq hi; have := lim_eq hj; omega))] at h
    exact ⟨h, hc⟩
theorem bi_and1 {p q : Prop} [Decidable p] [Decidable q] (h : p) : bi (p ∧ q) = bi q := by
  unfold bi
  by_cases hq : q
  · rw [if_pos ⟨h, hq⟩, if_pos hq]
  · rw [if_neg (fun hh => hq hh.2), if_neg hq]
theorem bi_and0 {p q : Prop} [Decidable p] [Decidable q] (h : ¬ p) : bi (p ∧ q) = 0 := by
  unfold bi; rw [if_neg (fun hh => h hh.1)]
def tKeyL : Tree := (.lett 7 .bit (.cmp .eql (.var 0) (.lit 0))
(.split 7
 (.lett 8 .bit (.eqs [((.var 4), (.lit 0)), ((.var 5), (.lit 0)), ((.var 6), (.lit 0))])
 (.split 8
  (.req 1 [(.var 1), (.var 2), (.var 3)]
  (.lett 9 .bit (.app 1 0 [(.var 1), (.var 2), (.var 3)])
  (.ret [(.var 9)])))
  (.ret [(.lit 0)])))
 (.lett 8 .bit (.cmp .eql (.var 0) (.lit 1))
 (.split 8
  (.lett 9 .bit (.eqs [((.limb 1 0), (.lit 0)), ((.limb 1 1), (.lit 0)), ((.limb 1 2), (.lit 0)), ((.limb 1 3), (.lit 0)), ((.limb 1 4), (.lit 0)), ((.limb 1 5), (.lit 0)), ((.limb 2 0), (.lit 0)), ((.limb 2 1), (.lit 0)), ((.limb 2 2), (.lit 0)), ((.limb 2 3), (.lit 0)), ((.limb 2 4), (.lit 0)), ((.limb 2 5), (.lit 0)), ((.var 3), (.lit 0))])
  (.split 9
   (.lett 10 .bit (.cmp .eql (.var 0) (.lit 1))
   (.split 10
    (.req 0 [(.lit 786251), (.lit 65521), (.lit 12), (.lit 9723), (.lit 164643), (.lit 0), (.var 4), (.var 5), (.var 6)]
    (.lett 11 .bit (.app 0 0 [(.lit 786251), (.lit 65521), (.lit 12), (.lit 9723), (.lit 164643), (.lit 0), (.var 4), (.var 5), (.var 6)])
    (.ret [(.var 11)])))
    (.lett 11 .bit (.cmp .eql (.var 0) (.lit 2))
    (.split 11
     (.req 0 [(.lit 1152921504606846223), (.lit 72057594037927889), (.lit 16), (.lit 613740293506734924), (.lit 666621259561003659), (.lit 0), (.var 4), (.var 5), (.var 6)]
     (.lett 12 .bit (.app 0 0 [(.lit 1152921504606846223), (.lit 72057594037927889), (.lit 16), (.lit 613740293506734924), (.lit 666621259561003659), (.lit 0), (.var 4), (.var 5), (.var 6)])
     (.ret [(.var 12)])))
     (.ret [(.lit 0)])))))
   (.ret [(.lit 0)])))
  (.lett 9 .bit (.cmp .eql (.var 0) (.lit 2))
  (.split 9
   (.lett 10 .bit (.eqs [((.limb 1 0), (.lit 0)), ((.limb 1 1), (.lit 0)), ((.limb 1 2), (.lit 0)), ((.limb 1 3), (.lit 0)), ((.limb 1 4), (.lit 0)), ((.limb 1 5), (.lit 0)), ((.limb 2 0), (.lit 0)), ((.limb 2 1), (.lit 0)), ((.limb 2 2), (.lit 0)), ((.limb 2 3), (.lit 0)), ((.limb 2 4), (.lit 0)), ((.limb 2 5), (.lit 0)), ((.var 3), (.lit 0))])
   (.split 10
    (.lett 11 .bit (.cmp .eql (.var 0) (.lit 1))
    (.split 11
     (.req 0 [(.lit 786251), (.lit 65521), (.lit 12), (.lit 9723), (.lit 164643), (.lit 0), (.var 4), (.var 5), (.var 6)]
     (.lett 12 .bit (.app 0 0 [(.lit 786251), (.lit 65521), (.lit 12), (.lit 9723), (.lit 164643), (.lit 0), (.var 4), (.var 5), (.var 6)])
     (.ret [(.var 12)])))
     (.lett 12 .bit (.cmp .eql (.var 0) (.lit 2))
     (.split 12
      (.req 0 [(.lit 1152921504606846223), (.lit 72057594037927889), (.lit 16), (.lit 613740293506734924), (.lit 666621259561003659), (.lit 0), (.var 4), (.var 5), (.var 6)]
      (.lett 13 .bit (.app 0 0 [(.lit 1152921504606846223), (.lit 72057594037927889), (.lit 16), (.lit 613740293506734924), (.lit 666621259561003659), (.lit 0), (.var 4), (.var 5), (.var 6)])
      (.ret [(.var 13)])))
      (.ret [(.lit 0)])))))
    (.ret [(.lit 0)])))
   (.ret [(.lit 0)])))))))
theorem law_keyL (f1 f2 f : FuncId) (i2 : List Sh) (o2 : List Oh) (e : Nat → Int) (hk : kkHas [.int .i64, .num, .num, .bit, .int .u64, .int .u64, .bit] [e 0, e 1, e 2, e 3, e 4, e 5, e 6]) (hp : (kKeyL f).pre [e 0, e 1, e 2, e 3, e 4, e 5, e 6]) : tKeyL.says [kLIn f1, kNever f2 i2 o2] ⟨fun ys => ys = (kKeyL f).sem [e 0, e 1, e 2, e 3, e 4, e 5, e 6], []⟩ e := by
  have hp : e 0 = 1 ∨ e 0 = 2 := hp
  obtain ⟨_, u1, u2, _⟩ := hk
  simp only [KK.has] at u1 u2
  have ok1 : pOk 786251 := ⟨by decide, by decide⟩
  have ok2 : pOk 1152921504606846223 := ⟨by decide, by decide⟩
  simp only [tKeyL, kLIn, kNever, kKeyL, Tree.says, List.getElem?_cons_zero, List.getElem?_cons_succ, List.map, ev_lit, ev_var, ev_limb, D.ev, List.getD_cons_zero, List.getD_cons_succ]
  intro a7 _
  have b7 := c_eq a7
  refine ⟨fun h => by omega, fun h => ?_⟩
  intro a8 _
  have b8 := c_eq a8
  refine ⟨fun h8 => ?_, fun h8 => ?_⟩
  · have e0 : e 0 = 1 := by omega
    intro a9 _
    have b9 := c_p1 a9 u1 u2
    refine ⟨fun h9 => ?_, fun h9 => ?_⟩
    · rw [bi_and1 (by omega)]
      intro a10 _
      have b10 := c_eq a10
      refine ⟨fun h10 => ⟨ok1, fun a11 _ => ?_⟩, fun h10 => by omega⟩
      rw [a11, e0]; rfl
    · rw [bi_and0 (by omega)]
  · have e0 : e 0 = 2 := by omega
    intro a9 _
    have b9 := c_eq a9
    refine ⟨fun h9 => ?_, fun h9 => by omega⟩
    intro a10 _
    have b10 := c_p1 a10 u1 u2
    refine ⟨fun h10 => ?_, fun h10 => ?_⟩
    · rw [bi_and1 (by omega)]
      intro a11 _
      have b11 := c_eq a11
      refine ⟨fun h11 => by omega, fun h11 => ?_⟩
      intro a12 _
      have b12 := c_eq a12
      refine ⟨fun h12 => ⟨ok2, fun a13 _ => ?_⟩, fun h12 => by omega⟩
      rw [a13, e0]; rfl
    · rw [bi_and0 (by omega)]
theorem gen_in : inP 786251 65521 9723 164643 0 := by decide +kernel
theorem gen_in' : inP (pL 1) (rOf 1) 9723 164643 0 := by
  rw [show pL 1 = 786251 from rfl, show rOf 1 = 65521 from rfl]; exact gen_in
theorem key_one : [bi (((0 : Int) = 0 ∧ (0 : Int) = 0 ∧ (0 : Int) = 0) ∧ inP (pL 1) (rOf 1) 9723 164643 0)].getD 0 0 = 1 := by
  rw [List.getD_cons_zero]
  exact bi_1 ⟨⟨rfl, rfl, rfl⟩, gen_in'⟩
theorem inv_two : (kSInv 0).sem [1, 2] = [32761, 0] := by
  obtain ⟨q1, q2⟩ := invM_eq (n := 65521) (a := 2) (y := 32761) (by decide) (by decide)
  simp only [kSInv]
  rw [if_pos (show isS 1 ∧ (2 : Int) < rOf 1 by decide), show rOf 1 = 65521 from rfl, q1, if_pos q2]
def tAwake : Tree := (.req 0 [(.lit 1)]
(.lett 0 .num (.app 0 0 [(.lit 1)])
(.lett 1 (.int .i64) (.app 0 1 [(.lit 1)])
(.req 4 [(.lit 65520)]
(.lett 2 .num (.app 4 0 [(.lit 65520)])
(.req 4 [(.lit 2)]
(.lett 3 .num (.app 4 0 [(.lit 2)])
(.req 1 [(.lit 1), (.var 2), (.var 3)]
(.lett 4 .num (.app 1 0 [(.lit 1), (.var 2), (.var 3)])
(.lett 5 (.int .i64) (.app 1 1 [(.lit 1), (.var 2), (.var 3)])
(.req 4 [(.lit 2)]
(.lett 6 .num (.app 4 0 [(.lit 2)])
(.req 2 [(.lit 1), (.var 6)]
(.lett 7 .num (.app 2 0 [(.lit 1), (.var 6)])
(.lett 8 (.int .i64) (.app 2 1 [(.lit 1), (.var 6)])
(.req 4 [(.lit 65521)]
(.lett 57 .num (.app 4 0 [(.lit 65521)])
(.lett 105 .bit (.eqs [((.limb 0 0), (.limb 57 0)), ((.limb 0 1), (.limb 57 1)), ((.limb 0 2), (.limb 57 2)), ((.limb 0 3), (.limb 57 3)), ((.limb 0 4), (.limb 57 4)), ((.limb 0 5), (.limb 57 5))])
(.split 105
 (.lett 249 .bit (.cmp .eql (.var 1) (.lit 0))
 (.split 249
  (.req 4 [(.lit 1)]
  (.lett 441 .num (.app 4 0 [(.lit 1)])
  (.lett 489 .bit (.eqs [((.limb 4 0), (.limb 441 0)), ((.limb 4 1), (.limb 441 1)), ((.limb 4 2), (.limb 441 2)), ((.limb 4 3), (.limb 441 3)), ((.limb 4 4), (.limb 441 4)), ((.limb 4 5), (.limb 441 5))])
  (.split 489
   (.lett 681 .bit (.cmp .eql (.var 5) (.lit 0))
   (.split 681
    (.req 4 [(.lit 32761)]
    (.lett 873 .num (.app 4 0 [(.lit 32761)])
    (.lett 921 .bit (.eqs [((.limb 7 0), (.limb 873 0)), ((.limb 7 1), (.limb 873 1)), ((.limb 7 2), (.limb 873 2)), ((.limb 7 3), (.limb 873 3)), ((.limb 7 4), (.limb 873 4)), ((.limb 7 5), (.limb 873 5))])
    (.split 921
     (.lett 1113 .bit (.cmp .eql (.var 8) (.lit 0))
     (.split 1113
      (.req 3 [(.lit 1), (.lit 0), (.lit 0), (.lit 0), (.lit 9723), (.lit 164643), (.lit 0)]
      (.lett 1305 .bit (.app 3 0 [(.lit 1), (.lit 0), (.lit 0), (.lit 0), (.lit 9723), (.lit 164643), (.lit 0)])
      (.split 1305
       (.ret [(.lit 1)])
       (.ret [(.lit 0)]))))
      (.ret [(.lit 0)])))
     (.ret [(.lit 0)])))))
    (.ret [(.lit 0)])))
   (.ret [(.lit 0)])))))
  (.ret [(.lit 0)])))
 (.ret [(.lit 0)]))))))))))))))))))))
theorem law_awake (f1 f2 f3 f4 f5 f : FuncId) (e : Nat → Int) : tAwake.says [kSOrder f1, kS2 f2 (· + ·), kSInv f3, kKeyL f4, kOf f5] ⟨fun ys => ys = [1], []⟩ e := by
  unfold tAwake
  refine ⟨trivial, fun a0 k0 a1 _ => ⟨trivial, fun a2 _ => ⟨trivial, fun a3 _ => ⟨trivial, fun a4 k4 a5 _ => ⟨trivial, fun a6 _ => ⟨trivial, fun a7 k7 a8 _ => ⟨trivial, fun a57 k57 a105 _ => ?_⟩⟩⟩⟩⟩⟩⟩
  have v0 : e 0 = 65521 := a0
  have v1 : e 1 = 0 := a1
  have v2 : e 2 = 65520 := a2
  have v3 : e 3 = 2 := a3
  have s4 : sem2 (· + ·) [1, e 2, e 3] = [1, 0] := by rw [v2, v3]; decide
  have v4 : e 4 = 1 := by
    have : e 4 = (sem2 (· + ·) [1, e 2, e 3]).getD 0 0 := a4
    rw [this, s4]; rfl
  have v5 : e 5 = 0 := by
    have : e 5 = (sem2 (· + ·) [1, e 2, e 3]).getD 1 0 := a5
    rw [this, s4]; rfl
  have v6 : e 6 = 2 := a6
  have s7 : (kSInv f3).sem [1, e 6] = [32761, 0] := by rw [v6]; exact inv_two
  have v7 : e 7 = 32761 := by
    have : e 7 = ((kSInv f3).sem [1, e 6]).getD 0 0 := a7
    rw [this, s7]; rfl
  have v8 : e 8 = 0 := by
    have : e 8 = ((kSInv f3).sem [1, e 6]).getD 1 0 := a8
    rw [this, s7]; rfl
  have v57 : e 57 = 65521 := a57
  have w105 := cn_1 (c_num a105 k0 k57) (by rw [v0, v57])
  refine ⟨fun _ => ?_, fun h => by omega⟩
  intro a249 _
  have w249 := c_eq a249
  simp only [ev_var, ev_lit] at w249
  refine ⟨fun _ => ?_, fun h => by omega⟩
  refine ⟨trivial, fun a441 k441 a489 _ => ?_⟩
  have v441 : e 441 = 1 := a441
  have w489 := cn_1 (c_num a489 k4 k441) (by rw [v4, v441])
  refine ⟨fun _ => ?_, fun h => by omega⟩
  intro a681 _
  have w681 := c_eq a681
  simp only [ev_var, ev_lit] at w681
  refine ⟨fun _ => ?_, fun h => by omega⟩
  refine ⟨trivial, fun a873 k873 a921 _ => ?_⟩
  have v873 : e 873 = 32761 := a873
  have w921 := cn_1 (c_num a921 k7 k873) (by rw [v7, v873])
  refine ⟨fun _ => ?_, fun h => by omega⟩
  intro a1113 _
  have w1113 := c_eq a1113
  simp only [ev_var, ev_lit] at w1113
  refine ⟨fun _ => ?_, fun h => by omega⟩
  refine ⟨.inl rfl, fun a1305 _ => ?_⟩
  have w1 : e 1305 = 1 := a1305.trans key_one
  refine ⟨fun _ => rfl, fun h => by omega⟩
end Go.Sx

/- Laws: words.Divide. -/
namespace Go.Sx
open Go Go.RowKit
set_option maxRecDepth 100000
set_option linter.unusedSimpArgs false
set_option linter.unusedVariables false
theorem or_c {v s c l : Int} (h : v = binE .or .u64 s c) (hs : s = binE .shl .u64 l 1) (hc : c = 0 ∨ c = 1) (ul : U l) : v = 2 * l % 18446744073709551616 + c := by
  have h1 := shl_d 2 hs rfl
  unfold U at *
  simp only [wr] at h1
  rw [or_dis (k := 1) (q := l % 9223372036854775808) h (by omega) (by omega) (by omega) (by omega)]
  omega
theorem dbl_mod {x c o0 o1 o2 o3 o4 o5 : Int} (hx : 0 ≤ x ∧ x < N384) (h0 : o0 = 2 * lim x 0 % 18446744073709551616 + c) (h1 : o1 = 2 * lim x 1 % 18446744073709551616 + lim x 0 / 9223372036854775808)
    (h2 : o2 = 2 * lim x 2 % 18446744073709551616 + lim x 1 / 9223372036854775808) (h3 : o3 = 2 * lim x 3 % 18446744073709551616 + lim x 2 / 9223372036854775808) (h4 : o4 = 2 * lim x 4 % 18446744073709551616 + lim x 3 / 9223372036854775808)
    (h5 : o5 = 2 * lim x 5 % 18446744073709551616 + lim x 4 / 9223372036854775808) : joinE [o0, o1, o2, o3, o4, o5] = 2 * x + c - lim x 5 / 9223372036854775808 * N384 := by
  have ex := lim_eq hx
  have l0 := lim_lt x 0
  have l1 := lim_lt x 1
  have l2 := lim_lt x 2
  have l3 := lim_lt x 3
  have l4 := lim_lt x 4
  have l5 := lim_lt x 5
  rw [joinE6]
  generalize lim x 0 = x0 at *
  generalize lim x 1 = x1 at *
  generalize lim x 2 = x2 at *
  generalize lim x 3 = x3 at *
  generalize lim x 4 = x4 at *
  generalize lim x 5 = x5 at *
  unfold N384
  omega
theorem quo64 {i v : Int} (hi : 0 ≤ i ∧ i < 384) (h : v = binE .quo .i64 i 64) : v = i / 64 := by
  rw [h]; simp only [binE, wr]
  rw [Int.tdiv_eq_ediv_of_nonneg hi.1]
  omega
theorem rem64 {i v : Int} (hi : 0 ≤ i ∧ i < 384) (h : v = binE .rem .i64 i 64) : v = i % 64 := by
  rw [h]; simp only [binE]
  rw [Int.tmod_eq_emod_of_nonneg hi.1]
theorem shl_one {v r : Int} (hr : 0 ≤ r ∧ r < 64) (h : v = binE .shl .u64 1 r) : v = 2 ^ r.toNat := by
  rw [h]; simp only [binE, wr]
  rw [show min r.toNat IntKind.u64.bits = r.toNat by show min r.toNat 64 = _; omega, Int.one_mul, Int.natCast_pow]
  have : (2 : Int) ^ r.toNat < 2 ^ 64 := Int.pow_lt_pow_of_lt (by decide) (by omega)
  rw [p64'] at this
  exact Int.emod_eq_of_lt (Int.pow_nonneg (by decide)) this
/-- a bit set in a number whose lower bits are none -/
theorem put_bit {q i k r s sh v p0 p1 p2 p3 p4 p5 : Int} (hq : 0 ≤ q ∧ q < N384) (hi : 0 ≤ i ∧ i < 384) (hk : k = i / 64) (hr : r = i % 64)
    (hs : s = ([(lim q 0), (lim q 1), (lim q 2), (lim q 3), (lim q 4), (lim q 5)] : List Int).getD k.toNat 0) (hsh : sh = binE .shl .u64 1 r) (hv : v = binE .or .u64 s sh)
    (h0 : p0 = if k = ((0 : Nat) : Int) then v else lim q 0) (h1 : p1 = if k = ((1 : Nat) : Int) then v else lim q 1) (h2 : p2 = if k = ((2 : Nat) : Int) then v else lim q 2) (h3 : p3 = if k = ((3 : Nat) : Int) then v else lim q 3) (h4 : p4 = if k = ((4 : Nat) : Int) then v else lim q 4) (h5 : p5 = if k = ((5 : Nat) : Int) then v else lim q 5)
    {Q : Int} (hd : q = 2 ^ (i + 1).toNat * Q) (hQ : 0 ≤ Q) : joinE [p0, p1, p2, p3, p4, p5] = q + 2 ^ i.toNat := by
  have hsl : s = lim q k.toNat := by
    have : k = 0 ∨ k = 1 ∨ k = 2 ∨ k = 3 ∨ k = 4 ∨ k = 5 := by omega
    rw [hs]
    rcases this with h | h | h | h | h | h <;> rw [h] <;> rfl
  have hsh' := shl_one (by omega) hsh
  have hpr : (0 : Int) < 2 ^ (r.toNat + 1) := Int.pow_pos (by decide)
  -- the word's lower bits are none
  have hz : ∃ w, 0 ≤ w ∧ s = w * 2 ^ (r.toNat + 1) ∧ s + 2 ^ r.toNat < 18446744073709551616 := by
    have e1 : q / 2 ^ (64 * k.toNat) = 2 ^ (r.toNat + 1) * Q := by
      rw [hd, show (i + 1).toNat = 64 * k.toNat + (r.toNat + 1) by omega, Int.pow_add, Int.mul_assoc]
      exact Int.mul_ediv_cancel_left _ (Int.ne_of_gt (Int.pow_pos (by decide)))
    have e2 : (18446744073709551616 : Int) = 2 ^ (r.toNat + 1) * 2 ^ (63 - r.toNat) := by
      rw [← Int.pow_add, show r.toNat + 1 + (63 - r.toNat) = 64 by omega, p64']
    have e3 : s = 2 ^ (r.toNat + 1) * (Q % 2 ^ (63 - r.toNat)) := by
      rw [hsl, lim_div, e1, e2, Int.mul_emod_mul_of_pos _ _ hpr]
    have hp2 : (0 : Int) < 2 ^ (63 - r.toNat) := Int.pow_pos (by decide)
    have hw0 := Int.emod_nonneg Q (show (2 : Int) ^ (63 - r.toNat) ≠ 0 by omega)
    have hw1 := Int.emod_lt_of_pos Q hp2
    refine ⟨Q % 2 ^ (63 - r.toNat), hw0, by rw [e3, Int.mul_comm], ?_⟩
    have h6 : 2 ^ (r.toNat + 1) * (Q % 2 ^ (63 - r.toNat) + 1) ≤ 2 ^ (r.toNat + 1) * 2 ^ (63 - r.toNat) := Int.mul_le_mul_of_nonneg_left (by omega) (by omega)
    rw [← e2, Int.mul_add, ← e3, Int.mul_one, Int.pow_succ] at h6
    have : (0 : Int) < 2 ^ r.toNat := Int.pow_pos (by decide)
    omega
  obtain ⟨w, w0, w1, w2⟩ := hz
  have hvs : v = s + 2 ^ r.toNat := by
    rw [hsh'] at hv
    refine or_dis (k := r.toNat + 1) (q := w) hv (by rw [w1, Int.natCast_pow]; rfl) w0 ⟨Int.pow_nonneg (by decide), ?_⟩ w2
    rw [Int.natCast_pow]
    exact Int.pow_lt_pow_of_lt (by decide) (by omega)
  have e4 : (2 : Int) ^ i.toNat = 2 ^ (64 * k.toNat) * 2 ^ r.toNat := by rw [← Int.pow_add]; congr 1; omega
  rw [hvs] at h0 h1 h2 h3 h4 h5
  have ex := lim_eq hq
  rw [joinE6, e4]
  clear hsh' hpr hd hsh hv e4 w2 w1 hvs hs
  have : k = 0 ∨ k = 1 ∨ k = 2 ∨ k = 3 ∨ k = 4 ∨ k = 5 := by omega
  rcases this with h | h | h | h | h | h <;> subst h
  · simp only [hsl] at *
    rw [h0, h1, h2, h3, h4, h5]
    simp only [show ((0 : Int)).toNat = 0 from rfl, Nat.mul_zero, Int.pow_zero] at *
    generalize (2 : Int) ^ r.toNat = z at *
    simp at *
    omega
  · simp only [hsl] at *
    rw [h0, h1, h2, h3, h4, h5]
    simp only [show ((1 : Int)).toNat = 1 from rfl, Nat.mul_one, p64'] at *
    generalize (2 : Int) ^ r.toNat = z at *
    simp at *
    omega
  · simp only [hsl] at *
    rw [h0, h1, h2, h3, h4, h5]
    simp only [show ((2 : Int)).toNat = 2 from rfl, show 64 * 2 = 128 from rfl, p128] at *
    generalize (2 : Int) ^ r.toNat = z at *
    simp at *
    omega
  · simp only [hsl] at *
    rw [h0, h1, h2, h3, h4, h5]
    simp only [show ((3 : Int)).toNat = 3 from rfl, show 64 * 3 = 192 from rfl, p192] at *
    generalize (2 : Int) ^ r.toNat = z at *
    simp at *
    omega
  · simp only [hsl] at *
    rw [h0, h1, h2, h3, h4, h5]
    simp only [show ((4 : Int)).toNat = 4 from rfl, show 64 * 4 = 256 from rfl, p256] at *
    generalize (2 : Int) ^ r.toNat = z at *
    simp at *
    omega
  · simp only [hsl] at *
    rw [h0, h1, h2, h3, h4, h5]
    simp only [show ((5 : Int)).toNat = 5 from rfl, show 64 * 5 = 320 from rfl, p320] at *
    generalize (2 : Int) ^ r.toNat = z at *
    simp at *
    omega
theorem dbl_top {x : Int} (hx : 0 ≤ x ∧ x < N384) (h : 1 ≤ lim x 5 / 9223372036854775808) : N384 ≤ 2 * x := by
  have ex := lim_eq hx
  have l0 := lim_lt x 0
  have l1 := lim_lt x 1
  have l2 := lim_lt x 2
  have l3 := lim_lt x 3
  have l4 := lim_lt x 4
  generalize lim x 0 = x0 at *
  generalize lim x 1 = x1 at *
  generalize lim x 2 = x2 at *
  generalize lim x 3 = x3 at *
  generalize lim x 4 = x4 at *
  generalize lim x 5 = x5 at *
  unfold N384
  omega
def DivI (a b : Int) : List Int → Prop
  | [i, q, l] => -1 ≤ i ∧ i ≤ 383 ∧ ∃ Q, 0 ≤ Q ∧ q = 2 ^ (i + 1).toNat * Q ∧ 0 ≤ l ∧ l < b ∧ a / 2 ^ (i + 1).toNat = Q * b + l
  | _ => False
theorem half_of {a : Int} (ha : 0 ≤ a) (n : Nat) : a / 2 ^ n = 2 * (a / 2 ^ (n + 1)) + a / 2 ^ n % 2 := by
  have hp : (0 : Int) < 2 ^ n := Int.pow_pos (by decide)
  rw [show a / 2 ^ (n + 1) = a / 2 ^ n / 2 by rw [Int.pow_succ, Int.ediv_ediv_of_nonneg (by omega)]]
  omega
theorem div_yes {a b q q' l l' : Int} {n : Nat} (ha : 0 ≤ a) (hn : n < 384) {Q : Int} (h0 : 0 ≤ Q) (h1 : q = 2 ^ (n + 1) * Q) (h4 : a / 2 ^ (n + 1) = Q * b + l) (hq : q' = q + 2 ^ n) (hl : l' = 2 * l + a / 2 ^ n % 2 - b) (hl0 : 0 ≤ l') (hl1 : l' < b) : DivI a b [(n : Int) - 1, q', l'] := by
  refine ⟨by omega, by omega, 2 * Q + 1, by omega, ?_, hl0, hl1, ?_⟩
  · rw [show ((n : Int) - 1 + 1).toNat = n by omega, hq, h1, Int.pow_succ]; grind
  · rw [show ((n : Int) - 1 + 1).toNat = n by omega, half_of ha n, h4, hl]; grind
theorem div_no {a b q l l' : Int} {n : Nat} (ha : 0 ≤ a) (hn : n < 384) {Q : Int} (h0 : 0 ≤ Q) (h1 : q = 2 ^ (n + 1) * Q) (h4 : a / 2 ^ (n + 1) = Q * b + l) (hl : l' = 2 * l + a / 2 ^ n % 2) (hl0 : 0 ≤ l') (hl1 : l' < b) : DivI a b [(n : Int) - 1, q, l'] := by
  refine ⟨by omega, by omega, 2 * Q, by omega, ?_, hl0, hl1, ?_⟩
  · rw [show ((n : Int) - 1 + 1).toNat = n by omega, h1, Int.pow_succ]; grind
  · rw [show ((n : Int) - 1 + 1).toNat = n by omega, half_of ha n, h4, hl]; grind
def tDivide : Tree := (.lett 2 .bit (.eqs [((.limb 1 0), (.lit 0)), ((.limb 1 1), (.lit 0)), ((.limb 1 2), (.lit 0)), ((.limb 1 3), (.lit 0)), ((.limb 1 4), (.lit 0)), ((.limb 1 5), (.lit 0))])
(.split 2
 (.ret [(.lit 0), (.lit 0), (.lit 2)])
 (.req 2 [(.var 0)]
 (.lett 3 (.int .i64) (.app 2 0 [(.var 0)])
 (.lett 4 (.int .i64) (.bin .sub .i64 (.var 3) (.lit 1))
 (.loop [(.var 4), (.lit 0), (.lit 0)] [(.int .i64), .num, .num] 5
 (.lett 8 .bit (.cmp .geq (.var 5) (.lit 0))
 (.split 8
  (.lett 9 (.int .u64) (.bin .shr .u64 (.limb 7 5) (.lit 63))
  (.lett 10 (.int .u64) (.bin .shl .u64 (.limb 7 0) (.lit 1))
  (.lett 11 (.int .u64) (.bin .shl .u64 (.limb 7 1) (.lit 1))
  (.lett 396 (.int .u64) (.bin .shr .u64 (.limb 7 0) (.lit 63))
  (.lett 444 (.int .u64) (.bin .or .u64 (.var 11) (.var 396))
  (.lett 588 (.int .u64) (.bin .shl .u64 (.limb 7 2) (.lit 1))
  (.lett 973 (.int .u64) (.bin .shr .u64 (.limb 7 1) (.lit 63))
  (.lett 1021 (.int .u64) (.bin .or .u64 (.var 588) (.var 973))
  (.lett 1165 (.int .u64) (.bin .shl .u64 (.limb 7 3) (.lit 1))
  (.lett 1550 (.int .u64) (.bin .shr .u64 (.limb 7 2) (.lit 63))
  (.lett 1598 (.int .u64) (.bin .or .u64 (.var 1165) (.var 1550))
  (.lett 1742 (.int .u64) (.bin .shl .u64 (.limb 7 4) (.lit 1))
  (.lett 2127 (.int .u64) (.bin .shr .u64 (.limb 7 3) (.lit 63))
  (.lett 2175 (.int .u64) (.bin .or .u64 (.var 1742) (.var 2127))
  (.lett 2319 (.int .u64) (.bin .shl .u64 (.limb 7 5) (.lit 1))
  (.lett 2704 (.int .u64) (.bin .shr .u64 (.limb 7 4) (.lit 63))
  (.lett 2752 (.int .u64) (.bin .or .u64 (.var 2319) (.var 2704))
  (.req 3 [(.var 0), (.var 5)]
  (.lett 3088 (.int .i64) (.app 3 0 [(.var 0), (.var 5)])
  (.lett 3136 (.int .u64) (.conv .u64 (.var 3088))
  (.lett 3184 (.int .u64) (.bin .or .u64 (.var 10) (.var 3136))
  (.lett 3328 .bit (.cmp .eql (.var 9) (.lit 1))
  (.split 3328
   (.lett 3329 .num (.join [(.var 3184), (.var 444), (.var 1021), (.var 1598), (.var 2175), (.var 2752)])
   (.req 0 [(.var 3329), (.var 1)]
   (.lett 3330 .num (.app 0 0 [(.var 3329), (.var 1)])
   (.lett 3331 .bit (.app 0 1 [(.var 3329), (.var 1)])
   (.lett 3380 (.int .i64) (.bin .quo .i64 (.var 5) (.lit 64))
   (.lett 3428 .bit (.cmp .leq (.lit 0) (.var 3380))
   (.lett 3429 .bit (.cmp .lss (.var 3380) (.lit 6))
   (.nz (.var 3428)
   (.nz (.var 3429)
   (.lett 3476 (.int .u64) (.sel (.var 3380) [(.limb 6 0), (.limb 6 1), (.limb 6 2), (.limb 6 3), (.limb 6 4), (.limb 6 5)])
   (.lett 3572 (.int .i64) (.bin .rem .i64 (.var 5) (.lit 64))
   (.lett 3620 .bit (.cmp .leq (.lit 0) (.var 3572))
   (.lett 3621 (.int .u64) (.bin .shl .u64 (.lit 1) (.var 3572))
   (.nz (.var 3620)
   (.lett 3668 (.int .u64) (.bin .or .u64 (.var 3476) (.var 3621))
   (.lett 3716 .bit (.cmp .leq (.lit 0) (.var 3380))
   (.lett 3717 .bit (.cmp .lss (.var 3380) (.lit 6))
   (.nz (.var 3716)
   (.nz (.var 3717)
   (.lett 3764 (.int .u64) (.put (.var 3380) 0 (.var 3668) (.limb 6 0))
   (.lett 3765 (.int .u64) (.put (.var 3380) 1 (.var 3668) (.limb 6 1))
   (.lett 3766 (.int .u64) (.put (.var 3380) 2 (.var 3668) (.limb 6 2))
   (.lett 3767 (.int .u64) (.put (.var 3380) 3 (.var 3668) (.limb 6 3))
   (.lett 3768 (.int .u64) (.put (.var 3380) 4 (.var 3668) (.limb 6 4))
   (.lett 3769 (.int .u64) (.put (.var 3380) 5 (.var 3668) (.limb 6 5))
   (.lett 3812 (.int .i64) (.bin .sub .i64 (.var 5) (.lit 1))
   (.lett 3813 .num (.join [(.var 3764), (.var 3765), (.var 3766), (.var 3767), (.var 3768), (.var 3769)])
   (.back 0 [(.var 3812), (.var 3813), (.var 3330)]))))))))))))))))))))))))))))
   (.lett 3329 .num (.join [(.var 3184), (.var 444), (.var 1021), (.var 1598), (.var 2175), (.var 2752)])
   (.req 1 [(.var 3329), (.var 1)]
   (.lett 3330 (.int .i64) (.app 1 0 [(.var 3329), (.var 1)])
   (.lett 3331 .bit (.cmp .geq (.var 3330) (.lit 0))
   (.split 3331
    (.lett 3332 .num (.join [(.var 3184), (.var 444), (.var 1021), (.var 1598), (.var 2175), (.var 2752)])
    (.req 0 [(.var 3332), (.var 1)]
    (.lett 3333 .num (.app 0 0 [(.var 3332), (.var 1)])
    (.lett 3334 .bit (.app 0 1 [(.var 3332), (.var 1)])
    (.lett 3383 (.int .i64) (.bin .quo .i64 (.var 5) (.lit 64))
    (.lett 3431 .bit (.cmp .leq (.lit 0) (.var 3383))
    (.lett 3432 .bit (.cmp .lss (.var 3383) (.lit 6))
    (.nz (.var 3431)
    (.nz (.var 3432)
    (.lett 3479 (.int .u64) (.sel (.var 3383) [(.limb 6 0), (.limb 6 1), (.limb 6 2), (.limb 6 3), (.limb 6 4), (.limb 6 5)])
    (.lett 3575 (.int .i64) (.bin .rem .i64 (.var 5) (.lit 64))
    (.lett 3623 .bit (.cmp .leq (.lit 0) (.var 3575))
    (.lett 3624 (.int .u64) (.bin .shl .u64 (.lit 1) (.var 3575))
    (.nz (.var 3623)
    (.lett 3671 (.int .u64) (.bin .or .u64 (.var 3479) (.var 3624))
    (.lett 3719 .bit (.cmp .leq (.lit 0) (.var 3383))
    (.lett 3720 .bit (.cmp .lss (.var 3383) (.lit 6))
    (.nz (.var 3719)
    (.nz (.var 3720)
    (.lett 3767 (.int .u64) (.put (.var 3383) 0 (.var 3671) (.limb 6 0))
    (.lett 3768 (.int .u64) (.put (.var 3383) 1 (.var 3671) (.limb 6 1))
    (.lett 3769 (.int .u64) (.put (.var 3383) 2 (.var 3671) (.limb 6 2))
    (.lett 3770 (.int .u64) (.put (.var 3383) 3 (.var 3671) (.limb 6 3))
    (.lett 3771 (.int .u64) (.put (.var 3383) 4 (.var 3671) (.limb 6 4))
    (.lett 3772 (.int .u64) (.put (.var 3383) 5 (.var 3671) (.limb 6 5))
    (.lett 3815 (.int .i64) (.bin .sub .i64 (.var 5) (.lit 1))
    (.lett 3816 .num (.join [(.var 3767), (.var 3768), (.var 3769), (.var 3770), (.var 3771), (.var 3772)])
    (.back 0 [(.var 3815), (.var 3816), (.var 3333)]))))))))))))))))))))))))))))
    (.lett 3332 (.int .i64) (.bin .sub .i64 (.var 5) (.lit 1))
    (.lett 3333 .num (.join [(.var 3184), (.var 444), (.var 1021), (.var 1598), (.var 2175), (.var 2752)])
    (.back 0 [(.var 3332), (.var 6), (.var 3333)])))))))))))))))))))))))))))))))
  (.ret [(.var 6), (.var 7), (.lit 0)])))))))))
theorem law_divide (f1 f2 f3 f4 f : FuncId) (e : Nat → Int) (hk : kkHas [.num, .num] [e 0, e 1]) : tDivide.says [kWSub f1, kWCmp f2, kWLen f3, kBit f4] ⟨fun ys => ys = (kDivide f).sem [e 0, e 1], []⟩ e := by
  obtain ⟨u0, u1, _⟩ := hk
  simp only [KK.has] at u0 u1
  simp only [tDivide, kWSub, kWCmp, kWLen, kBit, kDivide, Tree.says, List.getElem?_cons_zero, List.getElem?_cons_succ, List.map, ev_lit, ev_var, ev_limb, D.ev, List.getD_cons_zero, List.getD_cons_succ]
  intro a2 _
  have b2 := c_num0 a2 u1
  refine ⟨fun h => ?_, fun h => ?_⟩
  · rw [if_pos (by omega)]
  have hb : ¬ e 1 = 0 := by omega
  rw [if_neg hb]
  refine ⟨trivial, fun a3 _ a4 _ => ?_⟩
  have b0 := blen_nn (e 0)
  have b1 := blen_le 384 (e 0) u0.1 (by rw [show (2 : Int) ^ 384 = N384 by decide +kernel]; exact u0.2)
  have c4 : e 4 = blen (e 0) - 1 := by rw [a4, a3]; simp only [binE, wr]; omega
  refine ⟨DivI (e 0) (e 1), fun | [i, _, _] => (i + 1).toNat | _ => 0, ?_, fun e' he hkk hI => ?_⟩
  · rw [c4]
    refine ⟨by omega, by omega, 0, Int.le_refl _, by rw [Int.mul_zero], Int.le_refl _, by omega, ?_⟩
    rw [Int.sub_add_cancel, Int.zero_mul]
    by_cases hc : e 0 < 2 ^ (blen (e 0)).toNat
    · exact Int.ediv_eq_zero_of_lt u0.1 hc
    · have := blen_gt (blen (e 0)).toNat (e 0) (by omega); omega
  obtain ⟨i1, i2, Q, q1, q2, q3, q4, q5⟩ : DivI (e 0) (e 1) [e' 5, e' 6, e' 7] := hI
  obtain ⟨_, v6, v7, _⟩ : kkHas [.int .i64, .num, .num] [e' 5, e' 6, e' 7] := hkk
  simp only [KK.has] at v6 v7
  rw [he 0 (by decide), he 1 (by decide)]
  intro a8 _
  have b8 := c_ge a8
  refine ⟨fun hs => ?_, fun hs => ?_⟩
  · obtain ⟨n, hi⟩ := Int.eq_ofNat_of_zero_le (show 0 ≤ e' 5 by omega)
    have q2n := q2
    have q5n := q5
    rw [hi, show ((n : Int) + 1).toNat = n + 1 by omega] at q2n q5n
    have z := U_lim e'
    intro a9 _ a10 _ a11 _ a12 _ a13 _ a14 _ a15 _ a16 _ a17 _ a18 _ a19 _ a20 _ a21 _ a22 _ a23 _ a24 _ a25 _
    refine ⟨trivial, fun a26 _ a27 _ a28 _ a29 _ => ?_⟩
    have b29 := c_eq a29
    have c9 := shr_d 9223372036854775808 a9 (by decide) (by decide)
    have hbit : e' 3088 = e 0 / 2 ^ n % 2 := by rw [a26, if_pos (by omega), hi, Int.toNat_natCast]
    have hbit01 : e 0 / 2 ^ n % 2 = 0 ∨ e 0 / 2 ^ n % 2 = 1 := by omega
    have c27 : e' 3136 = e 0 / 2 ^ n % 2 := by rw [a27, hbit]; simp only [wr]; omega
    rw [c27] at a28
    have hJ := dbl_mod v7 (or_c a28 a10 hbit01 (z 7 0)) (or_1 a13 a11 a12 (z _ _) (z _ _)) (or_1 a16 a14 a15 (z _ _) (z _ _)) (or_1 a19 a17 a18 (z _ _) (z _ _)) (or_1 a22 a20 a21 (z _ _) (z _ _)) (or_1 a25 a23 a24 (z _ _) (z _ _))
    rw [← c9] at hJ
    have l5 := lim_lt (e' 7) 5
    have hi5 : 0 ≤ e' 5 ∧ e' 5 < 384 := by omega
    generalize hbb : e 0 / 2 ^ n % 2 = bb at *
    refine ⟨fun h1 => ?_, fun h1 => ?_⟩
    · intro a30 _
      refine ⟨trivial, fun a31 _ a32 _ a33 _ a34 _ a35 _ => ?_⟩
      have c33 := quo64 hi5 a33
      refine ⟨bit_nz a34 (by omega), lt_nz a35 (by omega), fun a36 _ a37 _ a38 _ a39 _ => ?_⟩
      have c37 := rem64 hi5 a37
      refine ⟨bit_nz a38 (by omega), fun a40 _ a41 _ a42 _ => ⟨bit_nz a41 (by omega), lt_nz a42 (by omega), fun p0 _ p1 _ p2 _ p3 _ p4 _ p5 _ a49 _ a50 _ => ?_⟩⟩
      have hq := put_bit v6 hi5 c33 c37 a36 a39 a40 p0 p1 p2 p3 p4 p5 q2 q1
      rw [← a50] at hq
      have h49 : e' 3812 = n - 1 := by rw [a49]; simp only [binE, wr]; omega
      show DivI (e 0) (e 1) [e' 3812, e' 3813, e' 3330] ∧ (e' 3812 + 1).toNat < (e' 5 + 1).toNat
      rw [h49]
      rw [hi, Int.toNat_natCast] at hq
      have e9 : e' 9 = 1 := by omega
      rw [a30, hJ, e9, Int.one_mul] at a31
      have c31 : e' 3330 = 2 * e' 7 + bb - e 1 := by
        rw [a31, show 2 * e' 7 + bb - N384 - e 1 = (2 * e' 7 + bb - e 1) - N384 by omega, Int.sub_emod_right]
        refine Int.emod_eq_of_lt ?_ (by omega)
        have hx := (dbl_top v7 (by omega : 1 ≤ lim (e' 7) 5 / 9223372036854775808))
        omega
      have hx := (dbl_top v7 (by omega : 1 ≤ lim (e' 7) 5 / 9223372036854775808))
      exact ⟨div_yes u0.1 (by omega) q1 q2n q5n hq (by rw [hbb]; exact c31) (by omega) (by omega), by omega⟩
    · intro a30 _
      have e9 : e' 9 = 0 := by
        have : e' 9 = 0 ∨ e' 9 = 1 := by omega
        omega
      rw [hJ, e9, Int.zero_mul, Int.sub_zero] at a30
      refine ⟨trivial, fun a31 _ a32 _ => ?_⟩
      have b32 := cmp_ge a31 a32
      refine ⟨fun h2 => ?_, fun h2 => ?_⟩
      · intro a33' _
        rw [hJ, e9, Int.zero_mul, Int.sub_zero] at a33'
        refine ⟨trivial, fun a34' k34 a35' _ a33 _ a34 _ a35 _ => ?_⟩
        have c33 := quo64 hi5 a33
        refine ⟨bit_nz a34 (by omega), lt_nz a35 (by omega), fun a36 _ a37 _ a38 _ a39 _ => ?_⟩
        have c37 := rem64 hi5 a37
        refine ⟨bit_nz a38 (by omega), fun a40 _ a41 _ a42 _ => ⟨bit_nz a41 (by omega), lt_nz a42 (by omega), fun p0 _ p1 _ p2 _ p3 _ p4 _ p5 _ a49 _ a50 _ => ?_⟩⟩
        have hq := put_bit v6 hi5 c33 c37 a36 a39 a40 p0 p1 p2 p3 p4 p5 q2 q1
        rw [← a50] at hq
        have h49 : e' 3815 = n - 1 := by rw [a49]; simp only [binE, wr]; omega
        show DivI (e 0) (e 1) [e' 3815, e' 3816, e' 3333] ∧ (e' 3815 + 1).toNat < (e' 5 + 1).toNat
        rw [h49]
        rw [hi, Int.toNat_natCast] at hq
        have c34 : e' 3333 = 2 * e' 7 + bb - e 1 := by
          rw [a34', a33']
          exact Int.emod_eq_of_lt (by omega) (by omega)
        exact ⟨div_yes u0.1 (by omega) q1 q2n q5n hq (by rw [hbb]; exact c34) (by omega) (by omega), by omega⟩
      · intro a33 _ a34 _
        rw [hJ, e9, Int.zero_mul, Int.sub_zero] at a34
        have h33 : e' 3332 = n - 1 := by rw [a33]; simp only [binE, wr]; omega
        show DivI (e 0) (e 1) [e' 3332, e' 6, e' 3333] ∧ (e' 3332 + 1).toNat < (e' 5 + 1).toNat
        rw [h33]
        exact ⟨div_no u0.1 (by omega) q1 q2n q5n (by rw [hbb]; exact a34) (by omega) (by omega), by omega⟩
  · have h1 : e' 5 = -1 := by omega
    rw [h1] at q2 q5
    have q2' : e' 6 = Q := by
      rw [q2]; show 1 * Q = Q; omega
    have q5' : e 0 = Q * e 1 + e' 7 := by
      have : e 0 / 1 = Q * e 1 + e' 7 := q5
      rwa [Int.ediv_one] at this
    have hd : e 0 / e 1 = Q ∧ e 0 % e 1 = e' 7 := by
      rw [q5', Int.add_comm, Int.add_mul_ediv_right _ _ hb, Int.add_mul_emod_self_right, Int.ediv_eq_zero_of_lt q3 q4, Int.emod_eq_of_lt q3 q4]
      exact ⟨by omega, rfl⟩
    rw [hd.1, hd.2, q2']
end Go.Sx

/- Plain numbers: three more primes: the great field's, the little curves'. -/
namespace Np
theorem mul_split {n q F : Nat} (hq : q ∣ n) (hF : F ∣ n - 1) (hFq : F ∣ q - 1) (hq1 : 1 ≤ q) (hn : 1 ≤ n) : ∃ a b, q = 1 + a * F ∧ n = q * (1 + b * F) ∨ n = 0 := by
  obtain ⟨m, hm⟩ := hq
  obtain ⟨a, ha⟩ := hFq
  obtain ⟨R, hR⟩ := hF
  have h1 : q = 1 + a * F := by rw [Nat.mul_comm a F]; omega
  have h2 : F ∣ m - 1 := by
    rcases Nat.eq_zero_or_pos m with h0 | h0
    · rw [h0]; exact ⟨0, rfl⟩
    · have h3 : m - 1 = F * R - F * (a * m) := by
        have h4 : n = m + F * (a * m) := by rw [hm, h1, Nat.add_mul, Nat.one_mul, Nat.mul_comm a F, Nat.mul_assoc]
        omega
      rw [h3]
      exact Nat.dvd_sub (Nat.dvd_mul_right ..) (Nat.dvd_mul_right ..)
  obtain ⟨b, hb⟩ := h2
  rcases Nat.eq_zero_or_pos m with h0 | h0
  · exact ⟨0, 0, .inr (by rw [hm, h0, Nat.mul_zero])⟩
  · refine ⟨a, b, .inl ⟨h1, ?_⟩⟩
    rw [hm]; congr 1; rw [Nat.mul_comm b F]; omega
/-- prime, if what is known of a number less one is more than its third root -/
theorem big3 {n F c0 c1 s : Nat} (hn : 2 ≤ n) (hF : 2 ≤ F) (hdv : F ∣ n - 1) (hR : (n - 1) / F = c1 * F + c0) (hc : c0 < F) (hsz : n / (F * F) + 1 < F) (hs : s * s + 4 * c1 < c0 * c0) (hs2 : c0 * c0 < (s + 1) * (s + 1) + 4 * c1) (h : ∀ l, isP l → l ∣ n → F ∣ l - 1) : isP n := by
  apply Classical.byContradiction
  intro hp
  obtain ⟨q, hq, hqn, hqq⟩ := least hn hp
  have hq2 := hq.1
  obtain ⟨a, b, hab | h0⟩ := mul_split hqn hdv (h q hq hqn) (by omega) (by omega)
  · obtain ⟨e1, e2⟩ := hab
    have ha : 1 ≤ a := by
      rcases Nat.eq_zero_or_pos a with h0 | h0
      · rw [h0] at e1; omega
      · exact h0
    have hb : 1 ≤ b := by
      rcases Nat.eq_zero_or_pos b with h0 | h0
      · rw [h0, Nat.zero_mul, Nat.add_zero, Nat.mul_one] at e2
        have : q * 2 ≤ q * q := Nat.mul_le_mul_left q hq2
        omega
      · exact h0
    have e3 : n = 1 + F * (a + b + a * b * F) := by rw [e2, e1]; grind
    have e4 : (n - 1) / F = a * b * F + (a + b) := by
      rw [show n - 1 = F * (a + b + a * b * F) by omega, Nat.mul_div_cancel_left _ (by omega)]; omega
    have e5 : a * b ≤ n / (F * F) := by
      rw [Nat.le_div_iff_mul_le (Nat.mul_pos (by omega) (by omega))]
      rw [e3]
      have : a * b * (F * F) = F * (a * b * F) := by grind
      rw [this, Nat.mul_add]; omega
    have e6 : a + b ≤ a * b + 1 := by
      obtain ⟨a', rfl⟩ : ∃ a', a = a' + 1 := ⟨a - 1, by omega⟩
      obtain ⟨b', rfl⟩ : ∃ b', b = b' + 1 := ⟨b - 1, by omega⟩
      have : (a' + 1) * (b' + 1) = a' * b' + a' + b' + 1 := by grind
      rw [this]
      have := Nat.zero_le (a' * b')
      generalize a' * b' = z at *
      omega
    rw [hR] at e4
    have e7 : c0 = a + b ∧ c1 = a * b := by
      have h1 : (c1 * F + c0) % F = c0 := by rw [Nat.mul_add_mod_self_right, Nat.mod_eq_of_lt hc]
      have h2 : (a * b * F + (a + b)) % F = a + b := by rw [Nat.mul_add_mod_self_right, Nat.mod_eq_of_lt (by omega)]
      have h3 : c0 = a + b := by rw [← h1, e4, h2]
      refine ⟨h3, ?_⟩
      have h4 : c1 * F = a * b * F := by omega
      exact Nat.eq_of_mul_eq_mul_right (by omega) h4
    obtain ⟨e8, e9⟩ := e7
    rw [e8, e9] at hs hs2
    rcases Nat.le_total a b with hle | hle
    · obtain ⟨d, rfl⟩ := Nat.exists_eq_add_of_le hle
      have h1 : (a + (a + d)) * (a + (a + d)) = d * d + 4 * (a * (a + d)) := by grind
      rw [h1] at hs hs2
      have h2 : s < d := Nat.lt_of_not_le fun hc => by
        have := Nat.mul_le_mul hc hc
        omega
      have := Nat.mul_le_mul (show s + 1 ≤ d by omega) (show s + 1 ≤ d by omega)
      omega
    · obtain ⟨d, rfl⟩ := Nat.exists_eq_add_of_le hle
      have h1 : (b + d + b) * (b + d + b) = d * d + 4 * ((b + d) * b) := by grind
      rw [h1] at hs hs2
      have h2 : s < d := Nat.lt_of_not_le fun hc => by
        have := Nat.mul_le_mul hc hc
        omega
      have := Nat.mul_le_mul (show s + 1 ≤ d by omega) (show s + 1 ≤ d by omega)
      omega
  · omega
theorem p23 : isP 23 := small' 5 (by decide) (by decide) (by decide +kernel)
theorem p47 : isP 47 := small' 7 (by decide) (by decide) (by decide +kernel)
theorem p52437899 : isP 52437899 := small' 7242 (by decide) (by decide) (by decide +kernel)
theorem p7577 : isP 7577 := small' 88 (by decide) (by decide) (by decide +kernel)
theorem p582767 : isP 582767 := small' 764 (by decide) (by decide) (by decide +kernel)
theorem p9272813673901 : isP 9272813673901 := by
  refine big (F := 7577 ^ 1 * 582767 ^ 1) (by decide +kernel) (by decide +kernel) fun l hl hln => ?_
  have a0 := pock' (n := 9272813673901) (l := l) (q := 7577) (a := 2) (e := 0) (c := (9272813673901 - 1) / 7577 ^ 1) 44 (by decide +kernel) hl hln p7577 (by decide +kernel) (by decide +kernel) (by decide +kernel) (by decide +kernel)
  have a1 := pock' (n := 9272813673901) (l := l) (q := 582767) (a := 2) (e := 0) (c := (9272813673901 - 1) / 582767 ^ 1) 44 (by decide +kernel) hl hln p582767 (by decide +kernel) (by decide +kernel) (by decide +kernel) (by decide +kernel)
  exact (Nat.Coprime.mul_dvd_of_dvd_of_dvd (by decide +kernel) a0 a1)
theorem p1928745244171409 : isP 1928745244171409 := by
  refine big (F := 9272813673901 ^ 1) (by decide +kernel) (by decide +kernel) fun l hl hln => ?_
  have a0 := pock' (n := 1928745244171409) (l := l) (q := 9272813673901) (a := 2) (e := 0) (c := (1928745244171409 - 1) / 9272813673901 ^ 1) 51 (by decide +kernel) hl hln p9272813673901 (by decide +kernel) (by decide +kernel) (by decide +kernel) (by decide +kernel)
  exact a0
theorem p7259797099061183477 : isP 7259797099061183477 := by
  refine big (F := 1928745244171409 ^ 1) (by decide +kernel) (by decide +kernel) fun l hl hln => ?_
  have a0 := pock' (n := 7259797099061183477) (l := l) (q := 1928745244171409) (a := 2) (e := 0) (c := (7259797099061183477 - 1) / 1928745244171409 ^ 1) 63 (by decide +kernel) hl hln p1928745244171409 (by decide +kernel) (by decide +kernel) (by decide +kernel) (by decide +kernel)
  exact a0
theorem p2584487767265781317813 : isP 2584487767265781317813 := by
  refine big (F := 7259797099061183477 ^ 1) (by decide +kernel) (by decide +kernel) fun l hl hln => ?_
  have a0 := pock' (n := 2584487767265781317813) (l := l) (q := 7259797099061183477) (a := 2) (e := 0) (c := (2584487767265781317813 - 1) / 7259797099061183477 ^ 1) 72 (by decide +kernel) hl hln p7259797099061183477 (by decide +kernel) (by decide +kernel) (by decide +kernel) (by decide +kernel)
  exact a0
theorem p786251 : isP 786251 := small' 887 (by decide) (by decide) (by decide +kernel)
theorem p376631 : isP 376631 := small' 614 (by decide) (by decide) (by decide +kernel)
theorem p10056583 : isP 10056583 := small' 3172 (by decide) (by decide) (by decide +kernel)
theorem p192153584101141037 : isP 192153584101141037 := by
  refine big (F := 376631 ^ 1 * 10056583 ^ 1) (by decide +kernel) (by decide +kernel) fun l hl hln => ?_
  have a0 := pock' (n := 192153584101141037) (l := l) (q := 376631) (a := 2) (e := 0) (c := (192153584101141037 - 1) / 376631 ^ 1) 58 (by decide +kernel) hl hln p376631 (by decide +kernel) (by decide +kernel) (by decide +kernel) (by decide +kernel)
  have a1 := pock' (n := 192153584101141037) (l := l) (q := 10056583) (a := 2) (e := 0) (c := (192153584101141037 - 1) / 10056583 ^ 1) 58 (by decide +kernel) hl hln p10056583 (by decide +kernel) (by decide +kernel) (by decide +kernel) (by decide +kernel)
  exact (Nat.Coprime.mul_dvd_of_dvd_of_dvd (by decide +kernel) a0 a1)
theorem p_mid7 : isP 1152921504606846223 := by
  refine big (F := 192153584101141037 ^ 1) (by decide +kernel) (by decide +kernel) fun l hl hln => ?_
  have a0 := pock' (n := 1152921504606846223) (l := l) (q := 192153584101141037) (a := 2) (e := 0) (c := (1152921504606846223 - 1) / 192153584101141037 ^ 1) 60 (by decide +kernel) hl hln p192153584101141037 (by decide +kernel) (by decide +kernel) (by decide +kernel) (by decide +kernel)
  exact a0
def nP : Nat := 4002409555221667393417789825735904156556882819939007885332058136124031650490837864442687629129015664037894272559787
theorem p_base : isP nP := by
  refine big3 (F := 2 ^ 1 * 3 ^ 2 * 11 ^ 1 * 23 ^ 1 * 47 ^ 1 * 10177 ^ 1 * 859267 ^ 1 * 52437899 ^ 1 * 2584487767265781317813 ^ 1) (c0 := 41045055325326579460269857981194636858402675) (c1 := 62202009562450627810769096) (s := 41045055325326579460269857981194636858402674) (by decide +kernel) (by decide +kernel) (by decide +kernel) (by decide +kernel) (by decide +kernel) (by decide +kernel) (by decide +kernel) (by decide +kernel) fun l hl hln => ?_
  have a0 := pock' (n := nP) (l := l) (q := 2) (a := 2) (e := 0) (c := (nP - 1) / 2 ^ 1) 381 (by decide +kernel) hl hln p2 (by decide +kernel) (by decide +kernel) (by decide +kernel) (by decide +kernel)
  have a1 := pock' (n := nP) (l := l) (q := 3) (a := 2) (e := 1) (c := (nP - 1) / 3 ^ 2) 381 (by decide +kernel) hl hln p3 (by decide +kernel) (by decide +kernel) (by decide +kernel) (by decide +kernel)
  have a2 := pock' (n := nP) (l := l) (q := 11) (a := 2) (e := 0) (c := (nP - 1) / 11 ^ 1) 381 (by decide +kernel) hl hln p11 (by decide +kernel) (by decide +kernel) (by decide +kernel) (by decide +kernel)
  have a3 := pock' (n := nP) (l := l) (q := 23) (a := 2) (e := 0) (c := (nP - 1) / 23 ^ 1) 381 (by decide +kernel) hl hln p23 (by decide +kernel) (by decide +kernel) (by decide +kernel) (by decide +kernel)
  have a4 := pock' (n := nP) (l := l) (q := 47) (a := 2) (e := 0) (c := (nP - 1) / 47 ^ 1) 381 (by decide +kernel) hl hln p47 (by decide +kernel) (by decide +kernel) (by decide +kernel) (by decide +kernel)
  have a5 := pock' (n := nP) (l := l) (q := 10177) (a := 2) (e := 0) (c := (nP - 1) / 10177 ^ 1) 381 (by decide +kernel) hl hln p10177 (by decide +kernel) (by decide +kernel) (by decide +kernel) (by decide +kernel)
  have a6 := pock' (n := nP) (l := l) (q := 859267) (a := 2) (e := 0) (c := (nP - 1) / 859267 ^ 1) 381 (by decide +kernel) hl hln p859267 (by decide +kernel) (by decide +kernel) (by decide +kernel) (by decide +kernel)
  have a7 := pock' (n := nP) (l := l) (q := 52437899) (a := 2) (e := 0) (c := (nP - 1) / 52437899 ^ 1) 381 (by decide +kernel) hl hln p52437899 (by decide +kernel) (by decide +kernel) (by decide +kernel) (by decide +kernel)
  have a8 := pock' (n := nP) (l := l) (q := 2584487767265781317813) (a := 2) (e := 0) (c := (nP - 1) / 2584487767265781317813 ^ 1) 381 (by decide +kernel) hl hln p2584487767265781317813 (by decide +kernel) (by decide +kernel) (by decide +kernel) (by decide +kernel)
  have b1 := Nat.Coprime.mul_dvd_of_dvd_of_dvd (by decide +kernel) a0 a1
  have b2 := Nat.Coprime.mul_dvd_of_dvd_of_dvd (by decide +kernel) b1 a2
  have b3 := Nat.Coprime.mul_dvd_of_dvd_of_dvd (by decide +kernel) b2 a3
  have b4 := Nat.Coprime.mul_dvd_of_dvd_of_dvd (by decide +kernel) b3 a4
  have b5 := Nat.Coprime.mul_dvd_of_dvd_of_dvd (by decide +kernel) b4 a5
  have b6 := Nat.Coprime.mul_dvd_of_dvd_of_dvd (by decide +kernel) b5 a6
  have b7 := Nat.Coprime.mul_dvd_of_dvd_of_dvd (by decide +kernel) b6 a7
  have b8 := Nat.Coprime.mul_dvd_of_dvd_of_dvd (by decide +kernel) b7 a8
  exact b8
end Np
