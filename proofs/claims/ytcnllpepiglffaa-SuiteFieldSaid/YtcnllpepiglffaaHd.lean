/- Laws: the references: lengths, powers, little arithmetic, suite's scalars. -/
import Derived.Test.YtcnllpepiglffaaHc
namespace Go.Sx
open Go Go.RowKit
set_option maxRecDepth 100000
set_option linter.unusedSimpArgs false
set_option linter.unusedVariables false
def tRefLen : Tree := (.loop [(.lit 383)] [(.int .i64)] 1
(.lett 2 .bit (.cmp .geq (.var 1) (.lit 0))
(.split 2
 (.req 0 [(.var 0), (.var 1)]
 (.lett 3 (.int .i64) (.app 0 0 [(.var 0), (.var 1)])
 (.lett 4 .bit (.cmp .eql (.var 3) (.lit 1))
 (.split 4
  (.lett 5 (.int .i64) (.bin .add .i64 (.var 1) (.lit 1))
  (.ret [(.var 5)]))
  (.lett 5 (.int .i64) (.bin .sub .i64 (.var 1) (.lit 1))
  (.back 0 [(.var 5)]))))))
 (.ret [(.lit 0)]))))
def LenI (a : Int) : List Int → Prop
  | [i] => -1 ≤ i ∧ i ≤ 383 ∧ a < 2 ^ (i + 1).toNat
  | _ => False
theorem law_refLen (f1 f : FuncId) (e : Nat → Int) (hk : kkHas [.num] [e 0]) : tRefLen.says [kBit f1] ⟨fun ys => ys = (kWLen f).sem [e 0], []⟩ e := by
  have h0 := hk.1
  simp only [KK.has] at h0
  simp only [tRefLen, kBit, kWLen, Tree.says, List.getElem?_cons_zero, List.getElem?_cons_succ, List.map, ev_lit, ev_var, ev_limb, D.ev, List.getD_cons_zero, List.getD_cons_succ]
  refine ⟨LenI (e 0), fun | [i] => (i + 1).toNat | _ => 0, ⟨by decide, by decide, by rw [show ((383 : Int) + 1).toNat = 384 from rfl, show (2 : Int) ^ 384 = N384 by decide +kernel]; exact h0.2⟩, fun e' he hkk hI => ?_⟩
  obtain ⟨i1, i2, i3⟩ : LenI (e 0) [e' 1] := hI
  rw [he 0 (by decide)]
  intro a2 _
  have b2 := c_ge a2
  refine ⟨fun hs => ⟨trivial, fun a3 _ a4 _ => ?_⟩, fun hs => ?_⟩
  · have b4 := c_eq a4
    obtain ⟨n, hn⟩ := Int.eq_ofNat_of_zero_le (show 0 ≤ e' 1 by omega)
    rw [hn] at i3
    rw [if_pos (by omega), hn, Int.toNat_natCast] at a3
    rw [show ((n : Int) + 1).toNat = n + 1 by omega] at i3
    have hp : (0 : Int) < 2 ^ n := Int.pow_pos (by decide)
    have hq : e 0 / 2 ^ n < 2 := Int.ediv_lt_of_lt_mul hp (by rw [Int.pow_succ] at i3; omega)
    have hq0 : 0 ≤ e 0 / 2 ^ n := Int.ediv_nonneg h0.1 (by omega)
    refine ⟨fun hs2 => ?_, fun hs2 => ?_⟩
    · intro a5 _
      have h1 : e 0 / 2 ^ n = 1 := by omega
      have h2 : (2 : Int) ^ n ≤ e 0 := by
        have := Int.mul_le_of_le_ediv (a := 1) hp (show (1 : Int) ≤ e 0 / 2 ^ n by omega); omega
      have h3 := blen_gt n (e 0) h2
      have h4 := blen_le (n + 1) (e 0) h0.1 i3
      have h5 : e' 5 = n + 1 := by rw [a5]; simp only [binE, wr]; omega
      rw [h5]
      congr 1
      omega
    · intro a5 _
      have h1 : e 0 / 2 ^ n = 0 := by omega
      have h2 : e 0 < 2 ^ n := by
        by_cases hc : e 0 < 2 ^ n
        · exact hc
        · exfalso
          have := Int.le_ediv_of_mul_le hp (show 1 * 2 ^ n ≤ e 0 by omega)
          omega
      have h5 : e' 5 = n - 1 := by rw [a5]; simp only [binE, wr]; omega
      show LenI (e 0) [e' 5] ∧ (e' 5 + 1).toNat < (e' 1 + 1).toNat
      rw [h5, hn]
      refine ⟨⟨by omega, by omega, ?_⟩, by omega⟩
      rw [show ((n : Int) - 1 + 1).toNat = n by omega]; exact h2
  · have h1 : e' 1 = -1 := by omega
    rw [h1] at i3
    have h2 : e 0 = 0 := by
      have : e 0 < 1 := i3
      omega
    rw [h2]; rfl
/-! ### powers -/
theorem pow_bit (a : Int) (x : Int) (hx : 0 ≤ x) (i : Nat) : a ^ (x / 2 ^ i).toNat = a ^ (x / 2 ^ (i + 1)).toNat * a ^ (x / 2 ^ (i + 1)).toNat * (if x / 2 ^ i % 2 = 1 then a else 1) := by
  have hp : (0 : Int) < 2 ^ i := Int.pow_pos (by decide)
  have h1 : x / 2 ^ (i + 1) = x / 2 ^ i / 2 := by rw [Int.pow_succ, Int.ediv_ediv_of_nonneg (by omega)]
  have h0 := Int.ediv_nonneg hx (show (0 : Int) ≤ 2 ^ i by omega)
  rw [h1, ← Int.pow_add]
  generalize x / 2 ^ i = y at *
  split
  · rw [show y.toNat = ((y / 2).toNat + (y / 2).toNat) + 1 by omega, Int.pow_succ]
  · rw [Int.mul_one]; congr 1; omega
theorem md_mul {a b n : Int} : a % n * (b % n) % n = a * b % n := by rw [← Int.mul_emod]
def PowI (n a x : Int) : List Int → Prop
  | [i, o] => -1 ≤ i ∧ i ≤ 383 ∧ o = a ^ (x / 2 ^ (i + 1).toNat).toNat % n
  | _ => False
theorem pow_step0 {n a x o o1 : Int} {i : Nat} (hx : 0 ≤ x) (ho : o = a ^ (x / 2 ^ (i + 1)).toNat % n) (h1 : o1 = o * o % n) (hb : x / 2 ^ i % 2 = 0) : o1 = a ^ (x / 2 ^ i).toNat % n := by
  rw [pow_bit a x hx i, if_neg (by omega), Int.mul_one, h1, ho, md_mul]
theorem pow_step1 {n a x o o1 o2 : Int} {i : Nat} (hx : 0 ≤ x) (ho : o = a ^ (x / 2 ^ (i + 1)).toNat % n) (h1 : o1 = o * o % n) (h2 : o2 = o1 * a % n) (hb : x / 2 ^ i % 2 = 1) : o2 = a ^ (x / 2 ^ i).toNat % n := by
  rw [pow_bit a x hx i, if_pos hb, h2, h1, ho, md_mul]
  obtain ⟨z, hz⟩ := md_of (x := a ^ (x / 2 ^ (i + 1)).toNat * a ^ (x / 2 ^ (i + 1)).toNat) (n := n)
  rw [hz]
  exact md (z * a) (by grind)
def tFMul : Tree := (.req 0 [(.var 0), (.var 1), (.var 2), (.var 3), (.var 4)]
(.lett 197 .num (.app 0 0 [(.var 0), (.var 1), (.var 2), (.var 3), (.var 4)])
(.req 0 [(.var 0), (.var 1), (.var 2), (.var 197), (.var 2)]
(.lett 341 .num (.app 0 0 [(.var 0), (.var 1), (.var 2), (.var 197), (.var 2)])
(.ret [(.var 341)])))))
theorem law_fMul (f1 f : FuncId) (e : Nat → Int) (hk : kkHas [.num, .int .u64, .num, .num, .num] [e 0, e 1, e 2, e 3, e 4]) (hp : (kFMul f).pre [e 0, e 1, e 2, e 3, e 4]) : tFMul.says [kFMont f1] ⟨fun ys => ys = (kFMul f).sem [e 0, e 1, e 2, e 3, e 4], []⟩ e := by
  obtain ⟨⟨hm, hw⟩, hab⟩ := hp
  have hn := hm.2.1
  have hwl := wide_lt (n := e 0) (by omega)
  simp only [tFMul, kFMont, kFMul, Tree.says, List.getElem?_cons_zero, List.getElem?_cons_succ, List.map, ev_lit, ev_var, ev_limb, D.ev, List.getD_cons_zero, List.getD_cons_succ]
  refine ⟨⟨hm, hab⟩, fun a1 _ => ⟨⟨hm, .inr (by rw [hw]; exact hwl.2)⟩, fun a2 _ => ?_⟩⟩
  rw [a2, a1, hw]
  congr 1
  rw [← mont_mul (n := e 0) (a := e 3) (b := e 4) hm.odd]
  unfold montv
  have key : ∀ u v w : Int, u * v * half2 (e 0) ^ 384 % e 0 * w * half2 (e 0) ^ 384 % e 0 = u * v * half2 (e 0) ^ 384 * w * half2 (e 0) ^ 384 % e 0 := fun u v w => by
    obtain ⟨z, hz⟩ := md_of (x := u * v * half2 (e 0) ^ 384) (n := e 0)
    rw [hz]
    exact md (z * w * half2 (e 0) ^ 384) (by grind)
  show e 3 * e 4 * half2 (e 0) ^ 384 % e 0 * wideOf (e 0) * half2 (e 0) ^ 384 % e 0 = e 3 * wideOf (e 0) * half2 (e 0) ^ 384 % e 0 * e 4 * half2 (e 0) ^ 384 % e 0
  rw [key, key]
  congr 1
  grind
def tFAdd : Tree := (.req 0 [(.var 3), (.var 4)]
(.lett 5 .num (.app 0 0 [(.var 3), (.var 4)])
(.lett 6 .bit (.app 0 1 [(.var 3), (.var 4)])
(.req 1 [(.var 5), (.var 0)]
(.lett 7 (.int .i64) (.app 1 0 [(.var 5), (.var 0)])
(.lett 8 .bit (.cmp .geq (.var 7) (.lit 0))
(.split 8
 (.req 2 [(.var 5), (.var 0)]
 (.lett 9 .num (.app 2 0 [(.var 5), (.var 0)])
 (.lett 10 .bit (.app 2 1 [(.var 5), (.var 0)])
 (.ret [(.var 9)]))))
 (.ret [(.var 5)]))))))))
theorem law_fAdd (f1 f2 f3 f : FuncId) (e : Nat → Int) (hk : kkHas [.num, .int .u64, .num, .num, .num] [e 0, e 1, e 2, e 3, e 4]) (hp : (kFAdd f).pre [e 0, e 1, e 2, e 3, e 4]) : tFAdd.says [kWAdd f1, kWCmp f2, kWSub f3] ⟨fun ys => ys = (kFAdd f).sem [e 0, e 1, e 2, e 3, e 4], []⟩ e := by
  obtain ⟨hn, ha, hb⟩ := hp
  obtain ⟨_, _, _, h3, h4, _⟩ := hk
  simp only [KK.has] at h3 h4
  have hl : 2 * e 0 < N384 := by rw [p382] at hn; unfold N384; omega
  simp only [tFAdd, kWAdd, kWCmp, kWSub, kFAdd, Tree.says, List.getElem?_cons_zero, List.getElem?_cons_succ, List.map, ev_lit, ev_var, ev_limb, D.ev, List.getD_cons_zero, List.getD_cons_succ]
  refine ⟨trivial, fun a5 k5 a6 _ => ⟨trivial, fun a7 _ a8 _ => ?_⟩⟩
  have b8 := cmp_ge a7 a8
  rw [Int.emod_eq_of_lt (by omega) (by omega)] at a5
  refine ⟨fun hs => ⟨trivial, fun a9 _ _ _ => ?_⟩, fun hs => ?_⟩
  · rw [a9, Int.emod_eq_of_lt (by omega) (by omega), ← a5]
    congr 1
    exact (md_eq 1 (by omega) (by omega) (by omega)).symm
  · rw [← a5]
    congr 1
    exact (Int.emod_eq_of_lt (by omega) (by omega)).symm
def tFPow : Tree := (.req 0 [(.var 4)]
(.lett 5 (.int .i64) (.app 0 0 [(.var 4)])
(.lett 6 (.int .i64) (.bin .sub .i64 (.var 5) (.lit 1))
(.loop [(.var 6), (.lit 1)] [(.int .i64), .num] 7
(.lett 9 .bit (.cmp .geq (.var 7) (.lit 0))
(.split 9
 (.req 1 [(.var 0), (.var 1), (.var 2), (.var 8), (.var 8)]
 (.lett 10 .num (.app 1 0 [(.var 0), (.var 1), (.var 2), (.var 8), (.var 8)])
 (.req 2 [(.var 4), (.var 7)]
 (.lett 11 (.int .i64) (.app 2 0 [(.var 4), (.var 7)])
 (.lett 12 .bit (.cmp .eql (.var 11) (.lit 1))
 (.split 12
  (.req 1 [(.var 0), (.var 1), (.var 2), (.var 10), (.var 3)]
  (.lett 13 .num (.app 1 0 [(.var 0), (.var 1), (.var 2), (.var 10), (.var 3)])
  (.lett 14 (.int .i64) (.bin .sub .i64 (.var 7) (.lit 1))
  (.back 0 [(.var 14), (.var 13)]))))
  (.lett 13 (.int .i64) (.bin .sub .i64 (.var 7) (.lit 1))
  (.back 0 [(.var 13), (.var 10)]))))))))
 (.ret [(.var 8)])))))))
theorem law_fPow (f1 f2 f3 f : FuncId) (e : Nat → Int) (hk : kkHas [.num, .int .u64, .num, .num, .num] [e 0, e 1, e 2, e 3, e 4]) (hp : (kFPow f).pre [e 0, e 1, e 2, e 3, e 4]) : tFPow.says [kWLen f1, kFMul f2, kBit f3] ⟨fun ys => ys = (kFPow f).sem [e 0, e 1, e 2, e 3, e 4], []⟩ e := by
  obtain ⟨hm, ha⟩ := hp
  have hn := hm.1.2.1
  have h4 := hk.2.2.2.2.1
  simp only [KK.has] at h4
  simp only [tFPow, kWLen, kFMul, kBit, kFPow, Tree.says, List.getElem?_cons_zero, List.getElem?_cons_succ, List.map, ev_lit, ev_var, ev_limb, D.ev, List.getD_cons_zero, List.getD_cons_succ]
  refine ⟨trivial, fun a5 _ a6 _ => ?_⟩
  have b0 := blen_nn (e 4)
  have b1 := blen_le 384 (e 4) h4.1 (by rw [show (2 : Int) ^ 384 = N384 by decide +kernel]; exact h4.2)
  have c6 : e 6 = blen (e 4) - 1 := by rw [a6, a5]; simp only [binE, wr]; omega
  refine ⟨PowI (e 0) (e 3) (e 4), fun | [i, _] => (i + 1).toNat | _ => 0, ?_, fun e' he hkk hI => ?_⟩
  · rw [c6]
    refine ⟨by omega, by omega, ?_⟩
    rw [Int.sub_add_cancel]
    have h1 : e 4 / 2 ^ (blen (e 4)).toNat = 0 := by
      by_cases hc : e 4 < 2 ^ (blen (e 4)).toNat
      · exact Int.ediv_eq_zero_of_lt h4.1 hc
      · have := blen_gt (blen (e 4)).toNat (e 4) (by omega); omega
    rw [h1, Int.toNat_zero, Int.pow_zero]
    exact (Int.emod_eq_of_lt (by decide) (by omega)).symm
  · obtain ⟨i1, i2, i3⟩ : PowI (e 0) (e 3) (e 4) [e' 7, e' 8] := hI
    rw [he 0 (by decide), he 1 (by decide), he 2 (by decide), he 3 (by decide), he 4 (by decide)]
    intro a9 _
    have b9 := c_ge a9
    refine ⟨fun hs => ?_, fun hs => ?_⟩
    · obtain ⟨n, hi⟩ := Int.eq_ofNat_of_zero_le (show 0 ≤ e' 7 by omega)
      rw [hi, show ((n : Int) + 1).toNat = n + 1 by omega] at i3
      have hlt : e' 8 < e 0 := by rw [i3]; exact (md_lt (by omega)).2
      refine ⟨⟨hm, .inl hlt⟩, fun a10 _ => ⟨trivial, fun a11 _ a12 _ => ?_⟩⟩
      have b12 := c_eq a12
      rw [if_pos (by omega), hi, Int.toNat_natCast] at a11
      have hlt2 : e' 10 < e 0 := by rw [a10]; exact (md_lt (by omega)).2
      refine ⟨fun hs2 => ?_, fun hs2 => ?_⟩
      · refine ⟨⟨hm, .inl hlt2⟩, fun a13 _ a14 _ => ?_⟩
        have h14 : e' 14 = n - 1 := by rw [a14]; simp only [binE, wr]; omega
        show PowI (e 0) (e 3) (e 4) [e' 14, e' 13] ∧ (e' 14 + 1).toNat < (e' 7 + 1).toNat
        rw [h14, hi]
        refine ⟨⟨by omega, by omega, ?_⟩, by omega⟩
        rw [show ((n : Int) - 1 + 1).toNat = n by omega]
        exact pow_step1 h4.1 i3 a10 a13 (by omega)
      · intro a13 _
        have h13 : e' 13 = n - 1 := by rw [a13]; simp only [binE, wr]; omega
        show PowI (e 0) (e 3) (e 4) [e' 13, e' 10] ∧ (e' 13 + 1).toNat < (e' 7 + 1).toNat
        rw [h13, hi]
        refine ⟨⟨by omega, by omega, ?_⟩, by omega⟩
        rw [show ((n : Int) - 1 + 1).toNat = n by omega]
        exact pow_step0 h4.1 i3 a10 (by omega)
    · have h1 : e' 7 = -1 := by omega
      rw [i3, h1]
      show [e 3 ^ (e 4 / 1).toNat % e 0] = _
      rw [Int.ediv_one]
def tFInv : Tree := (.req 0 [(.var 0), (.lit 2)]
(.lett 4 .num (.app 0 0 [(.var 0), (.lit 2)])
(.lett 5 .bit (.app 0 1 [(.var 0), (.lit 2)])
(.req 1 [(.var 0), (.var 1), (.var 2), (.var 3), (.var 4)]
(.lett 6 .num (.app 1 0 [(.var 0), (.var 1), (.var 2), (.var 3), (.var 4)])
(.ret [(.var 6)]))))))
theorem law_fInv (f1 f2 f : FuncId) (e : Nat → Int) (hk : kkHas [.num, .int .u64, .num, .num] [e 0, e 1, e 2, e 3]) (hp : (kFInv f).pre [e 0, e 1, e 2, e 3]) : tFInv.says [kWSub f1, kFPow f2] ⟨fun ys => ys = (kFInv f).sem [e 0, e 1, e 2, e 3], []⟩ e := by
  obtain ⟨hm, ha⟩ := hp
  have hn := hm.1.2.1
  have h0 := hk.1
  simp only [KK.has] at h0
  simp only [tFInv, kWSub, kFPow, kFInv, Tree.says, List.getElem?_cons_zero, List.getElem?_cons_succ, List.map, ev_lit, ev_var, ev_limb, D.ev, List.getD_cons_zero, List.getD_cons_succ]
  refine ⟨trivial, fun a4 _ a5 _ => ⟨⟨hm, ha⟩, fun a6 _ => ?_⟩⟩
  have a4' : e 4 = e 0 - 2 := by rw [a4]; exact Int.emod_eq_of_lt (by omega) (by omega)
  rw [a6, a4']
def tField : Tree := (.lett 1 .bit (.cmp .eql (.var 0) (.lit 0))
(.split 1
 (.ret [(.lit 52435875175126190479447740508185965837690552500527637822603658699938581184513), (.lit 18446744069414584319), (.lit 49829253988540319354550742249276084460127446355315915089527227471280320770991)])
 (.lett 2 .bit (.cmp .eql (.var 0) (.lit 0))
 (.split 2
  (.bad 1121 "ref.go:130")
  (.lett 3 .bit (.cmp .eql (.var 0) (.lit 1))
  (.split 3
   (.bad 1121 "ref.go:130")
   (.lett 4 .bit (.cmp .eql (.var 0) (.lit 2))
   (.split 4
    (.bad 1121 "ref.go:130")
    (.bad 301 "")))))))))
theorem field_good : mGood rGreat 18446744069414584319 (wideOf rGreat) := by
  refine ⟨⟨by decide +kernel, by decide +kernel, by rw [p382]; decide +kernel⟩, rfl⟩
theorem law_field (f : FuncId) (e : Nat → Int) (hp : (kField f).pre [e 0]) : tField.says [] ⟨fun ys => ys = (kField f).sem [e 0], []⟩ e := by
  have h0 : e 0 = 0 := hp
  simp only [tField, kField, Tree.says, List.getElem?_cons_zero, List.getElem?_cons_succ, List.map, ev_lit, ev_var, ev_limb, D.ev, List.getD_cons_zero, List.getD_cons_succ]
  intro a1 _
  have b1 := c_eq a1
  refine ⟨fun n => ?_, fun n => by omega⟩
  rw [show wideOf rGreat = 49829253988540319354550742249276084460127446355315915089527227471280320770991 by decide +kernel]
  rfl
/-! ### little arithmetic -/
def tCAdd : Tree := (.lett 8 (.int .u64) (.bin .add .u64 (.var 6) (.var 7))
(.lett 9 (.int .u64) (.bin .rem .u64 (.var 8) (.var 0))
(.nz (.var 0)
(.ret [(.var 9)]))))
theorem law_cAdd (f : FuncId) (e : Nat → Int) (hk : kkHas [.int .u64, .int .u64, .int .u64, .int .u64, .int .u64, .bit, .int .u64, .int .u64] [e 0, e 1, e 2, e 3, e 4, e 5, e 6, e 7]) (hp : (kCAdd f).pre [e 0, e 1, e 2, e 3, e 4, e 5, e 6, e 7]) : tCAdd.says [] ⟨fun ys => ys = (kCAdd f).sem [e 0, e 1, e 2, e 3, e 4, e 5, e 6, e 7], []⟩ e := by
  obtain ⟨p0, p1, p2, p3⟩ := hp
  obtain ⟨_, _, _, _, _, _, h6, h7, _⟩ := hk
  have u6 := has_u64 h6
  have u7 := has_u64 h7
  simp only [tCAdd, kCAdd, Tree.says, List.getElem?_cons_zero, List.getElem?_cons_succ, List.map, ev_lit, ev_var, ev_limb, D.ev, List.getD_cons_zero, List.getD_cons_succ]
  intro a8 _ a9 _
  have c8 : e 8 = e 6 + e 7 := by rw [a8]; simp only [binE, wr]; omega
  refine ⟨by omega, ?_⟩
  rw [a9, c8]; simp only [binE]; rw [Int.tmod_eq_emod_of_nonneg (by omega)]
def tCNeg : Tree := (.lett 7 (.int .u64) (.bin .sub .u64 (.var 0) (.var 6))
(.lett 8 (.int .u64) (.bin .rem .u64 (.var 7) (.var 0))
(.nz (.var 0)
(.ret [(.var 8)]))))
theorem law_cNeg (f : FuncId) (e : Nat → Int) (hk : kkHas [.int .u64, .int .u64, .int .u64, .int .u64, .int .u64, .bit, .int .u64] [e 0, e 1, e 2, e 3, e 4, e 5, e 6]) (hp : (kCNeg f).pre [e 0, e 1, e 2, e 3, e 4, e 5, e 6]) : tCNeg.says [] ⟨fun ys => ys = (kCNeg f).sem [e 0, e 1, e 2, e 3, e 4, e 5, e 6], []⟩ e := by
  obtain ⟨p0, p1, p2⟩ := hp
  obtain ⟨_, _, _, _, _, _, h6, _⟩ := hk
  have u6 := has_u64 h6
  simp only [tCNeg, kCNeg, Tree.says, List.getElem?_cons_zero, List.getElem?_cons_succ, List.map, ev_lit, ev_var, ev_limb, D.ev, List.getD_cons_zero, List.getD_cons_succ]
  intro a7 _ a8 _
  have c7 : e 7 = e 0 - e 6 := by rw [a7]; simp only [binE, wr]; omega
  refine ⟨by omega, ?_⟩
  rw [a8, c7]; simp only [binE]; rw [Int.tmod_eq_emod_of_nonneg (by omega)]
  congr 1
  exact md 1 (by omega)
def tCSub : Tree := (.req 1 [(.var 0), (.var 1), (.var 2), (.var 3), (.var 4), (.var 5), (.var 7)]
(.lett 200 (.int .u64) (.app 1 0 [(.var 0), (.var 1), (.var 2), (.var 3), (.var 4), (.var 5), (.var 7)])
(.req 0 [(.var 0), (.var 1), (.var 2), (.var 3), (.var 4), (.var 5), (.var 6), (.var 200)]
(.lett 248 (.int .u64) (.app 0 0 [(.var 0), (.var 1), (.var 2), (.var 3), (.var 4), (.var 5), (.var 6), (.var 200)])
(.ret [(.var 248)])))))
theorem law_cSub (f1 f2 f : FuncId) (e : Nat → Int) (hp : (kCSub f).pre [e 0, e 1, e 2, e 3, e 4, e 5, e 6, e 7]) : tCSub.says [kCAdd f1, kCNeg f2] ⟨fun ys => ys = (kCSub f).sem [e 0, e 1, e 2, e 3, e 4, e 5, e 6, e 7], []⟩ e := by
  obtain ⟨p0, p1, p2, p3⟩ := hp
  simp only [tCSub, kCAdd, kCNeg, kCSub, Tree.says, List.getElem?_cons_zero, List.getElem?_cons_succ, List.map, ev_lit, ev_var, ev_limb, D.ev, List.getD_cons_zero, List.getD_cons_succ]
  refine ⟨⟨p0, p1, p3⟩, fun a1 _ => ⟨⟨p0, p1, p2, by rw [a1]; have := (md_lt (x := -e 7) p0).2; omega⟩, fun a2 _ => ?_⟩⟩
  rw [a2, a1, Int.add_emod_emod, Int.sub_eq_add_neg]
def tCMul : Tree := (.req 0 [(.var 6), (.var 7)]
(.lett 8 (.int .u64) (.app 0 0 [(.var 6), (.var 7)])
(.lett 9 (.int .u64) (.app 0 1 [(.var 6), (.var 7)])
(.req 1 [(.var 8), (.var 9), (.var 0)]
(.lett 10 (.int .u64) (.app 1 0 [(.var 8), (.var 9), (.var 0)])
(.ret [(.var 10)]))))))
theorem law_cMul (f1 f2 f : FuncId) (e : Nat → Int) (hp : (kCMul f).pre [e 0, e 1, e 2, e 3, e 4, e 5, e 6, e 7]) : tCMul.says [kMul64 f1, kRem64 f2] ⟨fun ys => ys = (kCMul f).sem [e 0, e 1, e 2, e 3, e 4, e 5, e 6, e 7], []⟩ e := by
  have p0 : 0 < e 0 := hp
  simp only [tCMul, kMul64, kRem64, kCMul, Tree.says, List.getElem?_cons_zero, List.getElem?_cons_succ, List.map, ev_lit, ev_var, ev_limb, D.ev, List.getD_cons_zero, List.getD_cons_succ]
  refine ⟨trivial, fun a1 _ a2 _ => ⟨p0, fun a3 _ => ?_⟩⟩
  rw [a3, a1, a2]
  congr 2
  generalize e 6 * e 7 = x
  omega
def tSmall : Tree := (.req 0 [(.var 2), (.lit 0), (.lit 0), (.lit 0), (.lit 0), (.lit 0), (.var 0), (.var 1)]
(.lett 291 (.int .u64) (.app 0 0 [(.var 2), (.lit 0), (.lit 0), (.lit 0), (.lit 0), (.lit 0), (.var 0), (.var 1)])
(.req 0 [(.var 2), (.lit 0), (.lit 0), (.lit 0), (.lit 0), (.lit 0), (.lit 0), (.lit 0)]
(.lett 579 (.int .u64) (.app 0 0 [(.var 2), (.lit 0), (.lit 0), (.lit 0), (.lit 0), (.lit 0), (.lit 0), (.lit 0)])
(.req 1 [(.var 2), (.lit 0), (.lit 0), (.lit 0), (.lit 0), (.lit 0), (.var 291), (.var 579)]
(.lett 627 (.int .u64) (.app 1 0 [(.var 2), (.lit 0), (.lit 0), (.lit 0), (.lit 0), (.lit 0), (.var 291), (.var 579)])
(.req 0 [(.var 2), (.lit 0), (.lit 0), (.lit 0), (.lit 0), (.lit 0), (.var 0), (.lit 0)]
(.lett 963 (.int .u64) (.app 0 0 [(.var 2), (.lit 0), (.lit 0), (.lit 0), (.lit 0), (.lit 0), (.var 0), (.lit 0)])
(.req 0 [(.var 2), (.lit 0), (.lit 0), (.lit 0), (.lit 0), (.lit 0), (.lit 0), (.var 1)]
(.lett 1251 (.int .u64) (.app 0 0 [(.var 2), (.lit 0), (.lit 0), (.lit 0), (.lit 0), (.lit 0), (.lit 0), (.var 1)])
(.req 2 [(.var 2), (.lit 0), (.lit 0), (.lit 0), (.lit 0), (.lit 0), (.var 963), (.var 1251)]
(.lett 1299 (.int .u64) (.app 2 0 [(.var 2), (.lit 0), (.lit 0), (.lit 0), (.lit 0), (.lit 0), (.var 963), (.var 1251)])
(.ret [(.var 627)])))))))))))))
theorem law_small (f1 f2 f3 f : FuncId) (e : Nat → Int) (hp : (kSmall f).pre [e 0, e 1, e 2]) : tSmall.says [kCMul f1, kCSub f2, kCAdd f3] ⟨fun ys => ys = (kSmall f).sem [e 0, e 1, e 2], []⟩ e := by
  obtain ⟨p0, p1⟩ := hp
  simp only [tSmall, kCMul, kCSub, kCAdd, kSmall, Tree.says, List.getElem?_cons_zero, List.getElem?_cons_succ, List.map, ev_lit, ev_var, ev_limb, D.ev, List.getD_cons_zero, List.getD_cons_succ]
  have hm : ∀ x : Int, x % e 2 ≤ e 2 := fun x => by have := (md_lt (x := x) p0).2; omega
  refine ⟨p0, fun a1 _ => ⟨p0, fun a2 _ => ⟨⟨p0, p1, by rw [a1]; exact hm _, by rw [a2]; exact hm _⟩, fun a3 _ => ⟨p0, fun a4 _ => ⟨p0, fun a5 _ => ⟨⟨p0, p1, by rw [a4]; exact hm _, by rw [a5]; exact hm _⟩, fun a6 _ => ?_⟩⟩⟩⟩⟩⟩
  rw [a3, a1, a2]
  simp
/-! ### suite's scalars, by the reference -/
def tRScalar : Tree := (.req 0 [(.var 0)]
(.lett 98 .num (.app 0 0 [(.var 0)])
(.req 1 [(.var 1), (.var 98)]
(.lett 146 (.int .i64) (.app 1 0 [(.var 1), (.var 98)])
(.lett 194 .bit (.cmp .lss (.var 146) (.lit 0))
(.ret [(.var 194)]))))))
theorem law_rScalar (f1 f2 f : FuncId) (e : Nat → Int) (hp : (kRScalar f).pre [e 0, e 1]) : tRScalar.says [kOrder f1, kWCmp f2] ⟨fun ys => ys = (kRScalar f).sem [e 0, e 1], []⟩ e := by
  simp only [tRScalar, kOrder, kWCmp, kRScalar, Tree.says, List.getElem?_cons_zero, List.getElem?_cons_succ, List.map, ev_lit, ev_var, ev_limb, D.ev, List.getD_cons_zero, List.getD_cons_succ]
  refine ⟨hp, fun a1 _ => ⟨trivial, fun a2 _ a3 _ => ?_⟩⟩
  have := cmp_lt a2 a3
  rw [a1] at this
  unfold bi
  split <;> congr 1 <;> omega
theorem rOf_small {s : Int} (h : isS s) (h0 : s ≠ 0) : rOf s < 9223372036854775808 := by
  unfold isS at h
  unfold rOf
  rw [if_neg h0]
  split <;> decide
theorem lim0_small {x : Int} (h0 : 0 ≤ x) (h : x < 18446744073709551616) : lim x 0 = x := by rw [lim_0]; exact Int.emod_eq_of_lt h0 h
theorem join1 (x : Int) : joinE [x, 0, 0, 0, 0, 0] = x := by simp [joinE]
def tRAdd : Tree := (.lett 3 .bit (.cmp .eql (.var 0) (.lit 0))
(.split 3
 (.req 2 [(.var 0)]
 (.lett 52 .num (.app 2 0 [(.var 0)])
 (.lett 53 (.int .u64) (.app 2 1 [(.var 0)])
 (.lett 54 .num (.app 2 2 [(.var 0)])
 (.req 1 [(.var 52), (.var 53), (.var 54), (.var 1), (.var 2)]
 (.lett 196 .num (.app 1 0 [(.var 52), (.var 53), (.var 54), (.var 1), (.var 2)])
 (.ret [(.var 196)])))))))
 (.lett 196 (.int .u64) (.bin .add .u64 (.limb 1 0) (.limb 2 0))
 (.req 0 [(.var 0)]
 (.lett 292 .num (.app 0 0 [(.var 0)])
 (.lett 388 (.int .u64) (.bin .rem .u64 (.var 196) (.limb 292 0))
 (.nz (.limb 292 0)
 (.lett 532 .num (.join [(.var 388), (.lit 0), (.lit 0), (.lit 0), (.lit 0), (.lit 0)])
 (.ret [(.var 532)])))))))))
theorem law_rAdd (f1 f2 f3 f : FuncId) (e : Nat → Int) (hk : kkHas [.int .i64, .num, .num] [e 0, e 1, e 2]) (hp : (kR2 f (· + ·)).pre [e 0, e 1, e 2]) : tRAdd.says [kOrder f1, kFAdd f2, kField f3] ⟨fun ys => ys = (kR2 f (· + ·)).sem [e 0, e 1, e 2], []⟩ e := by
  obtain ⟨hs, ha, hb⟩ := hp
  obtain ⟨_, h1, h2, _⟩ := hk
  simp only [KK.has] at h1 h2
  simp only [tRAdd, kOrder, kFAdd, kField, kR2, Tree.says, List.getElem?_cons_zero, List.getElem?_cons_succ, List.map, ev_lit, ev_var, ev_limb, D.ev, List.getD_cons_zero, List.getD_cons_succ]
  intro a3 _
  have b3 := c_eq a3
  refine ⟨fun n => ?_, fun n => ?_⟩
  · have h0 : e 0 = 0 := by omega
    rw [h0] at ha hb ⊢
    refine ⟨rfl, fun a4 _ a5 _ a6 _ => ⟨by rw [a4]; exact ⟨field_good.1.2.2, ha, hb⟩, fun a7 _ => ?_⟩⟩
    rw [a7, a4]; rfl
  · have hr := rOf_small hs (by omega)
    have hr3 := (rOf_ok hs).2.1
    rw [lim0_small h1.1 (by omega), lim0_small h2.1 (by omega)]
    intro a4 _
    refine ⟨hs, fun a5 _ a6 _ => ?_⟩
    rw [a5, lim0_small (by omega) (by omega)] at a6
    rw [a5, lim0_small (by omega) (by omega)]
    refine ⟨by omega, fun a7 _ => ?_⟩
    have c4 : e 196 = e 1 + e 2 := by rw [a4]; simp only [binE, wr]; omega
    rw [a7, join1, a6, c4]; simp only [binE]; rw [Int.tmod_eq_emod_of_nonneg (by omega)]
def tRNeg : Tree := (.lett 2 .bit (.eqs [((.limb 1 0), (.lit 0)), ((.limb 1 1), (.lit 0)), ((.limb 1 2), (.lit 0)), ((.limb 1 3), (.lit 0)), ((.limb 1 4), (.lit 0)), ((.limb 1 5), (.lit 0))])
(.split 2
 (.ret [(.var 1)])
 (.req 0 [(.var 0)]
 (.lett 51 .num (.app 0 0 [(.var 0)])
 (.req 1 [(.var 51), (.var 1)]
 (.lett 147 .num (.app 1 0 [(.var 51), (.var 1)])
 (.lett 148 .bit (.app 1 1 [(.var 51), (.var 1)])
 (.ret [(.var 147)]))))))))
theorem law_rNeg (f1 f2 f : FuncId) (e : Nat → Int) (hk : kkHas [.int .i64, .num] [e 0, e 1]) (hp : (kRNeg f).pre [e 0, e 1]) : tRNeg.says [kOrder f1, kWSub f2] ⟨fun ys => ys = (kRNeg f).sem [e 0, e 1], []⟩ e := by
  obtain ⟨hs, ha⟩ := hp
  obtain ⟨_, h1, _⟩ := hk
  have hr3 := (rOf_ok hs).2
  rw [p382] at hr3
  simp only [tRNeg, kOrder, kWSub, kRNeg, Tree.says, List.getElem?_cons_zero, List.getElem?_cons_succ, List.map, ev_lit, ev_var, ev_limb, D.ev, List.getD_cons_zero, List.getD_cons_succ]
  simp only [KK.has] at h1
  intro a2 _
  have b2 := c_num0 a2 h1
  refine ⟨fun n => ?_, fun n => ?_⟩
  · rw [show e 1 = 0 by omega]; simp
  · refine ⟨hs, fun a3 _ => ⟨trivial, fun a4 _ _ _ => ?_⟩⟩
    rw [a4, a3, Int.emod_eq_of_lt (by omega) (by unfold N384; omega)]
    congr 1
    exact (md_eq (-1) (by omega) (by omega) (by omega)).symm
def tRSub : Tree := (.req 1 [(.var 0), (.var 2)]
(.lett 195 .num (.app 1 0 [(.var 0), (.var 2)])
(.req 0 [(.var 0), (.var 1), (.var 195)]
(.lett 243 .num (.app 0 0 [(.var 0), (.var 1), (.var 195)])
(.ret [(.var 243)])))))
theorem law_rSub (f1 f2 f : FuncId) (e : Nat → Int) (hp : (kR2 f (· - ·)).pre [e 0, e 1, e 2]) : tRSub.says [kR2 f1 (· + ·), kRNeg f2] ⟨fun ys => ys = (kR2 f (· - ·)).sem [e 0, e 1, e 2], []⟩ e := by
  obtain ⟨hs, ha, hb⟩ := hp
  have hr3 := (rOf_ok hs).2.1
  simp only [tRSub, kR2, kRNeg, Tree.says, List.getElem?_cons_zero, List.getElem?_cons_succ, List.map, ev_lit, ev_var, ev_limb, D.ev, List.getD_cons_zero, List.getD_cons_succ]
  refine ⟨⟨hs, hb⟩, fun a1 _ => ⟨⟨hs, ha, by rw [a1]; exact (md_lt (by omega)).2⟩, fun a2 _ => ?_⟩⟩
  rw [a2, a1, Int.add_emod_emod, Int.sub_eq_add_neg]
def tRMul : Tree := (.lett 3 .bit (.cmp .eql (.var 0) (.lit 0))
(.split 3
 (.req 3 [(.var 0)]
 (.lett 52 .num (.app 3 0 [(.var 0)])
 (.lett 53 (.int .u64) (.app 3 1 [(.var 0)])
 (.lett 54 .num (.app 3 2 [(.var 0)])
 (.req 1 [(.var 52), (.var 53), (.var 54), (.var 1), (.var 2)]
 (.lett 196 .num (.app 1 0 [(.var 52), (.var 53), (.var 54), (.var 1), (.var 2)])
 (.ret [(.var 196)])))))))
 (.req 0 [(.var 0)]
 (.lett 244 .num (.app 0 0 [(.var 0)])
 (.req 2 [(.limb 1 0), (.limb 2 0), (.limb 244 0)]
 (.lett 340 (.int .u64) (.app 2 0 [(.limb 1 0), (.limb 2 0), (.limb 244 0)])
 (.lett 484 .num (.join [(.var 340), (.lit 0), (.lit 0), (.lit 0), (.lit 0), (.lit 0)])
 (.ret [(.var 484)]))))))))
theorem law_rMul (f1 f2 f3 f4 f : FuncId) (e : Nat → Int) (hk : kkHas [.int .i64, .num, .num] [e 0, e 1, e 2]) (hp : (kR2 f (· * ·)).pre [e 0, e 1, e 2]) : tRMul.says [kOrder f1, kFMul f2, kSmall f3, kField f4] ⟨fun ys => ys = (kR2 f (· * ·)).sem [e 0, e 1, e 2], []⟩ e := by
  obtain ⟨hs, ha, hb⟩ := hp
  obtain ⟨_, h1, h2, _⟩ := hk
  simp only [KK.has] at h1 h2
  simp only [tRMul, kOrder, kFMul, kSmall, kField, kR2, Tree.says, List.getElem?_cons_zero, List.getElem?_cons_succ, List.map, ev_lit, ev_var, ev_limb, D.ev, List.getD_cons_zero, List.getD_cons_succ]
  intro a3 _
  have b3 := c_eq a3
  refine ⟨fun n => ?_, fun n => ?_⟩
  · have h0 : e 0 = 0 := by omega
    rw [h0] at ha hb ⊢
    refine ⟨rfl, fun a4 _ a5 _ a6 _ => ⟨by rw [a4, a5, a6]; exact ⟨field_good, .inl ha⟩, fun a7 _ => ?_⟩⟩
    rw [a7, a4]; rfl
  · have hr := rOf_small hs (by omega)
    have hr3 := (rOf_ok hs).2.1
    rw [lim0_small h1.1 (by omega), lim0_small h2.1 (by omega)]
    refine ⟨hs, fun a5 _ => ?_⟩
    rw [a5, lim0_small (by omega) (by omega)]
    refine ⟨⟨by omega, hr⟩, fun a6 _ a7 _ => ?_⟩
    rw [a7, join1, a6]
def tRInv : Tree := (.lett 2 .bit (.cmp .eql (.var 0) (.lit 0))
(.split 2
 (.req 2 [(.var 0)]
 (.lett 51 .num (.app 2 0 [(.var 0)])
 (.lett 52 (.int .u64) (.app 2 1 [(.var 0)])
 (.lett 53 .num (.app 2 2 [(.var 0)])
 (.req 0 [(.var 51), (.var 52), (.var 53), (.var 1)]
 (.lett 147 .num (.app 0 0 [(.var 51), (.var 52), (.var 53), (.var 1)])
 (.ret [(.var 147)])))))))
 (.req 3 [(.var 0)]
 (.lett 3 .num (.app 3 0 [(.var 0)])
 (.loop [(.lit 63), (.lit 1)] [(.int .i64), (.int .u64)] 4
 (.lett 6 .bit (.cmp .geq (.var 4) (.lit 0))
 (.split 6
  (.req 1 [(.var 5), (.var 5), (.limb 3 0)]
  (.lett 7 (.int .u64) (.app 1 0 [(.var 5), (.var 5), (.limb 3 0)])
  (.lett 8 (.int .u64) (.bin .sub .u64 (.limb 3 0) (.lit 2))
  (.lett 9 .bit (.cmp .leq (.lit 0) (.var 4))
  (.lett 10 (.int .u64) (.bin .shr .u64 (.var 8) (.var 4))
  (.nz (.var 9)
  (.lett 11 (.int .u64) (.bin .and .u64 (.var 10) (.lit 1))
  (.lett 12 .bit (.cmp .eql (.var 11) (.lit 1))
  (.split 12
   (.req 1 [(.var 7), (.limb 1 0), (.limb 3 0)]
   (.lett 13 (.int .u64) (.app 1 0 [(.var 7), (.limb 1 0), (.limb 3 0)])
   (.lett 14 (.int .i64) (.bin .sub .i64 (.var 4) (.lit 1))
   (.back 0 [(.var 14), (.var 13)]))))
   (.lett 13 (.int .i64) (.bin .sub .i64 (.var 4) (.lit 1))
   (.back 0 [(.var 13), (.var 7)])))))))))))
  (.lett 7 .num (.join [(.var 5), (.lit 0), (.lit 0), (.lit 0), (.lit 0), (.lit 0)])
  (.ret [(.var 7)])))))))))
theorem law_rInv (f1 f2 f3 f4 f : FuncId) (e : Nat → Int) (hk : kkHas [.int .i64, .num] [e 0, e 1]) (hp : (kRInv f).pre [e 0, e 1]) : tRInv.says [kFInv f1, kSmall f2, kField f3, kOrder f4] ⟨fun ys => ys = (kRInv f).sem [e 0, e 1], []⟩ e := by
  obtain ⟨hs, ha⟩ := hp
  obtain ⟨_, h1, _⟩ := hk
  simp only [KK.has] at h1
  simp only [tRInv, kFInv, kSmall, kField, kOrder, kRInv, Tree.says, List.getElem?_cons_zero, List.getElem?_cons_succ, List.map, ev_lit, ev_var, ev_limb, D.ev, List.getD_cons_zero, List.getD_cons_succ]
  intro a3 _
  have b3 := c_eq a3
  refine ⟨fun n => ?_, fun n => ?_⟩
  · have h0 : e 0 = 0 := by omega
    rw [h0] at ha ⊢
    refine ⟨rfl, fun a4 _ a5 _ a6 _ => ⟨by rw [a4, a5, a6]; exact ⟨field_good, ha⟩, fun a7 _ => ?_⟩⟩
    rw [a7, a4]; rfl
  · have hr := rOf_small hs (by omega)
    have hr3 := (rOf_ok hs).2.1
    refine ⟨hs, fun a5 _ => ?_⟩
    have hl3 : lim (e 3) 0 = rOf (e 0) := by rw [a5]; exact lim0_small (by omega) (by omega)
    have hl1 : lim (e 1) 0 = e 1 := lim0_small h1.1 (by omega)
    generalize hR : rOf (e 0) = R at *
    refine ⟨fun | [i, o] => -1 ≤ i ∧ i ≤ 63 ∧ o = e 1 ^ ((R - 2) / 2 ^ (i + 1).toNat).toNat % R | _ => False, fun | [i, _] => (i + 1).toNat | _ => 0, ?_, fun e' he hkk hI => ?_⟩
    · refine ⟨by decide, by decide, ?_⟩
      rw [show ((63 : Int) + 1).toNat = 64 from rfl, Int.ediv_eq_zero_of_lt (by omega) (by rw [p64']; omega)]
      rw [Int.toNat_zero, Int.pow_zero]
      exact (Int.emod_eq_of_lt (by decide) (by omega)).symm
    · obtain ⟨i1, i2, i3⟩ : -1 ≤ e' 4 ∧ e' 4 ≤ 63 ∧ e' 5 = e 1 ^ ((R - 2) / 2 ^ (e' 4 + 1).toNat).toNat % R := hI
      rw [he 3 (by decide), he 1 (by decide), hl3, hl1]
      intro a6 _
      have b6 := c_ge a6
      refine ⟨fun hs1 => ⟨⟨by omega, hr⟩, fun a7 _ a8 _ a9 _ a10 _ => ?_⟩, fun hs1 => ?_⟩
      · obtain ⟨n, hi⟩ := Int.eq_ofNat_of_zero_le (show 0 ≤ e' 4 by omega)
        rw [hi, show ((n : Int) + 1).toNat = n + 1 by omega] at i3
        have c8 : e' 8 = R - 2 := by rw [a8]; simp only [binE, wr]; omega
        have c10 : e' 10 = (R - 2) / 2 ^ n := by
          rw [a10, c8, hi]; simp only [binE]
          rw [show min ((n : Int).toNat) IntKind.u64.bits = n by show min n 64 = n; omega, Int.natCast_pow]
          exact Int.fdiv_eq_ediv_of_nonneg _ (Int.pow_nonneg (by decide))
        have hp2 : (0 : Int) < 2 ^ n := Int.pow_pos (by decide)
        have hU : U (e' 10) := by
          rw [c10]; exact ⟨Int.ediv_nonneg (by omega) (by omega), Int.lt_of_le_of_lt (Int.ediv_le_self _ (by omega)) (by omega)⟩
        refine ⟨bit_nz a9 (by omega), fun a11 _ a12 _ => ?_⟩
        have c11 := and_1 a11 hU
        have b12 := c_eq a12
        rw [c10] at c11
        refine ⟨fun hs2 => ⟨⟨by omega, hr⟩, fun a13 _ a14 _ => ?_⟩, fun hs2 => ?_⟩
        · have h14 : e' 14 = n - 1 := by rw [a14]; simp only [binE, wr]; omega
          show (-1 ≤ e' 14 ∧ e' 14 ≤ 63 ∧ e' 13 = e 1 ^ ((R - 2) / 2 ^ (e' 14 + 1).toNat).toNat % R) ∧ (e' 14 + 1).toNat < (e' 4 + 1).toNat
          rw [h14, hi]
          refine ⟨⟨by omega, by omega, ?_⟩, by omega⟩
          rw [show ((n : Int) - 1 + 1).toNat = n by omega]
          exact pow_step1 (by omega) i3 a7 a13 (by rw [← c11]; omega)
        · intro a13 _
          have h13 : e' 13 = n - 1 := by rw [a13]; simp only [binE, wr]; omega
          show (-1 ≤ e' 13 ∧ e' 13 ≤ 63 ∧ e' 7 = e 1 ^ ((R - 2) / 2 ^ (e' 13 + 1).toNat).toNat % R) ∧ (e' 13 + 1).toNat < (e' 4 + 1).toNat
          rw [h13, hi]
          refine ⟨⟨by omega, by omega, ?_⟩, by omega⟩
          rw [show ((n : Int) - 1 + 1).toNat = n by omega]
          exact pow_step0 (by omega) i3 a7 (by rw [← c11]; have := and_1 a11 hU; omega)
      · have h4' : e' 4 = -1 := by omega
        intro a7 _
        rw [a7, join1, i3, h4']
        show [e 1 ^ ((R - 2) / 1).toNat % R] = _
        rw [Int.ediv_one]
end Go.Sx

/- The law of SuiteScalars, a way for each of its cases (printed by gscal.py). -/
namespace Go.Sx
open Go Go.RowKit
set_option maxRecDepth 100000
set_option linter.unusedSimpArgs false
set_option linter.unusedVariables false
def tIs : Tree := (.lett 1 .bit (.cmp .geq (.var 0) (.lit 0))
(.split 1
 (.lett 2 .bit (.cmp .leq (.var 0) (.lit 2))
 (.ret [(.var 2)]))
 (.ret [(.lit 0)])))
theorem law_is (f : FuncId) (e : Nat → Int) : tIs.says [] ⟨fun ys => ys = (kIs f).sem [e 0], []⟩ e := by
  simp only [tIs, kIs, Tree.says, List.getElem?_cons_zero, List.getElem?_cons_succ, List.map, ev_lit, ev_var, ev_limb, D.ev, List.getD_cons_zero, List.getD_cons_succ]
  intro a1 _
  have b1 := c_ge a1
  refine ⟨fun n => ?_, fun n => ?_⟩
  · intro a2 _
    have b2 := c_le a2
    by_cases h : isS (e 0)
    · rw [bi, if_pos h]; unfold isS at h; congr 1; omega
    · rw [bi, if_neg h]; unfold isS at h; congr 1; omega
  · rw [bi, if_neg (by unfold isS; omega)]
def tScal : Tree := (.req 14 [(.var 0)]
(.lett 3 .bit (.app 14 0 [(.var 0)])
(.req 0 [(.var 0)]
(.lett 4 .num (.app 0 0 [(.var 0)])
(.lett 5 (.int .i64) (.app 0 1 [(.var 0)])
(.lett 6 .bit (.not (.var 3))
(.split 6
 (.req 1 [(.var 0), (.var 1), (.var 2)]
 (.lett 7 .num (.app 1 0 [(.var 0), (.var 1), (.var 2)])
 (.lett 8 (.int .i64) (.app 1 1 [(.var 0), (.var 1), (.var 2)])
 (.req 2 [(.var 0), (.var 1), (.var 2)]
 (.lett 9 .num (.app 2 0 [(.var 0), (.var 1), (.var 2)])
 (.lett 10 (.int .i64) (.app 2 1 [(.var 0), (.var 1), (.var 2)])
 (.req 3 [(.var 0), (.var 1), (.var 2)]
 (.lett 11 .num (.app 3 0 [(.var 0), (.var 1), (.var 2)])
 (.lett 12 (.int .i64) (.app 3 1 [(.var 0), (.var 1), (.var 2)])
 (.req 4 [(.var 0), (.var 1)]
 (.lett 13 .num (.app 4 0 [(.var 0), (.var 1)])
 (.lett 14 (.int .i64) (.app 4 1 [(.var 0), (.var 1)])
 (.req 5 [(.var 0), (.var 1)]
 (.lett 15 .num (.app 5 0 [(.var 0), (.var 1)])
 (.lett 16 (.int .i64) (.app 5 1 [(.var 0), (.var 1)])
 (.req 13 [(.var 4), (.var 5), (.lit 0), (.var 1)]
 (.lett 17 .bit (.app 13 0 [(.var 4), (.var 5), (.lit 0), (.var 1)])
 (.split 17
  (.req 13 [(.var 7), (.var 8), (.lit 0), (.var 1)]
  (.lett 18 .bit (.app 13 0 [(.var 7), (.var 8), (.lit 0), (.var 1)])
  (.split 18
   (.req 13 [(.var 9), (.var 10), (.lit 0), (.var 1)]
   (.lett 19 .bit (.app 13 0 [(.var 9), (.var 10), (.lit 0), (.var 1)])
   (.split 19
    (.req 13 [(.var 11), (.var 12), (.lit 0), (.var 1)]
    (.lett 20 .bit (.app 13 0 [(.var 11), (.var 12), (.lit 0), (.var 1)])
    (.split 20
     (.req 13 [(.var 13), (.var 14), (.lit 0), (.var 1)]
     (.lett 21 .bit (.app 13 0 [(.var 13), (.var 14), (.lit 0), (.var 1)])
     (.split 21
      (.req 13 [(.var 15), (.var 16), (.lit 0), (.var 1)]
      (.lett 22 .bit (.app 13 0 [(.var 15), (.var 16), (.lit 0), (.var 1)])
      (.ret [(.var 22)])))
      (.ret [(.lit 0)]))))
     (.ret [(.lit 0)]))))
    (.ret [(.lit 0)]))))
   (.ret [(.lit 0)]))))
  (.ret [(.lit 0)])))))))))))))))))))
 (.req 6 [(.var 0), (.var 1)]
 (.lett 7 .bit (.app 6 0 [(.var 0), (.var 1)])
 (.split 7
  (.req 6 [(.var 0), (.var 2)]
  (.lett 8 .bit (.app 6 0 [(.var 0), (.var 2)])
  (.req 7 [(.var 0)]
  (.lett 153 .num (.app 7 0 [(.var 0)])
  (.req 13 [(.var 4), (.var 5), (.lit 1), (.var 153)]
  (.lett 201 .bit (.app 13 0 [(.var 4), (.var 5), (.lit 1), (.var 153)])
  (.lett 249 .bit (.not (.var 201))
  (.split 249
   (.ret [(.lit 0)])
   (.req 1 [(.var 0), (.var 1), (.var 2)]
   (.lett 297 .num (.app 1 0 [(.var 0), (.var 1), (.var 2)])
   (.lett 298 (.int .i64) (.app 1 1 [(.var 0), (.var 1), (.var 2)])
   (.req 2 [(.var 0), (.var 1), (.var 2)]
   (.lett 299 .num (.app 2 0 [(.var 0), (.var 1), (.var 2)])
   (.lett 300 (.int .i64) (.app 2 1 [(.var 0), (.var 1), (.var 2)])
   (.req 3 [(.var 0), (.var 1), (.var 2)]
   (.lett 301 .num (.app 3 0 [(.var 0), (.var 1), (.var 2)])
   (.lett 302 (.int .i64) (.app 3 1 [(.var 0), (.var 1), (.var 2)])
   (.req 4 [(.var 0), (.var 1)]
   (.lett 303 .num (.app 4 0 [(.var 0), (.var 1)])
   (.lett 304 (.int .i64) (.app 4 1 [(.var 0), (.var 1)])
   (.req 5 [(.var 0), (.var 1)]
   (.lett 305 .num (.app 5 0 [(.var 0), (.var 1)])
   (.lett 306 (.int .i64) (.app 5 1 [(.var 0), (.var 1)])
   (.lett 307 .bit (.not (.var 8))
   (.split 307
    (.req 13 [(.var 297), (.var 298), (.lit 0), (.var 1)]
    (.lett 308 .bit (.app 13 0 [(.var 297), (.var 298), (.lit 0), (.var 1)])
    (.split 308
     (.req 13 [(.var 299), (.var 300), (.lit 0), (.var 1)]
     (.lett 309 .bit (.app 13 0 [(.var 299), (.var 300), (.lit 0), (.var 1)])
     (.split 309
      (.req 13 [(.var 301), (.var 302), (.lit 0), (.var 1)]
      (.lett 310 .bit (.app 13 0 [(.var 301), (.var 302), (.lit 0), (.var 1)])
      (.lett 311 .bit (.not (.var 310))
      (.split 311
       (.ret [(.lit 0)])
       (.lett 312 .bit (.not (.var 7))
       (.split 312
        (.req 13 [(.var 303), (.var 304), (.lit 0), (.var 1)]
        (.lett 313 .bit (.app 13 0 [(.var 303), (.var 304), (.lit 0), (.var 1)])
        (.split 313
         (.req 13 [(.var 305), (.var 306), (.lit 0), (.var 1)]
         (.lett 314 .bit (.app 13 0 [(.var 305), (.var 306), (.lit 0), (.var 1)])
         (.lett 315 .bit (.not (.var 314))
         (.split 315
          (.ret [(.lit 0)])
          (.req 11 [(.var 0), (.var 1)]
          (.lett 604 .num (.app 11 0 [(.var 0), (.var 1)])
          (.req 13 [(.var 303), (.var 304), (.lit 1), (.var 604)]
          (.lett 652 .bit (.app 13 0 [(.var 303), (.var 304), (.lit 1), (.var 604)])
          (.lett 700 .bit (.not (.var 652))
          (.split 700
           (.ret [(.lit 0)])
           (.lett 892 .bit (.eqs [((.limb 1 0), (.lit 0)), ((.limb 1 1), (.lit 0)), ((.limb 1 2), (.lit 0)), ((.limb 1 3), (.lit 0)), ((.limb 1 4), (.lit 0)), ((.limb 1 5), (.lit 0))])
           (.split 892
            (.lett 1084 .bit (.eqs [((.limb 305 0), (.limb 1 0)), ((.limb 305 1), (.limb 1 1)), ((.limb 305 2), (.limb 1 2)), ((.limb 305 3), (.limb 1 3)), ((.limb 305 4), (.limb 1 4)), ((.limb 305 5), (.limb 1 5))])
            (.lett 1085 .bit (.not (.var 1084))
            (.split 1085
             (.ret [(.lit 0)])
             (.lett 1228 .bit (.cmp .neq (.var 306) (.lit 6))
             (.split 1228
              (.ret [(.lit 0)])
              (.lett 1564 .bit (.eqs [((.limb 1 0), (.lit 0)), ((.limb 1 1), (.lit 0)), ((.limb 1 2), (.lit 0)), ((.limb 1 3), (.lit 0)), ((.limb 1 4), (.lit 0)), ((.limb 1 5), (.lit 0))])
              (.lett 1565 .bit (.not (.var 1564))
              (.split 1565
               (.req 12 [(.var 0), (.var 1)]
               (.lett 1852 .num (.app 12 0 [(.var 0), (.var 1)])
               (.req 13 [(.var 305), (.var 306), (.lit 1), (.var 1852)]
               (.lett 1900 .bit (.app 13 0 [(.var 305), (.var 306), (.lit 1), (.var 1852)])
               (.lett 1948 .bit (.not (.var 1900))
               (.split 1948
                (.ret [(.lit 0)])
                (.lett 2188 .bit (.not (.var 8))
                (.split 2188
                 (.ret [(.lit 1)])
                 (.req 8 [(.var 0), (.var 1), (.var 2)]
                 (.lett 2524 .num (.app 8 0 [(.var 0), (.var 1), (.var 2)])
                 (.req 13 [(.var 297), (.var 298), (.lit 1), (.var 2524)]
                 (.lett 2572 .bit (.app 13 0 [(.var 297), (.var 298), (.lit 1), (.var 2524)])
                 (.split 2572
                  (.req 9 [(.var 0), (.var 1), (.var 2)]
                  (.lett 2908 .num (.app 9 0 [(.var 0), (.var 1), (.var 2)])
                  (.req 13 [(.var 299), (.var 300), (.lit 1), (.var 2908)]
                  (.lett 2956 .bit (.app 13 0 [(.var 299), (.var 300), (.lit 1), (.var 2908)])
                  (.split 2956
                   (.req 10 [(.var 0), (.var 1), (.var 2)]
                   (.lett 3340 .num (.app 10 0 [(.var 0), (.var 1), (.var 2)])
                   (.req 13 [(.var 301), (.var 302), (.lit 1), (.var 3340)]
                   (.lett 3388 .bit (.app 13 0 [(.var 301), (.var 302), (.lit 1), (.var 3340)])
                   (.ret [(.var 3388)])))))
                   (.ret [(.lit 0)]))))))
                  (.ret [(.lit 0)]))))))))))))))
               (.lett 2188 .bit (.not (.var 8))
               (.split 2188
                (.ret [(.lit 1)])
                (.req 8 [(.var 0), (.var 1), (.var 2)]
                (.lett 2524 .num (.app 8 0 [(.var 0), (.var 1), (.var 2)])
                (.req 13 [(.var 297), (.var 298), (.lit 1), (.var 2524)]
                (.lett 2572 .bit (.app 13 0 [(.var 297), (.var 298), (.lit 1), (.var 2524)])
                (.split 2572
                 (.req 9 [(.var 0), (.var 1), (.var 2)]
                 (.lett 2908 .num (.app 9 0 [(.var 0), (.var 1), (.var 2)])
                 (.req 13 [(.var 299), (.var 300), (.lit 1), (.var 2908)]
                 (.lett 2956 .bit (.app 13 0 [(.var 299), (.var 300), (.lit 1), (.var 2908)])
                 (.split 2956
                  (.req 10 [(.var 0), (.var 1), (.var 2)]
                  (.lett 3340 .num (.app 10 0 [(.var 0), (.var 1), (.var 2)])
                  (.req 13 [(.var 301), (.var 302), (.lit 1), (.var 3340)]
                  (.lett 3388 .bit (.app 13 0 [(.var 301), (.var 302), (.lit 1), (.var 3340)])
                  (.ret [(.var 3388)])))))
                  (.ret [(.lit 0)]))))))
                 (.ret [(.lit 0)]))))))))))))))))
            (.lett 1564 .bit (.eqs [((.limb 1 0), (.lit 0)), ((.limb 1 1), (.lit 0)), ((.limb 1 2), (.lit 0)), ((.limb 1 3), (.lit 0)), ((.limb 1 4), (.lit 0)), ((.limb 1 5), (.lit 0))])
            (.lett 1565 .bit (.not (.var 1564))
            (.split 1565
             (.req 12 [(.var 0), (.var 1)]
             (.lett 1852 .num (.app 12 0 [(.var 0), (.var 1)])
             (.req 13 [(.var 305), (.var 306), (.lit 1), (.var 1852)]
             (.lett 1900 .bit (.app 13 0 [(.var 305), (.var 306), (.lit 1), (.var 1852)])
             (.lett 1948 .bit (.not (.var 1900))
             (.split 1948
              (.ret [(.lit 0)])
              (.lett 2188 .bit (.not (.var 8))
              (.split 2188
               (.ret [(.lit 1)])
               (.req 8 [(.var 0), (.var 1), (.var 2)]
               (.lett 2524 .num (.app 8 0 [(.var 0), (.var 1), (.var 2)])
               (.req 13 [(.var 297), (.var 298), (.lit 1), (.var 2524)]
               (.lett 2572 .bit (.app 13 0 [(.var 297), (.var 298), (.lit 1), (.var 2524)])
               (.split 2572
                (.req 9 [(.var 0), (.var 1), (.var 2)]
                (.lett 2908 .num (.app 9 0 [(.var 0), (.var 1), (.var 2)])
                (.req 13 [(.var 299), (.var 300), (.lit 1), (.var 2908)]
                (.lett 2956 .bit (.app 13 0 [(.var 299), (.var 300), (.lit 1), (.var 2908)])
                (.split 2956
                 (.req 10 [(.var 0), (.var 1), (.var 2)]
                 (.lett 3340 .num (.app 10 0 [(.var 0), (.var 1), (.var 2)])
                 (.req 13 [(.var 301), (.var 302), (.lit 1), (.var 3340)]
                 (.lett 3388 .bit (.app 13 0 [(.var 301), (.var 302), (.lit 1), (.var 3340)])
                 (.ret [(.var 3388)])))))
                 (.ret [(.lit 0)]))))))
                (.ret [(.lit 0)]))))))))))))))
             (.lett 2188 .bit (.not (.var 8))
             (.split 2188
              (.ret [(.lit 1)])
              (.req 8 [(.var 0), (.var 1), (.var 2)]
              (.lett 2524 .num (.app 8 0 [(.var 0), (.var 1), (.var 2)])
              (.req 13 [(.var 297), (.var 298), (.lit 1), (.var 2524)]
              (.lett 2572 .bit (.app 13 0 [(.var 297), (.var 298), (.lit 1), (.var 2524)])
              (.split 2572
               (.req 9 [(.var 0), (.var 1), (.var 2)]
               (.lett 2908 .num (.app 9 0 [(.var 0), (.var 1), (.var 2)])
               (.req 13 [(.var 299), (.var 300), (.lit 1), (.var 2908)]
               (.lett 2956 .bit (.app 13 0 [(.var 299), (.var 300), (.lit 1), (.var 2908)])
               (.split 2956
                (.req 10 [(.var 0), (.var 1), (.var 2)]
                (.lett 3340 .num (.app 10 0 [(.var 0), (.var 1), (.var 2)])
                (.req 13 [(.var 301), (.var 302), (.lit 1), (.var 3340)]
                (.lett 3388 .bit (.app 13 0 [(.var 301), (.var 302), (.lit 1), (.var 3340)])
                (.ret [(.var 3388)])))))
                (.ret [(.lit 0)]))))))
               (.ret [(.lit 0)])))))))))))))))))))))))
         (.ret [(.lit 0)]))))
        (.req 11 [(.var 0), (.var 1)]
        (.lett 601 .num (.app 11 0 [(.var 0), (.var 1)])
        (.req 13 [(.var 303), (.var 304), (.lit 1), (.var 601)]
        (.lett 649 .bit (.app 13 0 [(.var 303), (.var 304), (.lit 1), (.var 601)])
        (.lett 697 .bit (.not (.var 649))
        (.split 697
         (.ret [(.lit 0)])
         (.lett 889 .bit (.eqs [((.limb 1 0), (.lit 0)), ((.limb 1 1), (.lit 0)), ((.limb 1 2), (.lit 0)), ((.limb 1 3), (.lit 0)), ((.limb 1 4), (.lit 0)), ((.limb 1 5), (.lit 0))])
         (.split 889
          (.lett 1081 .bit (.eqs [((.limb 305 0), (.limb 1 0)), ((.limb 305 1), (.limb 1 1)), ((.limb 305 2), (.limb 1 2)), ((.limb 305 3), (.limb 1 3)), ((.limb 305 4), (.limb 1 4)), ((.limb 305 5), (.limb 1 5))])
          (.lett 1082 .bit (.not (.var 1081))
          (.split 1082
           (.ret [(.lit 0)])
           (.lett 1225 .bit (.cmp .neq (.var 306) (.lit 6))
           (.split 1225
            (.ret [(.lit 0)])
            (.lett 1561 .bit (.eqs [((.limb 1 0), (.lit 0)), ((.limb 1 1), (.lit 0)), ((.limb 1 2), (.lit 0)), ((.limb 1 3), (.lit 0)), ((.limb 1 4), (.lit 0)), ((.limb 1 5), (.lit 0))])
            (.lett 1562 .bit (.not (.var 1561))
            (.split 1562
             (.req 12 [(.var 0), (.var 1)]
             (.lett 1849 .num (.app 12 0 [(.var 0), (.var 1)])
             (.req 13 [(.var 305), (.var 306), (.lit 1), (.var 1849)]
             (.lett 1897 .bit (.app 13 0 [(.var 305), (.var 306), (.lit 1), (.var 1849)])
             (.lett 1945 .bit (.not (.var 1897))
             (.split 1945
              (.ret [(.lit 0)])
              (.lett 2185 .bit (.not (.var 8))
              (.split 2185
               (.ret [(.lit 1)])
               (.req 8 [(.var 0), (.var 1), (.var 2)]
               (.lett 2521 .num (.app 8 0 [(.var 0), (.var 1), (.var 2)])
               (.req 13 [(.var 297), (.var 298), (.lit 1), (.var 2521)]
               (.lett 2569 .bit (.app 13 0 [(.var 297), (.var 298), (.lit 1), (.var 2521)])
               (.split 2569
                (.req 9 [(.var 0), (.var 1), (.var 2)]
                (.lett 2905 .num (.app 9 0 [(.var 0), (.var 1), (.var 2)])
                (.req 13 [(.var 299), (.var 300), (.lit 1), (.var 2905)]
                (.lett 2953 .bit (.app 13 0 [(.var 299), (.var 300), (.lit 1), (.var 2905)])
                (.split 2953
                 (.req 10 [(.var 0), (.var 1), (.var 2)]
                 (.lett 3337 .num (.app 10 0 [(.var 0), (.var 1), (.var 2)])
                 (.req 13 [(.var 301), (.var 302), (.lit 1), (.var 3337)]
                 (.lett 3385 .bit (.app 13 0 [(.var 301), (.var 302), (.lit 1), (.var 3337)])
                 (.ret [(.var 3385)])))))
                 (.ret [(.lit 0)]))))))
                (.ret [(.lit 0)]))))))))))))))
             (.lett 2185 .bit (.not (.var 8))
             (.split 2185
              (.ret [(.lit 1)])
              (.req 8 [(.var 0), (.var 1), (.var 2)]
              (.lett 2521 .num (.app 8 0 [(.var 0), (.var 1), (.var 2)])
              (.req 13 [(.var 297), (.var 298), (.lit 1), (.var 2521)]
              (.lett 2569 .bit (.app 13 0 [(.var 297), (.var 298), (.lit 1), (.var 2521)])
              (.split 2569
               (.req 9 [(.var 0), (.var 1), (.var 2)]
               (.lett 2905 .num (.app 9 0 [(.var 0), (.var 1), (.var 2)])
               (.req 13 [(.var 299), (.var 300), (.lit 1), (.var 2905)]
               (.lett 2953 .bit (.app 13 0 [(.var 299), (.var 300), (.lit 1), (.var 2905)])
               (.split 2953
                (.req 10 [(.var 0), (.var 1), (.var 2)]
                (.lett 3337 .num (.app 10 0 [(.var 0), (.var 1), (.var 2)])
                (.req 13 [(.var 301), (.var 302), (.lit 1), (.var 3337)]
                (.lett 3385 .bit (.app 13 0 [(.var 301), (.var 302), (.lit 1), (.var 3337)])
                (.ret [(.var 3385)])))))
                (.ret [(.lit 0)]))))))
               (.ret [(.lit 0)]))))))))))))))))
          (.lett 1561 .bit (.eqs [((.limb 1 0), (.lit 0)), ((.limb 1 1), (.lit 0)), ((.limb 1 2), (.lit 0)), ((.limb 1 3), (.lit 0)), ((.limb 1 4), (.lit 0)), ((.limb 1 5), (.lit 0))])
          (.lett 1562 .bit (.not (.var 1561))
          (.split 1562
           (.req 12 [(.var 0), (.var 1)]
           (.lett 1849 .num (.app 12 0 [(.var 0), (.var 1)])
           (.req 13 [(.var 305), (.var 306), (.lit 1), (.var 1849)]
           (.lett 1897 .bit (.app 13 0 [(.var 305), (.var 306), (.lit 1), (.var 1849)])
           (.lett 1945 .bit (.not (.var 1897))
           (.split 1945
            (.ret [(.lit 0)])
            (.lett 2185 .bit (.not (.var 8))
            (.split 2185
             (.ret [(.lit 1)])
             (.req 8 [(.var 0), (.var 1), (.var 2)]
             (.lett 2521 .num (.app 8 0 [(.var 0), (.var 1), (.var 2)])
             (.req 13 [(.var 297), (.var 298), (.lit 1), (.var 2521)]
             (.lett 2569 .bit (.app 13 0 [(.var 297), (.var 298), (.lit 1), (.var 2521)])
             (.split 2569
              (.req 9 [(.var 0), (.var 1), (.var 2)]
              (.lett 2905 .num (.app 9 0 [(.var 0), (.var 1), (.var 2)])
              (.req 13 [(.var 299), (.var 300), (.lit 1), (.var 2905)]
              (.lett 2953 .bit (.app 13 0 [(.var 299), (.var 300), (.lit 1), (.var 2905)])
              (.split 2953
               (.req 10 [(.var 0), (.var 1), (.var 2)]
               (.lett 3337 .num (.app 10 0 [(.var 0), (.var 1), (.var 2)])
               (.req 13 [(.var 301), (.var 302), (.lit 1), (.var 3337)]
               (.lett 3385 .bit (.app 13 0 [(.var 301), (.var 302), (.lit 1), (.var 3337)])
               (.ret [(.var 3385)])))))
               (.ret [(.lit 0)]))))))
              (.ret [(.lit 0)]))))))))))))))
           (.lett 2185 .bit (.not (.var 8))
           (.split 2185
            (.ret [(.lit 1)])
            (.req 8 [(.var 0), (.var 1), (.var 2)]
            (.lett 2521 .num (.app 8 0 [(.var 0), (.var 1), (.var 2)])
            (.req 13 [(.var 297), (.var 298), (.lit 1), (.var 2521)]
            (.lett 2569 .bit (.app 13 0 [(.var 297), (.var 298), (.lit 1), (.var 2521)])
            (.split 2569
             (.req 9 [(.var 0), (.var 1), (.var 2)]
             (.lett 2905 .num (.app 9 0 [(.var 0), (.var 1), (.var 2)])
             (.req 13 [(.var 299), (.var 300), (.lit 1), (.var 2905)]
             (.lett 2953 .bit (.app 13 0 [(.var 299), (.var 300), (.lit 1), (.var 2905)])
             (.split 2953
              (.req 10 [(.var 0), (.var 1), (.var 2)]
              (.lett 3337 .num (.app 10 0 [(.var 0), (.var 1), (.var 2)])
              (.req 13 [(.var 301), (.var 302), (.lit 1), (.var 3337)]
              (.lett 3385 .bit (.app 13 0 [(.var 301), (.var 302), (.lit 1), (.var 3337)])
              (.ret [(.var 3385)])))))
              (.ret [(.lit 0)]))))))
             (.ret [(.lit 0)])))))))))))))))))))))))))
      (.ret [(.lit 0)]))))
     (.ret [(.lit 0)]))))
    (.lett 308 .bit (.not (.var 7))
    (.split 308
     (.req 13 [(.var 303), (.var 304), (.lit 0), (.var 1)]
     (.lett 309 .bit (.app 13 0 [(.var 303), (.var 304), (.lit 0), (.var 1)])
     (.split 309
      (.req 13 [(.var 305), (.var 306), (.lit 0), (.var 1)]
      (.lett 310 .bit (.app 13 0 [(.var 305), (.var 306), (.lit 0), (.var 1)])
      (.lett 311 .bit (.not (.var 310))
      (.split 311
       (.ret [(.lit 0)])
       (.req 11 [(.var 0), (.var 1)]
       (.lett 600 .num (.app 11 0 [(.var 0), (.var 1)])
       (.req 13 [(.var 303), (.var 304), (.lit 1), (.var 600)]
       (.lett 648 .bit (.app 13 0 [(.var 303), (.var 304), (.lit 1), (.var 600)])
       (.lett 696 .bit (.not (.var 648))
       (.split 696
        (.ret [(.lit 0)])
        (.lett 888 .bit (.eqs [((.limb 1 0), (.lit 0)), ((.limb 1 1), (.lit 0)), ((.limb 1 2), (.lit 0)), ((.limb 1 3), (.lit 0)), ((.limb 1 4), (.lit 0)), ((.limb 1 5), (.lit 0))])
        (.split 888
         (.lett 1080 .bit (.eqs [((.limb 305 0), (.limb 1 0)), ((.limb 305 1), (.limb 1 1)), ((.limb 305 2), (.limb 1 2)), ((.limb 305 3), (.limb 1 3)), ((.limb 305 4), (.limb 1 4)), ((.limb 305 5), (.limb 1 5))])
         (.lett 1081 .bit (.not (.var 1080))
         (.split 1081
          (.ret [(.lit 0)])
          (.lett 1224 .bit (.cmp .neq (.var 306) (.lit 6))
          (.split 1224
           (.ret [(.lit 0)])
           (.lett 1560 .bit (.eqs [((.limb 1 0), (.lit 0)), ((.limb 1 1), (.lit 0)), ((.limb 1 2), (.lit 0)), ((.limb 1 3), (.lit 0)), ((.limb 1 4), (.lit 0)), ((.limb 1 5), (.lit 0))])
           (.lett 1561 .bit (.not (.var 1560))
           (.split 1561
            (.req 12 [(.var 0), (.var 1)]
            (.lett 1848 .num (.app 12 0 [(.var 0), (.var 1)])
            (.req 13 [(.var 305), (.var 306), (.lit 1), (.var 1848)]
            (.lett 1896 .bit (.app 13 0 [(.var 305), (.var 306), (.lit 1), (.var 1848)])
            (.lett 1944 .bit (.not (.var 1896))
            (.split 1944
             (.ret [(.lit 0)])
             (.lett 2184 .bit (.not (.var 8))
             (.split 2184
              (.ret [(.lit 1)])
              (.req 8 [(.var 0), (.var 1), (.var 2)]
              (.lett 2520 .num (.app 8 0 [(.var 0), (.var 1), (.var 2)])
              (.req 13 [(.var 297), (.var 298), (.lit 1), (.var 2520)]
              (.lett 2568 .bit (.app 13 0 [(.var 297), (.var 298), (.lit 1), (.var 2520)])
              (.split 2568
               (.req 9 [(.var 0), (.var 1), (.var 2)]
               (.lett 2904 .num (.app 9 0 [(.var 0), (.var 1), (.var 2)])
               (.req 13 [(.var 299), (.var 300), (.lit 1), (.var 2904)]
               (.lett 2952 .bit (.app 13 0 [(.var 299), (.var 300), (.lit 1), (.var 2904)])
               (.split 2952
                (.req 10 [(.var 0), (.var 1), (.var 2)]
                (.lett 3336 .num (.app 10 0 [(.var 0), (.var 1), (.var 2)])
                (.req 13 [(.var 301), (.var 302), (.lit 1), (.var 3336)]
                (.lett 3384 .bit (.app 13 0 [(.var 301), (.var 302), (.lit 1), (.var 3336)])
                (.ret [(.var 3384)])))))
                (.ret [(.lit 0)]))))))
               (.ret [(.lit 0)]))))))))))))))
            (.lett 2184 .bit (.not (.var 8))
            (.split 2184
             (.ret [(.lit 1)])
             (.req 8 [(.var 0), (.var 1), (.var 2)]
             (.lett 2520 .num (.app 8 0 [(.var 0), (.var 1), (.var 2)])
             (.req 13 [(.var 297), (.var 298), (.lit 1), (.var 2520)]
             (.lett 2568 .bit (.app 13 0 [(.var 297), (.var 298), (.lit 1), (.var 2520)])
             (.split 2568
              (.req 9 [(.var 0), (.var 1), (.var 2)]
              (.lett 2904 .num (.app 9 0 [(.var 0), (.var 1), (.var 2)])
              (.req 13 [(.var 299), (.var 300), (.lit 1), (.var 2904)]
              (.lett 2952 .bit (.app 13 0 [(.var 299), (.var 300), (.lit 1), (.var 2904)])
              (.split 2952
               (.req 10 [(.var 0), (.var 1), (.var 2)]
               (.lett 3336 .num (.app 10 0 [(.var 0), (.var 1), (.var 2)])
               (.req 13 [(.var 301), (.var 302), (.lit 1), (.var 3336)]
               (.lett 3384 .bit (.app 13 0 [(.var 301), (.var 302), (.lit 1), (.var 3336)])
               (.ret [(.var 3384)])))))
               (.ret [(.lit 0)]))))))
              (.ret [(.lit 0)]))))))))))))))))
         (.lett 1560 .bit (.eqs [((.limb 1 0), (.lit 0)), ((.limb 1 1), (.lit 0)), ((.limb 1 2), (.lit 0)), ((.limb 1 3), (.lit 0)), ((.limb 1 4), (.lit 0)), ((.limb 1 5), (.lit 0))])
         (.lett 1561 .bit (.not (.var 1560))
         (.split 1561
          (.req 12 [(.var 0), (.var 1)]
          (.lett 1848 .num (.app 12 0 [(.var 0), (.var 1)])
          (.req 13 [(.var 305), (.var 306), (.lit 1), (.var 1848)]
          (.lett 1896 .bit (.app 13 0 [(.var 305), (.var 306), (.lit 1), (.var 1848)])
          (.lett 1944 .bit (.not (.var 1896))
          (.split 1944
           (.ret [(.lit 0)])
           (.lett 2184 .bit (.not (.var 8))
           (.split 2184
            (.ret [(.lit 1)])
            (.req 8 [(.var 0), (.var 1), (.var 2)]
            (.lett 2520 .num (.app 8 0 [(.var 0), (.var 1), (.var 2)])
            (.req 13 [(.var 297), (.var 298), (.lit 1), (.var 2520)]
            (.lett 2568 .bit (.app 13 0 [(.var 297), (.var 298), (.lit 1), (.var 2520)])
            (.split 2568
             (.req 9 [(.var 0), (.var 1), (.var 2)]
             (.lett 2904 .num (.app 9 0 [(.var 0), (.var 1), (.var 2)])
             (.req 13 [(.var 299), (.var 300), (.lit 1), (.var 2904)]
             (.lett 2952 .bit (.app 13 0 [(.var 299), (.var 300), (.lit 1), (.var 2904)])
             (.split 2952
              (.req 10 [(.var 0), (.var 1), (.var 2)]
              (.lett 3336 .num (.app 10 0 [(.var 0), (.var 1), (.var 2)])
              (.req 13 [(.var 301), (.var 302), (.lit 1), (.var 3336)]
              (.lett 3384 .bit (.app 13 0 [(.var 301), (.var 302), (.lit 1), (.var 3336)])
              (.ret [(.var 3384)])))))
              (.ret [(.lit 0)]))))))
             (.ret [(.lit 0)]))))))))))))))
          (.lett 2184 .bit (.not (.var 8))
          (.split 2184
           (.ret [(.lit 1)])
           (.req 8 [(.var 0), (.var 1), (.var 2)]
           (.lett 2520 .num (.app 8 0 [(.var 0), (.var 1), (.var 2)])
           (.req 13 [(.var 297), (.var 298), (.lit 1), (.var 2520)]
           (.lett 2568 .bit (.app 13 0 [(.var 297), (.var 298), (.lit 1), (.var 2520)])
           (.split 2568
            (.req 9 [(.var 0), (.var 1), (.var 2)]
            (.lett 2904 .num (.app 9 0 [(.var 0), (.var 1), (.var 2)])
            (.req 13 [(.var 299), (.var 300), (.lit 1), (.var 2904)]
            (.lett 2952 .bit (.app 13 0 [(.var 299), (.var 300), (.lit 1), (.var 2904)])
            (.split 2952
             (.req 10 [(.var 0), (.var 1), (.var 2)]
             (.lett 3336 .num (.app 10 0 [(.var 0), (.var 1), (.var 2)])
             (.req 13 [(.var 301), (.var 302), (.lit 1), (.var 3336)]
             (.lett 3384 .bit (.app 13 0 [(.var 301), (.var 302), (.lit 1), (.var 3336)])
             (.ret [(.var 3384)])))))
             (.ret [(.lit 0)]))))))
            (.ret [(.lit 0)])))))))))))))))))))))))
      (.ret [(.lit 0)]))))
     (.req 11 [(.var 0), (.var 1)]
     (.lett 597 .num (.app 11 0 [(.var 0), (.var 1)])
     (.req 13 [(.var 303), (.var 304), (.lit 1), (.var 597)]
     (.lett 645 .bit (.app 13 0 [(.var 303), (.var 304), (.lit 1), (.var 597)])
     (.lett 693 .bit (.not (.var 645))
     (.split 693
      (.ret [(.lit 0)])
      (.lett 885 .bit (.eqs [((.limb 1 0), (.lit 0)), ((.limb 1 1), (.lit 0)), ((.limb 1 2), (.lit 0)), ((.limb 1 3), (.lit 0)), ((.limb 1 4), (.lit 0)), ((.limb 1 5), (.lit 0))])
      (.split 885
       (.lett 1077 .bit (.eqs [((.limb 305 0), (.limb 1 0)), ((.limb 305 1), (.limb 1 1)), ((.limb 305 2), (.limb 1 2)), ((.limb 305 3), (.limb 1 3)), ((.limb 305 4), (.limb 1 4)), ((.limb 305 5), (.limb 1 5))])
       (.lett 1078 .bit (.not (.var 1077))
       (.split 1078
        (.ret [(.lit 0)])
        (.lett 1221 .bit (.cmp .neq (.var 306) (.lit 6))
        (.split 1221
         (.ret [(.lit 0)])
         (.lett 1557 .bit (.eqs [((.limb 1 0), (.lit 0)), ((.limb 1 1), (.lit 0)), ((.limb 1 2), (.lit 0)), ((.limb 1 3), (.lit 0)), ((.limb 1 4), (.lit 0)), ((.limb 1 5), (.lit 0))])
         (.lett 1558 .bit (.not (.var 1557))
         (.split 1558
          (.req 12 [(.var 0), (.var 1)]
          (.lett 1845 .num (.app 12 0 [(.var 0), (.var 1)])
          (.req 13 [(.var 305), (.var 306), (.lit 1), (.var 1845)]
          (.lett 1893 .bit (.app 13 0 [(.var 305), (.var 306), (.lit 1), (.var 1845)])
          (.lett 1941 .bit (.not (.var 1893))
          (.split 1941
           (.ret [(.lit 0)])
           (.lett 2181 .bit (.not (.var 8))
           (.split 2181
            (.ret [(.lit 1)])
            (.req 8 [(.var 0), (.var 1), (.var 2)]
            (.lett 2517 .num (.app 8 0 [(.var 0), (.var 1), (.var 2)])
            (.req 13 [(.var 297), (.var 298), (.lit 1), (.var 2517)]
            (.lett 2565 .bit (.app 13 0 [(.var 297), (.var 298), (.lit 1), (.var 2517)])
            (.split 2565
             (.req 9 [(.var 0), (.var 1), (.var 2)]
             (.lett 2901 .num (.app 9 0 [(.var 0), (.var 1), (.var 2)])
             (.req 13 [(.var 299), (.var 300), (.lit 1), (.var 2901)]
             (.lett 2949 .bit (.app 13 0 [(.var 299), (.var 300), (.lit 1), (.var 2901)])
             (.split 2949
              (.req 10 [(.var 0), (.var 1), (.var 2)]
              (.lett 3333 .num (.app 10 0 [(.var 0), (.var 1), (.var 2)])
              (.req 13 [(.var 301), (.var 302), (.lit 1), (.var 3333)]
              (.lett 3381 .bit (.app 13 0 [(.var 301), (.var 302), (.lit 1), (.var 3333)])
              (.ret [(.var 3381)])))))
              (.ret [(.lit 0)]))))))
             (.ret [(.lit 0)]))))))))))))))
          (.lett 2181 .bit (.not (.var 8))
          (.split 2181
           (.ret [(.lit 1)])
           (.req 8 [(.var 0), (.var 1), (.var 2)]
           (.lett 2517 .num (.app 8 0 [(.var 0), (.var 1), (.var 2)])
           (.req 13 [(.var 297), (.var 298), (.lit 1), (.var 2517)]
           (.lett 2565 .bit (.app 13 0 [(.var 297), (.var 298), (.lit 1), (.var 2517)])
           (.split 2565
            (.req 9 [(.var 0), (.var 1), (.var 2)]
            (.lett 2901 .num (.app 9 0 [(.var 0), (.var 1), (.var 2)])
            (.req 13 [(.var 299), (.var 300), (.lit 1), (.var 2901)]
            (.lett 2949 .bit (.app 13 0 [(.var 299), (.var 300), (.lit 1), (.var 2901)])
            (.split 2949
             (.req 10 [(.var 0), (.var 1), (.var 2)]
             (.lett 3333 .num (.app 10 0 [(.var 0), (.var 1), (.var 2)])
             (.req 13 [(.var 301), (.var 302), (.lit 1), (.var 3333)]
             (.lett 3381 .bit (.app 13 0 [(.var 301), (.var 302), (.lit 1), (.var 3333)])
             (.ret [(.var 3381)])))))
             (.ret [(.lit 0)]))))))
            (.ret [(.lit 0)]))))))))))))))))
       (.lett 1557 .bit (.eqs [((.limb 1 0), (.lit 0)), ((.limb 1 1), (.lit 0)), ((.limb 1 2), (.lit 0)), ((.limb 1 3), (.lit 0)), ((.limb 1 4), (.lit 0)), ((.limb 1 5), (.lit 0))])
       (.lett 1558 .bit (.not (.var 1557))
       (.split 1558
        (.req 12 [(.var 0), (.var 1)]
        (.lett 1845 .num (.app 12 0 [(.var 0), (.var 1)])
        (.req 13 [(.var 305), (.var 306), (.lit 1), (.var 1845)]
        (.lett 1893 .bit (.app 13 0 [(.var 305), (.var 306), (.lit 1), (.var 1845)])
        (.lett 1941 .bit (.not (.var 1893))
        (.split 1941
         (.ret [(.lit 0)])
         (.lett 2181 .bit (.not (.var 8))
         (.split 2181
          (.ret [(.lit 1)])
          (.req 8 [(.var 0), (.var 1), (.var 2)]
          (.lett 2517 .num (.app 8 0 [(.var 0), (.var 1), (.var 2)])
          (.req 13 [(.var 297), (.var 298), (.lit 1), (.var 2517)]
          (.lett 2565 .bit (.app 13 0 [(.var 297), (.var 298), (.lit 1), (.var 2517)])
          (.split 2565
           (.req 9 [(.var 0), (.var 1), (.var 2)]
           (.lett 2901 .num (.app 9 0 [(.var 0), (.var 1), (.var 2)])
           (.req 13 [(.var 299), (.var 300), (.lit 1), (.var 2901)]
           (.lett 2949 .bit (.app 13 0 [(.var 299), (.var 300), (.lit 1), (.var 2901)])
           (.split 2949
            (.req 10 [(.var 0), (.var 1), (.var 2)]
            (.lett 3333 .num (.app 10 0 [(.var 0), (.var 1), (.var 2)])
            (.req 13 [(.var 301), (.var 302), (.lit 1), (.var 3333)]
            (.lett 3381 .bit (.app 13 0 [(.var 301), (.var 302), (.lit 1), (.var 3333)])
            (.ret [(.var 3381)])))))
            (.ret [(.lit 0)]))))))
           (.ret [(.lit 0)]))))))))))))))
        (.lett 2181 .bit (.not (.var 8))
        (.split 2181
         (.ret [(.lit 1)])
         (.req 8 [(.var 0), (.var 1), (.var 2)]
         (.lett 2517 .num (.app 8 0 [(.var 0), (.var 1), (.var 2)])
         (.req 13 [(.var 297), (.var 298), (.lit 1), (.var 2517)]
         (.lett 2565 .bit (.app 13 0 [(.var 297), (.var 298), (.lit 1), (.var 2517)])
         (.split 2565
          (.req 9 [(.var 0), (.var 1), (.var 2)]
          (.lett 2901 .num (.app 9 0 [(.var 0), (.var 1), (.var 2)])
          (.req 13 [(.var 299), (.var 300), (.lit 1), (.var 2901)]
          (.lett 2949 .bit (.app 13 0 [(.var 299), (.var 300), (.lit 1), (.var 2901)])
          (.split 2949
           (.req 10 [(.var 0), (.var 1), (.var 2)]
           (.lett 3333 .num (.app 10 0 [(.var 0), (.var 1), (.var 2)])
           (.req 13 [(.var 301), (.var 302), (.lit 1), (.var 3333)]
           (.lett 3381 .bit (.app 13 0 [(.var 301), (.var 302), (.lit 1), (.var 3333)])
           (.ret [(.var 3381)])))))
           (.ret [(.lit 0)]))))))
          (.ret [(.lit 0)]))))))))))))))))))))))))))))))))))))))))))))))
  (.req 7 [(.var 0)]
  (.lett 152 .num (.app 7 0 [(.var 0)])
  (.req 13 [(.var 4), (.var 5), (.lit 1), (.var 152)]
  (.lett 200 .bit (.app 13 0 [(.var 4), (.var 5), (.lit 1), (.var 152)])
  (.lett 248 .bit (.not (.var 200))
  (.split 248
   (.ret [(.lit 0)])
   (.req 1 [(.var 0), (.var 1), (.var 2)]
   (.lett 296 .num (.app 1 0 [(.var 0), (.var 1), (.var 2)])
   (.lett 297 (.int .i64) (.app 1 1 [(.var 0), (.var 1), (.var 2)])
   (.req 2 [(.var 0), (.var 1), (.var 2)]
   (.lett 298 .num (.app 2 0 [(.var 0), (.var 1), (.var 2)])
   (.lett 299 (.int .i64) (.app 2 1 [(.var 0), (.var 1), (.var 2)])
   (.req 3 [(.var 0), (.var 1), (.var 2)]
   (.lett 300 .num (.app 3 0 [(.var 0), (.var 1), (.var 2)])
   (.lett 301 (.int .i64) (.app 3 1 [(.var 0), (.var 1), (.var 2)])
   (.req 4 [(.var 0), (.var 1)]
   (.lett 302 .num (.app 4 0 [(.var 0), (.var 1)])
   (.lett 303 (.int .i64) (.app 4 1 [(.var 0), (.var 1)])
   (.req 5 [(.var 0), (.var 1)]
   (.lett 304 .num (.app 5 0 [(.var 0), (.var 1)])
   (.lett 305 (.int .i64) (.app 5 1 [(.var 0), (.var 1)])
   (.req 13 [(.var 296), (.var 297), (.lit 0), (.var 1)]
   (.lett 306 .bit (.app 13 0 [(.var 296), (.var 297), (.lit 0), (.var 1)])
   (.split 306
    (.req 13 [(.var 298), (.var 299), (.lit 0), (.var 1)]
    (.lett 307 .bit (.app 13 0 [(.var 298), (.var 299), (.lit 0), (.var 1)])
    (.split 307
     (.req 13 [(.var 300), (.var 301), (.lit 0), (.var 1)]
     (.lett 308 .bit (.app 13 0 [(.var 300), (.var 301), (.lit 0), (.var 1)])
     (.lett 309 .bit (.not (.var 308))
     (.split 309
      (.ret [(.lit 0)])
      (.lett 310 .bit (.not (.var 7))
      (.split 310
       (.req 13 [(.var 302), (.var 303), (.lit 0), (.var 1)]
       (.lett 311 .bit (.app 13 0 [(.var 302), (.var 303), (.lit 0), (.var 1)])
       (.split 311
        (.req 13 [(.var 304), (.var 305), (.lit 0), (.var 1)]
        (.lett 312 .bit (.app 13 0 [(.var 304), (.var 305), (.lit 0), (.var 1)])
        (.lett 313 .bit (.not (.var 312))
        (.split 313
         (.ret [(.lit 0)])
         (.ret [(.lit 1)])))))
        (.ret [(.lit 0)]))))
       (.ret [(.lit 1)])))))))
     (.ret [(.lit 0)]))))
    (.ret [(.lit 0)])))))))))))))))))))))))))))))))))))
/-- what is left of a number to the order less two is its inverse -/
def FermatAll : Prop := ∀ s a : Int, isS s → 0 < a → a < rOf s → a * (a ^ (rOf s - 2).toNat % rOf s) % rOf s = 1
noncomputable def TScal (f : Nat → FuncId) : List K := [kSOrder (f 0), kS2 (f 1) (· + ·), kS2 (f 2) (· - ·), kS2 (f 3) (· * ·), kSNeg (f 4), kSInv (f 5), kRScalar (f 6), kOrder (f 7), kR2 (f 8) (· + ·), kR2 (f 9) (· - ·), kR2 (f 10) (· * ·), kRNeg (f 11), kRInv (f 12), kNumber (f 13), kIs (f 14)]
theorem so_yes {s : Int} (h : isS s) : ((kSOrder 0).sem [s]).getD 0 0 = rOf s ∧ ((kSOrder 0).sem [s]).getD 1 0 = 0 := by simp only [kSOrder]; rw [if_pos h]; exact ⟨rfl, rfl⟩
theorem so_no {s : Int} (h : ¬ isS s) : ((kSOrder 0).sem [s]).getD 0 0 = 0 ∧ ((kSOrder 0).sem [s]).getD 1 0 = 2 := by simp only [kSOrder]; rw [if_neg h]; exact ⟨rfl, rfl⟩
theorem s2_yes {op : Int → Int → Int} {s a b : Int} (h : isS s ∧ a < rOf s ∧ b < rOf s) : (sem2 op [s, a, b]).getD 0 0 = op a b % rOf s ∧ (sem2 op [s, a, b]).getD 1 0 = 0 := by simp only [sem2]; rw [if_pos h]; exact ⟨rfl, rfl⟩
theorem s2_no {op : Int → Int → Int} {s a b : Int} (h : ¬ (isS s ∧ a < rOf s ∧ b < rOf s)) : (sem2 op [s, a, b]).getD 0 0 = 0 ∧ (sem2 op [s, a, b]).getD 1 0 = 2 := by simp only [sem2]; rw [if_neg h]; exact ⟨rfl, rfl⟩
theorem sn_yes {s a : Int} (h : isS s ∧ a < rOf s) : ((kSNeg 0).sem [s, a]).getD 0 0 = (-a) % rOf s ∧ ((kSNeg 0).sem [s, a]).getD 1 0 = 0 := by simp only [kSNeg]; rw [if_pos h]; exact ⟨rfl, rfl⟩
theorem sn_no {s a : Int} (h : ¬ (isS s ∧ a < rOf s)) : ((kSNeg 0).sem [s, a]).getD 0 0 = 0 ∧ ((kSNeg 0).sem [s, a]).getD 1 0 = 2 := by simp only [kSNeg]; rw [if_neg h]; exact ⟨rfl, rfl⟩
theorem si_no {s a : Int} (h : ¬ (isS s ∧ a < rOf s)) : ((kSInv 0).sem [s, a]).getD 0 0 = 0 ∧ ((kSInv 0).sem [s, a]).getD 1 0 = 2 := by simp only [kSInv]; rw [if_neg h]; exact ⟨rfl, rfl⟩
theorem si_zero {s a : Int} (h : isS s) (ha : a = 0) : ((kSInv 0).sem [s, a]).getD 0 0 = 0 ∧ ((kSInv 0).sem [s, a]).getD 1 0 = 6 := by
  have h3 := (rOf_ok h).2.1
  have hno : ¬ ∃ y, 0 ≤ y ∧ y < rOf s ∧ a * y % rOf s = 1 := by
    rintro ⟨y, _, _, hy⟩
    rw [ha, Int.zero_mul, Int.zero_emod] at hy
    cases hy
  simp only [kSInv]
  rw [if_pos ⟨h, by omega⟩, invM_none hno, if_neg hno]
  exact ⟨rfl, rfl⟩
theorem si_yes {s a : Int} (hF : FermatAll) (h : isS s) (ha : a < rOf s) (hz : ¬ a = 0) (h1 : 0 ≤ a ∧ a < N384) : ((kSInv 0).sem [s, a]).getD 0 0 = a ^ (rOf s - 2).toNat % rOf s ∧ ((kSInv 0).sem [s, a]).getD 1 0 = 0 := by
  have h3 := (rOf_ok h).2.1
  obtain ⟨q1, q2⟩ := invM_eq (n := rOf s) (a := a) (y := a ^ (rOf s - 2).toNat % rOf s) (md_lt (by omega)) (hF s a h (by omega) ha)
  simp only [kSInv]
  rw [if_pos ⟨h, ha⟩, q1, if_pos q2]
  exact ⟨rfl, rfl⟩
theorem bi_1 {p : Prop} [Decidable p] (h : p) : bi p = 1 := if_pos h
theorem bi_0 {p : Prop} [Decidable p] (h : ¬ p) : bi p = 0 := if_neg h
theorem not_1 {x : Int} (h : x = 1) : (if x = 0 then (1 : Int) else 0) = 0 := by subst h; rfl
theorem not_0 {x : Int} (h : x = 0) : (if x = 0 then (1 : Int) else 0) = 1 := by subst h; rfl
theorem ne_0 {v x : Int} (h : v = b2i (cmpE .neq x 6)) (hx : x = 6) : v = 0 := by have := c_ne h; omega
theorem cn_1 {v : Int} {p : Prop} (h : (v = 1 ∧ p) ∨ (v = 0 ∧ ¬ p)) (hp : p) : v = 1 := h.elim (·.1) fun x => absurd hp x.2
theorem cn_0 {v : Int} {p : Prop} (h : (v = 1 ∧ p) ∨ (v = 0 ∧ ¬ p)) (hp : ¬ p) : v = 0 := h.elim (fun x => absurd x.2 hp) (·.1)
theorem nm_no {n x w : Int} (hn : n = 0) (hx : x = 2) : ((kNumber 0).sem [n, x, 0, w]).getD 0 0 = 1 := by
  show [if (0 : Int) = 0 then bi (n = 0 ∧ x = 2) else bi (n = w ∧ x = 0)].getD 0 0 = 1
  rw [if_pos rfl, bi_1 ⟨hn, hx⟩]; rfl
theorem nm_yes {n x w : Int} (hn : n = w) (hx : x = 0) : ((kNumber 0).sem [n, x, 1, w]).getD 0 0 = 1 := by
  simp only [kNumber]; rw [if_neg (by decide), bi_1 ⟨hn, hx⟩]; rfl

theorem scal_no (hF : FermatAll) (fs : Nat → FuncId) (e : Nat → Int) (h1 : 0 ≤ e 1 ∧ e 1 < N384) (his : ¬ isS (e 0)) : tScal.says (TScal fs) ⟨fun ys => ys = [1], []⟩ e := by
  unfold tScal
  have hno2 : ¬ (isS (e 0) ∧ e 1 < rOf (e 0) ∧ e 2 < rOf (e 0)) := fun h => his h.1
  have hno1 : ¬ (isS (e 0) ∧ e 1 < rOf (e 0)) := fun h => his h.1
  refine ⟨trivial, ?_⟩
  intro a3 k3
  have v3 : e 3 = 0 := a3.trans (bi_0 his)
  refine ⟨trivial, ?_⟩
  intro a4 k4
  have v4 : e 4 = 0 := a4.trans ((so_no his).1)
  intro a5 k5
  have v5 : e 5 = 2 := a5.trans ((so_no his).2)
  intro a6 k6
  have v6 : e 6 = 1 := a6.trans (not_0 v3)
  refine ⟨fun _ => ?_, fun h => absurd (v6.symm.trans h) (by decide)⟩
  refine ⟨trivial, ?_⟩
  intro a7 k7
  have v7 : e 7 = 0 := a7.trans ((s2_no hno2).1)
  intro a8 k8
  have v8 : e 8 = 2 := a8.trans ((s2_no hno2).2)
  refine ⟨trivial, ?_⟩
  intro a9 k9
  have v9 : e 9 = 0 := a9.trans ((s2_no hno2).1)
  intro a10 k10
  have v10 : e 10 = 2 := a10.trans ((s2_no hno2).2)
  refine ⟨trivial, ?_⟩
  intro a11 k11
  have v11 : e 11 = 0 := a11.trans ((s2_no hno2).1)
  intro a12 k12
  have v12 : e 12 = 2 := a12.trans ((s2_no hno2).2)
  refine ⟨trivial, ?_⟩
  intro a13 k13
  have v13 : e 13 = 0 := a13.trans ((sn_no hno1).1)
  intro a14 k14
  have v14 : e 14 = 2 := a14.trans ((sn_no hno1).2)
  refine ⟨trivial, ?_⟩
  intro a15 k15
  have v15 : e 15 = 0 := a15.trans ((si_no hno1).1)
  intro a16 k16
  have v16 : e 16 = 2 := a16.trans ((si_no hno1).2)
  refine ⟨trivial, ?_⟩
  intro a17 k17
  have v17 : e 17 = 1 := a17.trans (nm_no v4 v5)
  refine ⟨fun _ => ?_, fun h => absurd (v17.symm.trans h) (by decide)⟩
  refine ⟨trivial, ?_⟩
  intro a18 k18
  have v18 : e 18 = 1 := a18.trans (nm_no v7 v8)
  refine ⟨fun _ => ?_, fun h => absurd (v18.symm.trans h) (by decide)⟩
  refine ⟨trivial, ?_⟩
  intro a19 k19
  have v19 : e 19 = 1 := a19.trans (nm_no v9 v10)
  refine ⟨fun _ => ?_, fun h => absurd (v19.symm.trans h) (by decide)⟩
  refine ⟨trivial, ?_⟩
  intro a20 k20
  have v20 : e 20 = 1 := a20.trans (nm_no v11 v12)
  refine ⟨fun _ => ?_, fun h => absurd (v20.symm.trans h) (by decide)⟩
  refine ⟨trivial, ?_⟩
  intro a21 k21
  have v21 : e 21 = 1 := a21.trans (nm_no v13 v14)
  refine ⟨fun _ => ?_, fun h => absurd (v21.symm.trans h) (by decide)⟩
  refine ⟨trivial, ?_⟩
  intro a22 k22
  have v22 : e 22 = 1 := a22.trans (nm_no v15 v16)
  exact congrArg (fun x => [x]) v22
theorem scal_not1 (hF : FermatAll) (fs : Nat → FuncId) (e : Nat → Int) (h1 : 0 ≤ e 1 ∧ e 1 < N384) (his : isS (e 0)) (ha : ¬ e 1 < rOf (e 0)) : tScal.says (TScal fs) ⟨fun ys => ys = [1], []⟩ e := by
  unfold tScal
  have hno2 : ¬ (isS (e 0) ∧ e 1 < rOf (e 0) ∧ e 2 < rOf (e 0)) := fun h => ha h.2.1
  have hno1 : ¬ (isS (e 0) ∧ e 1 < rOf (e 0)) := fun h => ha h.2
  refine ⟨trivial, ?_⟩
  intro a3 k3
  have v3 : e 3 = 1 := a3.trans (bi_1 his)
  refine ⟨trivial, ?_⟩
  intro a4 k4
  have v4 : e 4 = rOf (e 0) := a4.trans ((so_yes his).1)
  intro a5 k5
  have v5 : e 5 = 0 := a5.trans ((so_yes his).2)
  intro a6 k6
  have v6 : e 6 = 0 := a6.trans (not_1 v3)
  refine ⟨fun h => absurd v6 h, fun _ => ?_⟩
  refine ⟨his, ?_⟩
  intro a7 k7
  have v7 : e 7 = 0 := a7.trans (bi_0 ha)
  refine ⟨fun h => absurd v7 h, fun _ => ?_⟩
  refine ⟨his, ?_⟩
  intro a152 k152
  have v152 : e 152 = rOf (e 0) := a152.trans (rfl)
  refine ⟨trivial, ?_⟩
  intro a200 k200
  have v200 : e 200 = 1 := a200.trans (nm_yes (v4.trans v152.symm) v5)
  intro a248 k248
  have v248 : e 248 = 0 := a248.trans (not_1 v200)
  refine ⟨fun h => absurd v248 h, fun _ => ?_⟩
  refine ⟨trivial, ?_⟩
  intro a296 k296
  have v296 : e 296 = 0 := a296.trans ((s2_no hno2).1)
  intro a297 k297
  have v297 : e 297 = 2 := a297.trans ((s2_no hno2).2)
  refine ⟨trivial, ?_⟩
  intro a298 k298
  have v298 : e 298 = 0 := a298.trans ((s2_no hno2).1)
  intro a299 k299
  have v299 : e 299 = 2 := a299.trans ((s2_no hno2).2)
  refine ⟨trivial, ?_⟩
  intro a300 k300
  have v300 : e 300 = 0 := a300.trans ((s2_no hno2).1)
  intro a301 k301
  have v301 : e 301 = 2 := a301.trans ((s2_no hno2).2)
  refine ⟨trivial, ?_⟩
  intro a302 k302
  have v302 : e 302 = 0 := a302.trans ((sn_no hno1).1)
  intro a303 k303
  have v303 : e 303 = 2 := a303.trans ((sn_no hno1).2)
  refine ⟨trivial, ?_⟩
  intro a304 k304
  have v304 : e 304 = 0 := a304.trans ((si_no hno1).1)
  intro a305 k305
  have v305 : e 305 = 2 := a305.trans ((si_no hno1).2)
  refine ⟨trivial, ?_⟩
  intro a306 k306
  have v306 : e 306 = 1 := a306.trans (nm_no v296 v297)
  refine ⟨fun _ => ?_, fun h => absurd (v306.symm.trans h) (by decide)⟩
  refine ⟨trivial, ?_⟩
  intro a307 k307
  have v307 : e 307 = 1 := a307.trans (nm_no v298 v299)
  refine ⟨fun _ => ?_, fun h => absurd (v307.symm.trans h) (by decide)⟩
  refine ⟨trivial, ?_⟩
  intro a308 k308
  have v308 : e 308 = 1 := a308.trans (nm_no v300 v301)
  intro a309 k309
  have v309 : e 309 = 0 := a309.trans (not_1 v308)
  refine ⟨fun h => absurd v309 h, fun _ => ?_⟩
  intro a310 k310
  have v310 : e 310 = 1 := a310.trans (not_0 v7)
  refine ⟨fun _ => ?_, fun h => absurd (v310.symm.trans h) (by decide)⟩
  refine ⟨trivial, ?_⟩
  intro a311 k311
  have v311 : e 311 = 1 := a311.trans (nm_no v302 v303)
  refine ⟨fun _ => ?_, fun h => absurd (v311.symm.trans h) (by decide)⟩
  refine ⟨trivial, ?_⟩
  intro a312 k312
  have v312 : e 312 = 1 := a312.trans (nm_no v304 v305)
  intro a313 k313
  have v313 : e 313 = 0 := a313.trans (not_1 v312)
  refine ⟨fun h => absurd v313 h, fun _ => ?_⟩
  exact rfl
theorem scal_az (hF : FermatAll) (fs : Nat → FuncId) (e : Nat → Int) (h1 : 0 ≤ e 1 ∧ e 1 < N384) (his : isS (e 0)) (ha : e 1 < rOf (e 0)) (hb : ¬ e 2 < rOf (e 0)) (hz : e 1 = 0) : tScal.says (TScal fs) ⟨fun ys => ys = [1], []⟩ e := by
  unfold tScal
  have hno2 : ¬ (isS (e 0) ∧ e 1 < rOf (e 0) ∧ e 2 < rOf (e 0)) := fun h => hb h.2.2
  refine ⟨trivial, ?_⟩
  intro a3 k3
  have v3 : e 3 = 1 := a3.trans (bi_1 his)
  refine ⟨trivial, ?_⟩
  intro a4 k4
  have v4 : e 4 = rOf (e 0) := a4.trans ((so_yes his).1)
  intro a5 k5
  have v5 : e 5 = 0 := a5.trans ((so_yes his).2)
  intro a6 k6
  have v6 : e 6 = 0 := a6.trans (not_1 v3)
  refine ⟨fun h => absurd v6 h, fun _ => ?_⟩
  refine ⟨his, ?_⟩
  intro a7 k7
  have v7 : e 7 = 1 := a7.trans (bi_1 ha)
  refine ⟨fun _ => ?_, fun h => absurd (v7.symm.trans h) (by decide)⟩
  refine ⟨his, ?_⟩
  intro a8 k8
  have v8 : e 8 = 0 := a8.trans (bi_0 hb)
  refine ⟨his, ?_⟩
  intro a153 k153
  have v153 : e 153 = rOf (e 0) := a153.trans (rfl)
  refine ⟨trivial, ?_⟩
  intro a201 k201
  have v201 : e 201 = 1 := a201.trans (nm_yes (v4.trans v153.symm) v5)
  intro a249 k249
  have v249 : e 249 = 0 := a249.trans (not_1 v201)
  refine ⟨fun h => absurd v249 h, fun _ => ?_⟩
  refine ⟨trivial, ?_⟩
  intro a297 k297
  have v297 : e 297 = 0 := a297.trans ((s2_no hno2).1)
  intro a298 k298
  have v298 : e 298 = 2 := a298.trans ((s2_no hno2).2)
  refine ⟨trivial, ?_⟩
  intro a299 k299
  have v299 : e 299 = 0 := a299.trans ((s2_no hno2).1)
  intro a300 k300
  have v300 : e 300 = 2 := a300.trans ((s2_no hno2).2)
  refine ⟨trivial, ?_⟩
  intro a301 k301
  have v301 : e 301 = 0 := a301.trans ((s2_no hno2).1)
  intro a302 k302
  have v302 : e 302 = 2 := a302.trans ((s2_no hno2).2)
  refine ⟨trivial, ?_⟩
  intro a303 k303
  have v303 : e 303 = (-e 1) % rOf (e 0) := a303.trans ((sn_yes ⟨his, ha⟩).1)
  intro a304 k304
  have v304 : e 304 = 0 := a304.trans ((sn_yes ⟨his, ha⟩).2)
  refine ⟨trivial, ?_⟩
  intro a305 k305
  have v305 : e 305 = 0 := a305.trans ((si_zero his hz).1)
  intro a306 k306
  have v306 : e 306 = 6 := a306.trans ((si_zero his hz).2)
  intro a307 k307
  have v307 : e 307 = 1 := a307.trans (not_0 v8)
  refine ⟨fun _ => ?_, fun h => absurd (v307.symm.trans h) (by decide)⟩
  refine ⟨trivial, ?_⟩
  intro a308 k308
  have v308 : e 308 = 1 := a308.trans (nm_no v297 v298)
  refine ⟨fun _ => ?_, fun h => absurd (v308.symm.trans h) (by decide)⟩
  refine ⟨trivial, ?_⟩
  intro a309 k309
  have v309 : e 309 = 1 := a309.trans (nm_no v299 v300)
  refine ⟨fun _ => ?_, fun h => absurd (v309.symm.trans h) (by decide)⟩
  refine ⟨trivial, ?_⟩
  intro a310 k310
  have v310 : e 310 = 1 := a310.trans (nm_no v301 v302)
  intro a311 k311
  have v311 : e 311 = 0 := a311.trans (not_1 v310)
  refine ⟨fun h => absurd v311 h, fun _ => ?_⟩
  intro a312 k312
  have v312 : e 312 = 0 := a312.trans (not_1 v7)
  refine ⟨fun h => absurd v312 h, fun _ => ?_⟩
  refine ⟨⟨his, ha⟩, ?_⟩
  intro a601 k601
  have v601 : e 601 = (-e 1) % rOf (e 0) := a601.trans (rfl)
  refine ⟨trivial, ?_⟩
  intro a649 k649
  have v649 : e 649 = 1 := a649.trans (nm_yes (v303.trans v601.symm) v304)
  intro a697 k697
  have v697 : e 697 = 0 := a697.trans (not_1 v649)
  refine ⟨fun h => absurd v697 h, fun _ => ?_⟩
  intro a889 k889
  have v889 : e 889 = 1 := cn_1 (c_num0 a889 h1) hz
  refine ⟨fun _ => ?_, fun h => absurd (v889.symm.trans h) (by decide)⟩
  intro a1081 k1081
  have v1081 : e 1081 = 1 := cn_1 (c_num a1081 k305 h1) (v305.trans hz.symm)
  intro a1082 k1082
  have v1082 : e 1082 = 0 := a1082.trans (not_1 v1081)
  refine ⟨fun h => absurd v1082 h, fun _ => ?_⟩
  intro a1225 k1225
  have v1225 : e 1225 = 0 := ne_0 a1225 v306
  refine ⟨fun h => absurd v1225 h, fun _ => ?_⟩
  intro a1561 k1561
  have v1561 : e 1561 = 1 := cn_1 (c_num0 a1561 h1) hz
  intro a1562 k1562
  have v1562 : e 1562 = 0 := a1562.trans (not_1 v1561)
  refine ⟨fun h => absurd v1562 h, fun _ => ?_⟩
  intro a2185 k2185
  have v2185 : e 2185 = 1 := a2185.trans (not_0 v8)
  refine ⟨fun _ => ?_, fun h => absurd (v2185.symm.trans h) (by decide)⟩
  exact rfl
theorem scal_an (hF : FermatAll) (fs : Nat → FuncId) (e : Nat → Int) (h1 : 0 ≤ e 1 ∧ e 1 < N384) (his : isS (e 0)) (ha : e 1 < rOf (e 0)) (hb : ¬ e 2 < rOf (e 0)) (hz : ¬ e 1 = 0) : tScal.says (TScal fs) ⟨fun ys => ys = [1], []⟩ e := by
  unfold tScal
  have hno2 : ¬ (isS (e 0) ∧ e 1 < rOf (e 0) ∧ e 2 < rOf (e 0)) := fun h => hb h.2.2
  refine ⟨trivial, ?_⟩
  intro a3 k3
  have v3 : e 3 = 1 := a3.trans (bi_1 his)
  refine ⟨trivial, ?_⟩
  intro a4 k4
  have v4 : e 4 = rOf (e 0) := a4.trans ((so_yes his).1)
  intro a5 k5
  have v5 : e 5 = 0 := a5.trans ((so_yes his).2)
  intro a6 k6
  have v6 : e 6 = 0 := a6.trans (not_1 v3)
  refine ⟨fun h => absurd v6 h, fun _ => ?_⟩
  refine ⟨his, ?_⟩
  intro a7 k7
  have v7 : e 7 = 1 := a7.trans (bi_1 ha)
  refine ⟨fun _ => ?_, fun h => absurd (v7.symm.trans h) (by decide)⟩
  refine ⟨his, ?_⟩
  intro a8 k8
  have v8 : e 8 = 0 := a8.trans (bi_0 hb)
  refine ⟨his, ?_⟩
  intro a153 k153
  have v153 : e 153 = rOf (e 0) := a153.trans (rfl)
  refine ⟨trivial, ?_⟩
  intro a201 k201
  have v201 : e 201 = 1 := a201.trans (nm_yes (v4.trans v153.symm) v5)
  intro a249 k249
  have v249 : e 249 = 0 := a249.trans (not_1 v201)
  refine ⟨fun h => absurd v249 h, fun _ => ?_⟩
  refine ⟨trivial, ?_⟩
  intro a297 k297
  have v297 : e 297 = 0 := a297.trans ((s2_no hno2).1)
  intro a298 k298
  have v298 : e 298 = 2 := a298.trans ((s2_no hno2).2)
  refine ⟨trivial, ?_⟩
  intro a299 k299
  have v299 : e 299 = 0 := a299.trans ((s2_no hno2).1)
  intro a300 k300
  have v300 : e 300 = 2 := a300.trans ((s2_no hno2).2)
  refine ⟨trivial, ?_⟩
  intro a301 k301
  have v301 : e 301 = 0 := a301.trans ((s2_no hno2).1)
  intro a302 k302
  have v302 : e 302 = 2 := a302.trans ((s2_no hno2).2)
  refine ⟨trivial, ?_⟩
  intro a303 k303
  have v303 : e 303 = (-e 1) % rOf (e 0) := a303.trans ((sn_yes ⟨his, ha⟩).1)
  intro a304 k304
  have v304 : e 304 = 0 := a304.trans ((sn_yes ⟨his, ha⟩).2)
  refine ⟨trivial, ?_⟩
  intro a305 k305
  have v305 : e 305 = e 1 ^ (rOf (e 0) - 2).toNat % rOf (e 0) := a305.trans ((si_yes hF his ha hz h1).1)
  intro a306 k306
  have v306 : e 306 = 0 := a306.trans ((si_yes hF his ha hz h1).2)
  intro a307 k307
  have v307 : e 307 = 1 := a307.trans (not_0 v8)
  refine ⟨fun _ => ?_, fun h => absurd (v307.symm.trans h) (by decide)⟩
  refine ⟨trivial, ?_⟩
  intro a308 k308
  have v308 : e 308 = 1 := a308.trans (nm_no v297 v298)
  refine ⟨fun _ => ?_, fun h => absurd (v308.symm.trans h) (by decide)⟩
  refine ⟨trivial, ?_⟩
  intro a309 k309
  have v309 : e 309 = 1 := a309.trans (nm_no v299 v300)
  refine ⟨fun _ => ?_, fun h => absurd (v309.symm.trans h) (by decide)⟩
  refine ⟨trivial, ?_⟩
  intro a310 k310
  have v310 : e 310 = 1 := a310.trans (nm_no v301 v302)
  intro a311 k311
  have v311 : e 311 = 0 := a311.trans (not_1 v310)
  refine ⟨fun h => absurd v311 h, fun _ => ?_⟩
  intro a312 k312
  have v312 : e 312 = 0 := a312.trans (not_1 v7)
  refine ⟨fun h => absurd v312 h, fun _ => ?_⟩
  refine ⟨⟨his, ha⟩, ?_⟩
  intro a601 k601
  have v601 : e 601 = (-e 1) % rOf (e 0) := a601.trans (rfl)
  refine ⟨trivial, ?_⟩
  intro a649 k649
  have v649 : e 649 = 1 := a649.trans (nm_yes (v303.trans v601.symm) v304)
  intro a697 k697
  have v697 : e 697 = 0 := a697.trans (not_1 v649)
  refine ⟨fun h => absurd v697 h, fun _ => ?_⟩
  intro a889 k889
  have v889 : e 889 = 0 := cn_0 (c_num0 a889 h1) hz
  refine ⟨fun h => absurd v889 h, fun _ => ?_⟩
  intro a1561 k1561
  have v1561 : e 1561 = 0 := cn_0 (c_num0 a1561 h1) hz
  intro a1562 k1562
  have v1562 : e 1562 = 1 := a1562.trans (not_0 v1561)
  refine ⟨fun _ => ?_, fun h => absurd (v1562.symm.trans h) (by decide)⟩
  refine ⟨⟨his, ha⟩, ?_⟩
  intro a1849 k1849
  have v1849 : e 1849 = e 1 ^ (rOf (e 0) - 2).toNat % rOf (e 0) := a1849.trans (rfl)
  refine ⟨trivial, ?_⟩
  intro a1897 k1897
  have v1897 : e 1897 = 1 := a1897.trans (nm_yes (v305.trans v1849.symm) v306)
  intro a1945 k1945
  have v1945 : e 1945 = 0 := a1945.trans (not_1 v1897)
  refine ⟨fun h => absurd v1945 h, fun _ => ?_⟩
  intro a2185 k2185
  have v2185 : e 2185 = 1 := a2185.trans (not_0 v8)
  refine ⟨fun _ => ?_, fun h => absurd (v2185.symm.trans h) (by decide)⟩
  exact rfl
theorem scal_abz (hF : FermatAll) (fs : Nat → FuncId) (e : Nat → Int) (h1 : 0 ≤ e 1 ∧ e 1 < N384) (his : isS (e 0)) (ha : e 1 < rOf (e 0)) (hb : e 2 < rOf (e 0)) (hz : e 1 = 0) : tScal.says (TScal fs) ⟨fun ys => ys = [1], []⟩ e := by
  unfold tScal
  refine ⟨trivial, ?_⟩
  intro a3 k3
  have v3 : e 3 = 1 := a3.trans (bi_1 his)
  refine ⟨trivial, ?_⟩
  intro a4 k4
  have v4 : e 4 = rOf (e 0) := a4.trans ((so_yes his).1)
  intro a5 k5
  have v5 : e 5 = 0 := a5.trans ((so_yes his).2)
  intro a6 k6
  have v6 : e 6 = 0 := a6.trans (not_1 v3)
  refine ⟨fun h => absurd v6 h, fun _ => ?_⟩
  refine ⟨his, ?_⟩
  intro a7 k7
  have v7 : e 7 = 1 := a7.trans (bi_1 ha)
  refine ⟨fun _ => ?_, fun h => absurd (v7.symm.trans h) (by decide)⟩
  refine ⟨his, ?_⟩
  intro a8 k8
  have v8 : e 8 = 1 := a8.trans (bi_1 hb)
  refine ⟨his, ?_⟩
  intro a153 k153
  have v153 : e 153 = rOf (e 0) := a153.trans (rfl)
  refine ⟨trivial, ?_⟩
  intro a201 k201
  have v201 : e 201 = 1 := a201.trans (nm_yes (v4.trans v153.symm) v5)
  intro a249 k249
  have v249 : e 249 = 0 := a249.trans (not_1 v201)
  refine ⟨fun h => absurd v249 h, fun _ => ?_⟩
  refine ⟨trivial, ?_⟩
  intro a297 k297
  have v297 : e 297 = (e 1 + e 2) % rOf (e 0) := a297.trans ((s2_yes ⟨his, ha, hb⟩).1)
  intro a298 k298
  have v298 : e 298 = 0 := a298.trans ((s2_yes ⟨his, ha, hb⟩).2)
  refine ⟨trivial, ?_⟩
  intro a299 k299
  have v299 : e 299 = (e 1 - e 2) % rOf (e 0) := a299.trans ((s2_yes ⟨his, ha, hb⟩).1)
  intro a300 k300
  have v300 : e 300 = 0 := a300.trans ((s2_yes ⟨his, ha, hb⟩).2)
  refine ⟨trivial, ?_⟩
  intro a301 k301
  have v301 : e 301 = (e 1 * e 2) % rOf (e 0) := a301.trans ((s2_yes ⟨his, ha, hb⟩).1)
  intro a302 k302
  have v302 : e 302 = 0 := a302.trans ((s2_yes ⟨his, ha, hb⟩).2)
  refine ⟨trivial, ?_⟩
  intro a303 k303
  have v303 : e 303 = (-e 1) % rOf (e 0) := a303.trans ((sn_yes ⟨his, ha⟩).1)
  intro a304 k304
  have v304 : e 304 = 0 := a304.trans ((sn_yes ⟨his, ha⟩).2)
  refine ⟨trivial, ?_⟩
  intro a305 k305
  have v305 : e 305 = 0 := a305.trans ((si_zero his hz).1)
  intro a306 k306
  have v306 : e 306 = 6 := a306.trans ((si_zero his hz).2)
  intro a307 k307
  have v307 : e 307 = 0 := a307.trans (not_1 v8)
  refine ⟨fun h => absurd v307 h, fun _ => ?_⟩
  intro a308 k308
  have v308 : e 308 = 0 := a308.trans (not_1 v7)
  refine ⟨fun h => absurd v308 h, fun _ => ?_⟩
  refine ⟨⟨his, ha⟩, ?_⟩
  intro a597 k597
  have v597 : e 597 = (-e 1) % rOf (e 0) := a597.trans (rfl)
  refine ⟨trivial, ?_⟩
  intro a645 k645
  have v645 : e 645 = 1 := a645.trans (nm_yes (v303.trans v597.symm) v304)
  intro a693 k693
  have v693 : e 693 = 0 := a693.trans (not_1 v645)
  refine ⟨fun h => absurd v693 h, fun _ => ?_⟩
  intro a885 k885
  have v885 : e 885 = 1 := cn_1 (c_num0 a885 h1) hz
  refine ⟨fun _ => ?_, fun h => absurd (v885.symm.trans h) (by decide)⟩
  intro a1077 k1077
  have v1077 : e 1077 = 1 := cn_1 (c_num a1077 k305 h1) (v305.trans hz.symm)
  intro a1078 k1078
  have v1078 : e 1078 = 0 := a1078.trans (not_1 v1077)
  refine ⟨fun h => absurd v1078 h, fun _ => ?_⟩
  intro a1221 k1221
  have v1221 : e 1221 = 0 := ne_0 a1221 v306
  refine ⟨fun h => absurd v1221 h, fun _ => ?_⟩
  intro a1557 k1557
  have v1557 : e 1557 = 1 := cn_1 (c_num0 a1557 h1) hz
  intro a1558 k1558
  have v1558 : e 1558 = 0 := a1558.trans (not_1 v1557)
  refine ⟨fun h => absurd v1558 h, fun _ => ?_⟩
  intro a2181 k2181
  have v2181 : e 2181 = 0 := a2181.trans (not_1 v8)
  refine ⟨fun h => absurd v2181 h, fun _ => ?_⟩
  refine ⟨⟨his, ha, hb⟩, ?_⟩
  intro a2517 k2517
  have v2517 : e 2517 = (e 1 + e 2) % rOf (e 0) := a2517.trans (rfl)
  refine ⟨trivial, ?_⟩
  intro a2565 k2565
  have v2565 : e 2565 = 1 := a2565.trans (nm_yes (v297.trans v2517.symm) v298)
  refine ⟨fun _ => ?_, fun h => absurd (v2565.symm.trans h) (by decide)⟩
  refine ⟨⟨his, ha, hb⟩, ?_⟩
  intro a2901 k2901
  have v2901 : e 2901 = (e 1 - e 2) % rOf (e 0) := a2901.trans (rfl)
  refine ⟨trivial, ?_⟩
  intro a2949 k2949
  have v2949 : e 2949 = 1 := a2949.trans (nm_yes (v299.trans v2901.symm) v300)
  refine ⟨fun _ => ?_, fun h => absurd (v2949.symm.trans h) (by decide)⟩
  refine ⟨⟨his, ha, hb⟩, ?_⟩
  intro a3333 k3333
  have v3333 : e 3333 = (e 1 * e 2) % rOf (e 0) := a3333.trans (rfl)
  refine ⟨trivial, ?_⟩
  intro a3381 k3381
  have v3381 : e 3381 = 1 := a3381.trans (nm_yes (v301.trans v3333.symm) v302)
  exact congrArg (fun x => [x]) v3381
theorem scal_abn (hF : FermatAll) (fs : Nat → FuncId) (e : Nat → Int) (h1 : 0 ≤ e 1 ∧ e 1 < N384) (his : isS (e 0)) (ha : e 1 < rOf (e 0)) (hb : e 2 < rOf (e 0)) (hz : ¬ e 1 = 0) : tScal.says (TScal fs) ⟨fun ys => ys = [1], []⟩ e := by
  unfold tScal
  refine ⟨trivial, ?_⟩
  intro a3 k3
  have v3 : e 3 = 1 := a3.trans (bi_1 his)
  refine ⟨trivial, ?_⟩
  intro a4 k4
  have v4 : e 4 = rOf (e 0) := a4.trans ((so_yes his).1)
  intro a5 k5
  have v5 : e 5 = 0 := a5.trans ((so_yes his).2)
  intro a6 k6
  have v6 : e 6 = 0 := a6.trans (not_1 v3)
  refine ⟨fun h => absurd v6 h, fun _ => ?_⟩
  refine ⟨his, ?_⟩
  intro a7 k7
  have v7 : e 7 = 1 := a7.trans (bi_1 ha)
  refine ⟨fun _ => ?_, fun h => absurd (v7.symm.trans h) (by decide)⟩
  refine ⟨his, ?_⟩
  intro a8 k8
  have v8 : e 8 = 1 := a8.trans (bi_1 hb)
  refine ⟨his, ?_⟩
  intro a153 k153
  have v153 : e 153 = rOf (e 0) := a153.trans (rfl)
  refine ⟨trivial, ?_⟩
  intro a201 k201
  have v201 : e 201 = 1 := a201.trans (nm_yes (v4.trans v153.symm) v5)
  intro a249 k249
  have v249 : e 249 = 0 := a249.trans (not_1 v201)
  refine ⟨fun h => absurd v249 h, fun _ => ?_⟩
  refine ⟨trivial, ?_⟩
  intro a297 k297
  have v297 : e 297 = (e 1 + e 2) % rOf (e 0) := a297.trans ((s2_yes ⟨his, ha, hb⟩).1)
  intro a298 k298
  have v298 : e 298 = 0 := a298.trans ((s2_yes ⟨his, ha, hb⟩).2)
  refine ⟨trivial, ?_⟩
  intro a299 k299
  have v299 : e 299 = (e 1 - e 2) % rOf (e 0) := a299.trans ((s2_yes ⟨his, ha, hb⟩).1)
  intro a300 k300
  have v300 : e 300 = 0 := a300.trans ((s2_yes ⟨his, ha, hb⟩).2)
  refine ⟨trivial, ?_⟩
  intro a301 k301
  have v301 : e 301 = (e 1 * e 2) % rOf (e 0) := a301.trans ((s2_yes ⟨his, ha, hb⟩).1)
  intro a302 k302
  have v302 : e 302 = 0 := a302.trans ((s2_yes ⟨his, ha, hb⟩).2)
  refine ⟨trivial, ?_⟩
  intro a303 k303
  have v303 : e 303 = (-e 1) % rOf (e 0) := a303.trans ((sn_yes ⟨his, ha⟩).1)
  intro a304 k304
  have v304 : e 304 = 0 := a304.trans ((sn_yes ⟨his, ha⟩).2)
  refine ⟨trivial, ?_⟩
  intro a305 k305
  have v305 : e 305 = e 1 ^ (rOf (e 0) - 2).toNat % rOf (e 0) := a305.trans ((si_yes hF his ha hz h1).1)
  intro a306 k306
  have v306 : e 306 = 0 := a306.trans ((si_yes hF his ha hz h1).2)
  intro a307 k307
  have v307 : e 307 = 0 := a307.trans (not_1 v8)
  refine ⟨fun h => absurd v307 h, fun _ => ?_⟩
  intro a308 k308
  have v308 : e 308 = 0 := a308.trans (not_1 v7)
  refine ⟨fun h => absurd v308 h, fun _ => ?_⟩
  refine ⟨⟨his, ha⟩, ?_⟩
  intro a597 k597
  have v597 : e 597 = (-e 1) % rOf (e 0) := a597.trans (rfl)
  refine ⟨trivial, ?_⟩
  intro a645 k645
  have v645 : e 645 = 1 := a645.trans (nm_yes (v303.trans v597.symm) v304)
  intro a693 k693
  have v693 : e 693 = 0 := a693.trans (not_1 v645)
  refine ⟨fun h => absurd v693 h, fun _ => ?_⟩
  intro a885 k885
  have v885 : e 885 = 0 := cn_0 (c_num0 a885 h1) hz
  refine ⟨fun h => absurd v885 h, fun _ => ?_⟩
  intro a1557 k1557
  have v1557 : e 1557 = 0 := cn_0 (c_num0 a1557 h1) hz
  intro a1558 k1558
  have v1558 : e 1558 = 1 := a1558.trans (not_0 v1557)
  refine ⟨fun _ => ?_, fun h => absurd (v1558.symm.trans h) (by decide)⟩
  refine ⟨⟨his, ha⟩, ?_⟩
  intro a1845 k1845
  have v1845 : e 1845 = e 1 ^ (rOf (e 0) - 2).toNat % rOf (e 0) := a1845.trans (rfl)
  refine ⟨trivial, ?_⟩
  intro a1893 k1893
  have v1893 : e 1893 = 1 := a1893.trans (nm_yes (v305.trans v1845.symm) v306)
  intro a1941 k1941
  have v1941 : e 1941 = 0 := a1941.trans (not_1 v1893)
  refine ⟨fun h => absurd v1941 h, fun _ => ?_⟩
  intro a2181 k2181
  have v2181 : e 2181 = 0 := a2181.trans (not_1 v8)
  refine ⟨fun h => absurd v2181 h, fun _ => ?_⟩
  refine ⟨⟨his, ha, hb⟩, ?_⟩
  intro a2517 k2517
  have v2517 : e 2517 = (e 1 + e 2) % rOf (e 0) := a2517.trans (rfl)
  refine ⟨trivial, ?_⟩
  intro a2565 k2565
  have v2565 : e 2565 = 1 := a2565.trans (nm_yes (v297.trans v2517.symm) v298)
  refine ⟨fun _ => ?_, fun h => absurd (v2565.symm.trans h) (by decide)⟩
  refine ⟨⟨his, ha, hb⟩, ?_⟩
  intro a2901 k2901
  have v2901 : e 2901 = (e 1 - e 2) % rOf (e 0) := a2901.trans (rfl)
  refine ⟨trivial, ?_⟩
  intro a2949 k2949
  have v2949 : e 2949 = 1 := a2949.trans (nm_yes (v299.trans v2901.symm) v300)
  refine ⟨fun _ => ?_, fun h => absurd (v2949.symm.trans h) (by decide)⟩
  refine ⟨⟨his, ha, hb⟩, ?_⟩
  intro a3333 k3333
  have v3333 : e 3333 = (e 1 * e 2) % rOf (e 0) := a3333.trans (rfl)
  refine ⟨trivial, ?_⟩
  intro a3381 k3381
  have v3381 : e 3381 = 1 := a3381.trans (nm_yes (v301.trans v3333.symm) v302)
  exact congrArg (fun x => [x]) v3381
theorem law_scal (hF : FermatAll) (fs : Nat → FuncId) (f : FuncId) (e : Nat → Int) (hk : kkHas [.int .i64, .num, .num] [e 0, e 1, e 2]) : tScal.says (TScal fs) ⟨fun ys => ys = (kScal f).sem [e 0, e 1, e 2], []⟩ e := by
  have h1 : 0 ≤ e 1 ∧ e 1 < N384 := hk.2.1
  show tScal.says (TScal fs) ⟨fun ys => ys = [1], []⟩ e
  by_cases his : isS (e 0)
  · by_cases ha : e 1 < rOf (e 0)
    · by_cases hb : e 2 < rOf (e 0)
      · by_cases hz : e 1 = 0
        · exact scal_abz hF fs e h1 his ha hb hz
        · exact scal_abn hF fs e h1 his ha hb hz
      · by_cases hz : e 1 = 0
        · exact scal_az hF fs e h1 his ha hb hz
        · exact scal_an hF fs e h1 his ha hb hz
    · exact scal_not1 hF fs e h1 his ha
  · exact scal_no hF fs e h1 his
end Go.Sx
