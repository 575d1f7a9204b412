/- Laws: words.Len, Bit; modulus. -/
import Derived.Test.YtlddchekkjjleaaGreatHa
set_option linter.unusedVariables false
set_option linter.unusedSimpArgs false
namespace Go.Sx
open Go Go.RowKit
set_option maxRecDepth 100000
set_option linter.unusedSimpArgs false
set_option linter.unusedVariables false
theorem p320 : (2 : Int) ^ 320 = 2135987035920910082395021706169552114602704522356652769947041607822219725780640550022962086936576 := by decide +kernel
theorem p256 : (2 : Int) ^ 256 = 115792089237316195423570985008687907853269984665640564039457584007913129639936 := by decide +kernel
theorem p192 : (2 : Int) ^ 192 = 6277101735386680763835789423207666416102355444464034512896 := by decide +kernel
theorem p128 : (2 : Int) ^ 128 = 340282366920938463463374607431768211456 := by decide +kernel
theorem p64' : (2 : Int) ^ 64 = 18446744073709551616 := by decide +kernel
theorem p382 : (2 : Int) ^ 382 = 9850501549098619803069760025035903451269934817616361666987073351061430442874302652853566563721228910201656997576704 := by decide +kernel
theorem len_word {x l r c t : Int} (k : Nat) (h1 : x / 2 ^ k = l) (h2 : 1 ≤ l) (hl : U l) (hc : c = k) (hk : k ≤ 320) (ht : t = blen l) (hr : r = binE .add .i64 c t) : r = blen x := by
  have hp : (0 : Int) < 2 ^ k := Int.pow_pos (by omega)
  have : (2 : Int) ^ k ≤ x := by
    have := Int.mul_le_of_le_ediv (a := 1) hp (show (1 : Int) ≤ x / 2 ^ k by omega); omega
  rw [blen_shift k x this, h1]
  have b0 := blen_nn l
  have b1 := blen_le 64 l hl.1 (by rw [p64']; exact hl.2)
  rw [hr, hc, ht]
  simp only [binE, wr]
  omega
def tWLen : Tree := (.lett 1 .bit (.cmp .neq (.limb 0 5) (.lit 0))
(.split 1
 (.req 0 [(.limb 0 5)]
 (.lett 2 (.int .i64) (.app 0 0 [(.limb 0 5)])
 (.lett 3 (.int .i64) (.bin .add .i64 (.lit 320) (.var 2))
 (.ret [(.var 3)]))))
 (.lett 2 .bit (.cmp .neq (.limb 0 4) (.lit 0))
 (.split 2
  (.req 0 [(.limb 0 4)]
  (.lett 3 (.int .i64) (.app 0 0 [(.limb 0 4)])
  (.lett 4 (.int .i64) (.bin .add .i64 (.lit 256) (.var 3))
  (.ret [(.var 4)]))))
  (.lett 3 .bit (.cmp .neq (.limb 0 3) (.lit 0))
  (.split 3
   (.req 0 [(.limb 0 3)]
   (.lett 4 (.int .i64) (.app 0 0 [(.limb 0 3)])
   (.lett 5 (.int .i64) (.bin .add .i64 (.lit 192) (.var 4))
   (.ret [(.var 5)]))))
   (.lett 4 .bit (.cmp .neq (.limb 0 2) (.lit 0))
   (.split 4
    (.req 0 [(.limb 0 2)]
    (.lett 5 (.int .i64) (.app 0 0 [(.limb 0 2)])
    (.lett 6 (.int .i64) (.bin .add .i64 (.lit 128) (.var 5))
    (.ret [(.var 6)]))))
    (.lett 5 .bit (.cmp .neq (.limb 0 1) (.lit 0))
    (.split 5
     (.req 0 [(.limb 0 1)]
     (.lett 6 (.int .i64) (.app 0 0 [(.limb 0 1)])
     (.lett 7 (.int .i64) (.bin .add .i64 (.lit 64) (.var 6))
     (.ret [(.var 7)]))))
     (.lett 6 .bit (.cmp .neq (.limb 0 0) (.lit 0))
     (.split 6
      (.req 0 [(.limb 0 0)]
      (.lett 7 (.int .i64) (.app 0 0 [(.limb 0 0)])
      (.lett 8 (.int .i64) (.bin .add .i64 (.lit 0) (.var 7))
      (.ret [(.var 8)]))))
      (.ret [(.lit 0)])))))))))))))
theorem law_wLen (f1 f : FuncId) (e : Nat → Int) (hk : kkHas [.num] [e 0]) : tWLen.says [kLen64 f1] ⟨fun ys => ys = (kWLen f).sem [e 0], []⟩ e := by
  have hx := hk.1
  have ex := lim_eq hx
  have l0 := lim_lt (e 0) 0
  have l1 := lim_lt (e 0) 1
  have l2 := lim_lt (e 0) 2
  have l3 := lim_lt (e 0) 3
  have l4 := lim_lt (e 0) 4
  have l5 := lim_lt (e 0) 5
  simp only [tWLen, kLen64, kWLen, Tree.says, List.getElem?_cons_zero, List.getElem?_cons_succ, List.map, ev_lit, ev_var, ev_limb, D.ev, List.getD_cons_zero, List.getD_cons_succ]
  generalize lim (e 0) 0 = x0 at *
  generalize lim (e 0) 1 = x1 at *
  generalize lim (e 0) 2 = x2 at *
  generalize lim (e 0) 3 = x3 at *
  generalize lim (e 0) 4 = x4 at *
  generalize lim (e 0) 5 = x5 at *
  have q5 : e 0 / 2 ^ 320 = x5 := by rw [p320]; omega
  intro a _
  have b := c_ne a
  refine ⟨fun n => ⟨trivial, fun a2 _ a3 _ => by rw [len_word 320 q5 (by omega) l5 rfl (by omega) a2 a3]⟩, fun n => ?_⟩
  have z5 : x5 = 0 := by omega
  have q4 : e 0 / 2 ^ 256 = x4 := by rw [p256]; omega
  clear q5 a b n
  intro a _
  have b := c_ne a
  refine ⟨fun n => ⟨trivial, fun a2 _ a3 _ => by rw [len_word 256 q4 (by omega) l4 rfl (by omega) a2 a3]⟩, fun n => ?_⟩
  have z4 : x4 = 0 := by omega
  have q3 : e 0 / 2 ^ 192 = x3 := by rw [p192]; omega
  clear q4 a b n
  intro a _
  have b := c_ne a
  refine ⟨fun n => ⟨trivial, fun a2 _ a3 _ => by rw [len_word 192 q3 (by omega) l3 rfl (by omega) a2 a3]⟩, fun n => ?_⟩
  have z3 : x3 = 0 := by omega
  have q2 : e 0 / 2 ^ 128 = x2 := by rw [p128]; omega
  clear q3 a b n
  intro a _
  have b := c_ne a
  refine ⟨fun n => ⟨trivial, fun a2 _ a3 _ => by rw [len_word 128 q2 (by omega) l2 rfl (by omega) a2 a3]⟩, fun n => ?_⟩
  have z2 : x2 = 0 := by omega
  have q1 : e 0 / 2 ^ 64 = x1 := by rw [p64']; omega
  clear q2 a b n
  intro a _
  have b := c_ne a
  refine ⟨fun n => ⟨trivial, fun a2 _ a3 _ => by rw [len_word 64 q1 (by omega) l1 rfl (by omega) a2 a3]⟩, fun n => ?_⟩
  have z1 : x1 = 0 := by omega
  clear q1 a b n
  intro a _
  have b := c_ne a
  refine ⟨fun n => ⟨trivial, fun a2 _ a3 _ => by rw [len_word 0 (x := e 0) (by simp; omega) (by omega) l0 rfl (by omega) a2 a3]⟩, fun n => ?_⟩
  have z0 : e 0 = 0 := by omega
  rw [z0]; rfl
/-! ### bits -/
theorem lim_div {x : Int} (j : Nat) : lim x j = x / 2 ^ (64 * j) % 18446744073709551616 := by
  unfold lim p64; rw [Int.natCast_pow]; rfl
theorem bit_of {x l : Int} {q r : Nat} (hr : r < 64) (hl : l = x / 2 ^ (64 * q) % 18446744073709551616) : l / 2 ^ r % 2 = x / 2 ^ (64 * q + r) % 2 := by
  rw [Int.pow_add, ← Int.ediv_ediv_of_nonneg (Int.pow_nonneg (by omega))]
  generalize x / 2 ^ (64 * q) = X at *
  have h1 : X = l + 18446744073709551616 * (X / 18446744073709551616) := by omega
  have hp : (0 : Int) < 2 ^ r := Int.pow_pos (by omega)
  have h2 : (18446744073709551616 : Int) = 2 ^ r * (2 * 2 ^ (63 - r)) := by
    rw [← p64', show (2 : Int) * 2 ^ (63 - r) = 2 ^ (64 - r) by rw [← Int.pow_succ']; congr 1; omega, ← Int.pow_add]; congr 1; omega
  have h3 : X / 2 ^ r = l / 2 ^ r + 2 * (2 ^ (63 - r) * (X / 18446744073709551616)) := by
    conv => lhs; rw [h1, h2, show 2 ^ r * (2 * 2 ^ (63 - r)) * (X / (2 ^ r * (2 * 2 ^ (63 - r)))) = 2 ^ r * (2 * (2 ^ (63 - r) * (X / (2 ^ r * (2 * 2 ^ (63 - r)))))) by simp only [Int.mul_assoc]]
    rw [Int.add_mul_ediv_left _ _ (by omega), ← h2]
  rw [h3]; omega
theorem bit_fin {e : Nat → Int} {a i q s r v w z : Int} (hi : 0 ≤ i ∧ i < 384) (ha : 0 ≤ a ∧ a < N384) (q' : q = i / 64) (hs : s = ([(lim a 0), (lim a 1), (lim a 2), (lim a 3), (lim a 4), (lim a 5)] : List Int).getD q.toNat 0)
    (hr' : r = i % 64) (hv : v = binE .shr .u64 s r) (hw : w = binE .and .u64 v 1) (hz : z = wr .i64 w) : z = a / 2 ^ i.toNat % 2 := by
  have hsl : s = lim a q.toNat := by
    have : q = 0 ∨ q = 1 ∨ q = 2 ∨ q = 3 ∨ q = 4 ∨ q = 5 := by omega
    rw [hs]
    rcases this with h | h | h | h | h | h <;> rw [h] <;> rfl
  have hU := lim_lt a q.toNat
  rw [← hsl] at hU
  have hrn : r = ((r.toNat : Nat) : Int) := by omega
  have hv' : v = s / 2 ^ r.toNat := by
    rw [hv]; simp only [binE]
    rw [show min r.toNat IntKind.u64.bits = r.toNat by show min r.toNat 64 = _; omega, Int.natCast_pow]
    exact Int.fdiv_eq_ediv_of_nonneg _ (Int.pow_nonneg (by decide))
  have hp : (0 : Int) < 2 ^ r.toNat := Int.pow_pos (by omega)
  have hvU : U v := by
    rw [hv']
    exact ⟨Int.ediv_nonneg hU.1 (by omega), Int.lt_of_le_of_lt (Int.ediv_le_self _ hU.1) hU.2⟩
  have hw' : w = v % 2 := by rw [hw]; exact and_mask v 1 (by omega) hvU
  have hz' : z = w := by simp only [wr] at hz; omega
  rw [hz', hw', hv', bit_of (q := q.toNat) (by omega) (by rw [hsl]; exact lim_div _)]
  congr 3; omega
def tBit : Tree := (.lett 2 .bit (.cmp .lss (.var 1) (.lit 0))
(.split 2
 (.ret [(.lit 0)])
 (.lett 3 .bit (.cmp .geq (.var 1) (.lit 384))
 (.split 3
  (.ret [(.lit 0)])
  (.lett 4 (.int .i64) (.bin .shr .i64 (.var 1) (.lit 6))
  (.lett 5 .bit (.cmp .leq (.lit 0) (.var 4))
  (.lett 6 .bit (.cmp .lss (.var 4) (.lit 6))
  (.nz (.var 5)
  (.nz (.var 6)
  (.lett 7 (.int .u64) (.sel (.var 4) [(.limb 0 0), (.limb 0 1), (.limb 0 2), (.limb 0 3), (.limb 0 4), (.limb 0 5)])
  (.lett 8 (.int .i64) (.bin .and .i64 (.var 1) (.lit 63))
  (.lett 9 .bit (.cmp .leq (.lit 0) (.var 8))
  (.lett 10 (.int .u64) (.bin .shr .u64 (.var 7) (.var 8))
  (.nz (.var 9)
  (.lett 11 (.int .u64) (.bin .and .u64 (.var 10) (.lit 1))
  (.lett 12 (.int .i64) (.conv .i64 (.var 11))
  (.ret [(.var 12)])))))))))))))))))
def tRBit : Tree := (.lett 2 .bit (.cmp .lss (.var 1) (.lit 0))
(.split 2
 (.ret [(.lit 0)])
 (.lett 3 .bit (.cmp .gtr (.var 1) (.lit 383))
 (.split 3
  (.ret [(.lit 0)])
  (.lett 4 (.int .i64) (.bin .quo .i64 (.var 1) (.lit 64))
  (.lett 5 .bit (.cmp .leq (.lit 0) (.var 4))
  (.lett 6 .bit (.cmp .lss (.var 4) (.lit 6))
  (.nz (.var 5)
  (.nz (.var 6)
  (.lett 7 (.int .u64) (.sel (.var 4) [(.limb 0 0), (.limb 0 1), (.limb 0 2), (.limb 0 3), (.limb 0 4), (.limb 0 5)])
  (.lett 8 (.int .i64) (.bin .rem .i64 (.var 1) (.lit 64))
  (.lett 9 .bit (.cmp .leq (.lit 0) (.var 8))
  (.lett 10 (.int .u64) (.bin .shr .u64 (.var 7) (.var 8))
  (.nz (.var 9)
  (.lett 11 (.int .u64) (.bin .and .u64 (.var 10) (.lit 1))
  (.lett 12 (.int .i64) (.conv .i64 (.var 11))
  (.ret [(.var 12)])))))))))))))))))
theorem bit_q {i q r v9 v5 v6 : Int} (hi : 0 ≤ i ∧ i < 384) (hq : q = binE .shr .i64 i 6) (h5 : v5 = b2i (cmpE .leq 0 q)) (h6 : v6 = b2i (cmpE .lss q 6)) : v5 ≠ 0 ∧ v6 ≠ 0 := by
  have q' := shr_d 64 hq rfl (by decide)
  exact ⟨bit_nz h5 (by omega), lt_nz h6 (by omega)⟩
theorem and63 {i r : Int} (hi : 0 ≤ i ∧ i < 384) (hr : r = binE .and .i64 i 63) : r = i % 64 := by
  obtain ⟨n, hn⟩ := Int.eq_ofNat_of_zero_le hi.1
  have hlt : n < 2 ^ 64 := by omega
  rw [hr]
  show wr .i64 ((BitVec.ofInt 64 i &&& BitVec.ofInt 64 63).toNat : Int) = _
  rw [hn, show (63 : Int) = ((63 : Nat) : Int) from rfl, BitVec.ofInt_natCast, BitVec.ofInt_natCast, BitVec.toNat_and, BitVec.toNat_ofNat, BitVec.toNat_ofNat, Nat.mod_eq_of_lt hlt, show 63 % 2 ^ 64 = 2 ^ 6 - 1 from rfl, Nat.and_two_pow_sub_one_eq_mod]
  simp only [wr]; omega
theorem law_bit (f : FuncId) (e : Nat → Int) (hk : kkHas [.num, .int .i64] [e 0, e 1]) : tBit.says [] ⟨fun ys => ys = (kBit f).sem [e 0, e 1], []⟩ e := by
  have hx := hk.1
  simp only [tBit, kBit, Tree.says, List.getElem?_cons_zero, List.getElem?_cons_succ, List.map, ev_lit, ev_var, ev_limb, D.ev, List.getD_cons_zero, List.getD_cons_succ]
  intro a2 _
  have b2 := c_lt a2
  refine ⟨fun n => by rw [if_neg (by omega)], fun n2 => ?_⟩
  intro a3 _
  have b3 := c_ge a3
  refine ⟨fun n => by rw [if_neg (by omega)], fun n3 => ?_⟩
  intro a4 _ a5 _ a6 _
  have hi : 0 ≤ e 1 ∧ e 1 < 384 := by omega
  obtain ⟨g1, g2⟩ := bit_q (r := 0) (v9 := 0) hi a4 a5 a6
  have h4 := shr_d 64 a4 rfl (by decide)
  refine ⟨g1, g2, fun a7 _ a8 _ a9 _ a10 _ => ?_⟩
  have h8 := and63 hi a8
  refine ⟨bit_nz a9 (by rw [h8]; exact Int.emod_nonneg _ (by decide)), fun a11 _ a12 _ => ?_⟩
  rw [if_pos hi, bit_fin (e := e) hi hx h4 a7 h8 a10 a11 a12]
theorem law_rBit (f : FuncId) (e : Nat → Int) (hk : kkHas [.num, .int .i64] [e 0, e 1]) : tRBit.says [] ⟨fun ys => ys = (kBit f).sem [e 0, e 1], []⟩ e := by
  have hx := hk.1
  simp only [tRBit, kBit, Tree.says, List.getElem?_cons_zero, List.getElem?_cons_succ, List.map, ev_lit, ev_var, ev_limb, D.ev, List.getD_cons_zero, List.getD_cons_succ]
  intro a2 _
  have b2 := c_lt a2
  refine ⟨fun n => by rw [if_neg (by omega)], fun n2 => ?_⟩
  intro a3 _
  have b3 := c_gt a3
  refine ⟨fun n => by rw [if_neg (by omega)], fun n3 => ?_⟩
  intro a4 _ a5 _ a6 _
  have hi : 0 ≤ e 1 ∧ e 1 < 384 := by omega
  have hq : e 4 = e 1 / 64 := by
    rw [a4]; simp only [binE]; rw [Int.tdiv_eq_ediv_of_nonneg hi.1]; simp only [wr]; omega
  refine ⟨bit_nz a5 (by omega), lt_nz a6 (by omega), fun a7 _ a8 _ a9 _ a10 _ => ?_⟩
  have hr : e 8 = e 1 % 64 := by
    rw [a8]; simp only [binE]; rw [Int.tmod_eq_emod_of_nonneg hi.1]
  refine ⟨bit_nz a9 (by rw [hr]; exact Int.emod_nonneg _ (by decide)), fun a11 _ a12 _ => ?_⟩
  rw [if_pos hi, bit_fin (e := e) hi hx hq a7 hr a10 a11 a12]
/-! ### small shifts -/
theorem or_dis {k : Nat} {v a b q : Int} (h : v = binE .or .u64 a b) (ha : a = q * (2 ^ k : Nat)) (hq : 0 ≤ q) (hb : 0 ≤ b ∧ b < (2 ^ k : Nat)) (hab : a + b < 18446744073709551616) : v = a + b := by
  obtain ⟨n, hn⟩ := Int.eq_ofNat_of_zero_le hq
  obtain ⟨m, hm⟩ := Int.eq_ofNat_of_zero_le hb.1
  have ha' : a = ((2 ^ k * n : Nat) : Int) := by rw [ha, hn, Nat.mul_comm]; simp
  have hlt : 2 ^ k * n + m < 2 ^ 64 := by rw [ha', hm] at hab; omega
  rw [h]
  show wr .u64 ((BitVec.ofInt 64 a ||| BitVec.ofInt 64 b).toNat : Int) = _
  rw [ha', hm, BitVec.ofInt_natCast, BitVec.ofInt_natCast, BitVec.toNat_or, BitVec.toNat_ofNat, BitVec.toNat_ofNat, Nat.mod_eq_of_lt (by omega), Nat.mod_eq_of_lt (by omega), ← Nat.two_pow_add_eq_or_of_lt (by rw [hm] at hb; omega)]
  simp only [wr]; omega
theorem or_1 {v s r lj lp : Int} (h : v = binE .or .u64 s r) (hs : s = binE .shl .u64 lj 1) (hr : r = binE .shr .u64 lp 63) (uj : U lj) (up : U lp) : v = 2 * lj % 18446744073709551616 + lp / 9223372036854775808 := by
  have h1 := shl_d 2 hs rfl
  have h2 := shr_d 9223372036854775808 hr (by decide) (by decide)
  unfold U at *
  simp only [wr] at h1
  rw [or_dis (k := 1) (q := lj % 9223372036854775808) h (by omega) (by omega) (by omega) (by omega)]
  omega
theorem or_63 {v s r ln lj : Int} (h : v = binE .or .u64 s r) (hs : s = binE .shl .u64 ln 63) (hr : r = binE .shr .u64 lj 1) (un : U ln) (uj : U lj) : v = ln % 2 * 9223372036854775808 + lj / 2 := by
  have h1 := shl_d 9223372036854775808 hs (by decide)
  have h2 := shr_d 2 hr rfl (by decide)
  unfold U at *
  simp only [wr] at h1
  rw [or_dis (k := 63) (q := ln % 2) h (by omega) (by omega) (by omega) (by omega)]
  omega
theorem or_0 {v r lj : Int} (h : v = binE .or .u64 0 r) (hr : r = binE .shr .u64 lj 1) (uj : U lj) : v = lj / 2 := by
  have h2 := shr_d 2 hr rfl (by decide)
  unfold U at *
  rw [or_dis (k := 63) (q := 0) h (by omega) (by omega) (by omega) (by omega)]
  omega
theorem and_1 {v x : Int} (h : v = binE .and .u64 x 1) (hx : U x) : v = x % 2 := by rw [h]; exact and_mask x 1 (by omega) hx
end Go.Sx

/- Laws: modulus.New, Reduce, Add, Sub, Neg, Mul, half. -/
namespace Go.Sx
open Go Go.RowKit
set_option maxRecDepth 100000
set_option linter.unusedSimpArgs false
set_option linter.unusedVariables false
/-! ### a good modulus -/
theorem mOk.odd {n low : Int} (h : mOk n low) : n % 2 = 1 := odd_of h.1
theorem mOk.low_ne {n low : Int} (h : mOk n low) : low ≠ 0 := fun h0 => by have := h.1; rw [h0] at this; simp at this
theorem mOk.lt {n low : Int} (h : mOk n low) : 2 * n < N384 := by have := h.2.2; rw [p382] at this; unfold N384; omega
theorem RR {n : Int} (h : n % 2 = 1) : ∃ z, wideOf n * half2 n ^ 384 * half2 n ^ 384 = 1 + n * z := by
  obtain ⟨z, hz⟩ := half_R h
  obtain ⟨y, hy⟩ := md_of (x := (2 : Int) ^ 768) (n := n)
  refine ⟨?_, ?_⟩
  · exact 2 * z + n * z * z + y * (half2 n ^ 384 * half2 n ^ 384)
  · unfold wideOf
    rw [hy, show (2 : Int) ^ 768 = N384 * N384 by decide +kernel]
    generalize half2 n ^ 384 = I at *
    generalize N384 = R at *
    have : (R * I) * (R * I) = (1 + n * z) * (1 + n * z) := by rw [hz]
    grind
theorem RR1 {n : Int} (h : n % 2 = 1) : ∃ z, wideOf n * half2 n ^ 384 = N384 + n * z := by
  obtain ⟨z, hz⟩ := half_R h
  obtain ⟨y, hy⟩ := md_of (x := (2 : Int) ^ 768) (n := n)
  refine ⟨?_, ?_⟩
  · exact N384 * z + y * half2 n ^ 384
  · unfold wideOf
    rw [hy, show (2 : Int) ^ 768 = N384 * N384 by decide +kernel]
    generalize half2 n ^ 384 = I at *
    generalize N384 = R at *
    have : R * (R * I) = R * (1 + n * z) := by rw [hz]
    grind
/-- in, times: a b -/
theorem mont_mul {n a b : Int} (h : n % 2 = 1) : montv n (montv n a (wideOf n)) b = a * b % n := by
  obtain ⟨z, hz⟩ := RR h
  obtain ⟨y, hy⟩ := md_of (x := a * wideOf n * half2 n ^ 384) (n := n)
  show (a * wideOf n * half2 n ^ 384 % n) * b * half2 n ^ 384 % n = _
  rw [hy]
  refine md (a * b * z + y * b * half2 n ^ 384) ?_
  generalize half2 n ^ 384 = I at *
  generalize wideOf n = w at *
  have : a * b * (w * I * I) = a * b * (1 + n * z) := by rw [hz]
  grind
theorem mont_out {n a : Int} (h : n % 2 = 1) : montv n (montv n a (wideOf n)) 1 = a % n := by rw [mont_mul h, Int.mul_one]
theorem montv_lt {n a b : Int} (h : 0 < n) : 0 ≤ montv n a b ∧ montv n a b < n := md_lt h
theorem wide_lt {n : Int} (h : 0 < n) : 0 ≤ wideOf n ∧ wideOf n < n := md_lt h
def tOf : Tree := (.lett 1 .num (.join [(.var 0), (.lit 0), (.lit 0), (.lit 0), (.lit 0), (.lit 0)])
(.ret [(.var 1)]))
theorem law_of (f : FuncId) (e : Nat → Int) (hk : kkHas [.int .u64] [e 0]) : tOf.says [] ⟨fun ys => ys = (kOf f).sem [e 0], []⟩ e := by
  simp only [tOf, kOf, Tree.says, List.getElem?_cons_zero, List.getElem?_cons_succ, List.map, ev_lit, ev_var, ev_limb, D.ev, List.getD_cons_zero, List.getD_cons_succ]
  intro a _
  rw [a]; simp [joinE]
def tReduce : Tree := (.lett 4 .bit (.cmp .eql (.var 1) (.lit 0))
(.split 4
 (.ret [(.lit 0)])
 (.req 0 [(.var 3), (.var 0)]
 (.lett 245 (.int .i64) (.app 0 0 [(.var 3), (.var 0)])
 (.lett 293 .bit (.cmp .lss (.var 245) (.lit 0))
 (.split 293
  (.ret [(.var 3)])
  (.req 1 [(.var 0), (.var 1), (.var 2), (.var 3), (.var 2)]
  (.lett 677 .num (.app 1 0 [(.var 0), (.var 1), (.var 2), (.var 3), (.var 2)])
  (.req 2 [(.lit 1)]
  (.lett 725 .num (.app 2 0 [(.lit 1)])
  (.req 1 [(.var 0), (.var 1), (.var 2), (.var 677), (.var 725)]
  (.lett 773 .num (.app 1 0 [(.var 0), (.var 1), (.var 2), (.var 677), (.var 725)])
  (.ret [(.var 773)])))))))))))))
theorem law_reduce (f1 f2 f3 f : FuncId) (e : Nat → Int) (hk : kkHas [.num, .int .u64, .num, .num] [e 0, e 1, e 2, e 3]) (hp : (kReduce f).pre [e 0, e 1, e 2, e 3]) : tReduce.says [kWCmp f1, kMont f2, kOf f3] ⟨fun ys => ys = (kReduce f).sem [e 0, e 1, e 2, e 3], []⟩ e := by
  obtain ⟨h0, h1, h2, h3, _⟩ := hk
  obtain ⟨hm, hw⟩ := hp
  have hn := hm.2.1
  simp only [KK.has] at h3
  simp only [tReduce, kReduce, kWCmp, kMont, kOf, Tree.says, List.getElem?_cons_zero, List.getElem?_cons_succ, List.map, ev_lit, ev_var, ev_limb, D.ev, List.getD_cons_zero, List.getD_cons_succ]
  intro a _
  have b := c_eq a
  have := hm.low_ne
  refine ⟨fun n => by omega, fun n => ⟨trivial, fun a1 _ a2 _ => ?_⟩⟩
  have b2 := c_lt a2
  refine ⟨fun n => ?_, fun n => ?_⟩
  · have : e 3 < e 0 := by
      by_cases hc : e 3 < e 0
      · exact hc
      · rw [if_neg hc] at a1; split at a1 <;> omega
    rw [Int.emod_eq_of_lt h3.1 this]
  · have hwl := wide_lt (n := e 0) (by omega)
    refine ⟨⟨hm, .inr (by rw [hw]; exact hwl.2)⟩, fun a3 _ => ⟨trivial, fun a4 _ => ⟨⟨hm, .inl (by rw [a3]; exact (montv_lt (by omega)).2)⟩, fun a5 _ => ?_⟩⟩⟩
    rw [a5, a4, a3, hw, mont_out hm.odd]
theorem cong2 {n a b : Int} : (a % n + b % n) % n = (a + b) % n := by rw [Int.add_emod_emod, Int.emod_add_emod]
theorem cong3 {n a b : Int} : (a % n - b % n) % n = (a - b) % n := by rw [Int.sub_emod_emod, Int.emod_sub_emod]
def tMAdd : Tree := (.lett 5 .bit (.cmp .eql (.var 1) (.lit 0))
(.split 5
 (.ret [(.lit 0)])
 (.req 0 [(.var 0), (.var 1), (.var 2), (.var 3)]
 (.lett 102 .num (.app 0 0 [(.var 0), (.var 1), (.var 2), (.var 3)])
 (.req 0 [(.var 0), (.var 1), (.var 2), (.var 4)]
 (.lett 246 .num (.app 0 0 [(.var 0), (.var 1), (.var 2), (.var 4)])
 (.req 1 [(.var 102), (.var 246)]
 (.lett 294 .num (.app 1 0 [(.var 102), (.var 246)])
 (.lett 295 .bit (.app 1 1 [(.var 102), (.var 246)])
 (.req 2 [(.var 0), (.var 1), (.var 2), (.var 294)]
 (.lett 630 .num (.app 2 0 [(.var 0), (.var 1), (.var 2), (.var 294)])
 (.ret [(.var 630)]))))))))))))
theorem law_mAdd (f1 f2 f3 f : FuncId) (e : Nat → Int) (hk : kkHas [.num, .int .u64, .num, .num, .num] [e 0, e 1, e 2, e 3, e 4]) (hp : (kMAdd f).pre [e 0, e 1, e 2, e 3, e 4]) : tMAdd.says [kReduce f1, kWAdd f2, kLess f3] ⟨fun ys => ys = (kMAdd f).sem [e 0, e 1, e 2, e 3, e 4], []⟩ e := by
  obtain ⟨hm, hw⟩ := hp
  have hn := hm.2.1
  have hl := hm.lt
  simp only [tMAdd, kReduce, kWAdd, kLess, kMAdd, Tree.says, List.getElem?_cons_zero, List.getElem?_cons_succ, List.map, ev_lit, ev_var, ev_limb, D.ev, List.getD_cons_zero, List.getD_cons_succ]
  intro a _
  have b := c_eq a
  have := hm.low_ne
  refine ⟨fun n => by omega, fun n => ⟨⟨hm, hw⟩, fun a1 _ => ⟨⟨hm, hw⟩, fun a2 _ => ⟨trivial, fun a3 _ a4 _ => ⟨trivial, fun a5 _ => ?_⟩⟩⟩⟩⟩
  have m1 := md_lt (x := e 3) (n := e 0) (by omega)
  have m2 := md_lt (x := e 4) (n := e 0) (by omega)
  rw [← a1] at m1
  rw [← a2] at m2
  rw [Int.emod_eq_of_lt (by omega) (by omega)] at a3
  rw [a5, ← cong2, ← a1, ← a2, ← a3]
  congr 1
  split
  · exact (md_eq 1 (by omega) (by omega) (by omega)).symm
  · exact (Int.emod_eq_of_lt (by omega) (by omega)).symm
def tMSub : Tree := (.lett 5 .bit (.cmp .eql (.var 1) (.lit 0))
(.split 5
 (.ret [(.lit 0)])
 (.req 0 [(.var 0), (.var 1), (.var 2), (.var 3)]
 (.lett 102 .num (.app 0 0 [(.var 0), (.var 1), (.var 2), (.var 3)])
 (.req 0 [(.var 0), (.var 1), (.var 2), (.var 4)]
 (.lett 246 .num (.app 0 0 [(.var 0), (.var 1), (.var 2), (.var 4)])
 (.req 1 [(.var 102), (.var 246)]
 (.lett 294 .num (.app 1 0 [(.var 102), (.var 246)])
 (.lett 295 .bit (.app 1 1 [(.var 102), (.var 246)])
 (.split 295
  (.req 2 [(.var 294), (.var 0)]
  (.lett 870 .num (.app 2 0 [(.var 294), (.var 0)])
  (.lett 871 .bit (.app 2 1 [(.var 294), (.var 0)])
  (.ret [(.var 870)]))))
  (.ret [(.var 294)])))))))))))
theorem law_mSub (f1 f2 f3 f : FuncId) (e : Nat → Int) (hk : kkHas [.num, .int .u64, .num, .num, .num] [e 0, e 1, e 2, e 3, e 4]) (hp : (kMSub f).pre [e 0, e 1, e 2, e 3, e 4]) : tMSub.says [kReduce f1, kWSub f2, kWAdd f3] ⟨fun ys => ys = (kMSub f).sem [e 0, e 1, e 2, e 3, e 4], []⟩ e := by
  obtain ⟨hm, hw⟩ := hp
  have hn := hm.2.1
  have hl := hm.lt
  simp only [tMSub, kReduce, kWSub, kWAdd, kMSub, Tree.says, List.getElem?_cons_zero, List.getElem?_cons_succ, List.map, ev_lit, ev_var, ev_limb, D.ev, List.getD_cons_zero, List.getD_cons_succ]
  intro a _
  have b := c_eq a
  have := hm.low_ne
  refine ⟨fun n => by omega, fun n => ⟨⟨hm, hw⟩, fun a1 _ => ⟨⟨hm, hw⟩, fun a2 _ => ⟨trivial, fun a3 _ a4 _ => ?_⟩⟩⟩⟩
  have m1 := md_lt (x := e 3) (n := e 0) (by omega)
  have m2 := md_lt (x := e 4) (n := e 0) (by omega)
  rw [← a1] at m1
  rw [← a2] at m2
  simp only [bi] at a4
  have hN : (0 : Int) < N384 := by unfold N384; omega
  refine ⟨fun hs => ⟨trivial, fun a5 _ a6 _ => ?_⟩, fun hs => ?_⟩
  · have hc : e 102 < e 246 := by
      by_cases hc : e 102 < e 246
      · exact hc
      · rw [if_neg hc] at a4; omega
    have h3 : e 294 = e 102 - e 246 + N384 := by
      rw [a3]; exact md_eq (-1) (by omega) (by omega) (by omega)
    rw [a5, ← cong3, ← a1, ← a2]
    congr 1
    rw [h3, show e 102 - e 246 + N384 + e 0 = e 102 - e 246 + e 0 + N384 * 1 by omega, Int.add_mul_emod_self_left, Int.emod_eq_of_lt (by omega) (by omega)]
    exact (md_eq (-1) (by omega) (by omega) (by omega)).symm
  · have hc : ¬ e 102 < e 246 := fun hc => by rw [if_pos hc] at a4; omega
    have h3 : e 294 = e 102 - e 246 := by rw [a3]; exact Int.emod_eq_of_lt (by omega) (by omega)
    rw [h3, ← cong3, ← a1, ← a2]
    congr 1
    exact (Int.emod_eq_of_lt (by omega) (by omega)).symm
def tMMul : Tree := (.lett 5 .bit (.cmp .eql (.var 1) (.lit 0))
(.split 5
 (.ret [(.lit 0)])
 (.req 0 [(.var 0), (.var 1), (.var 2), (.var 3), (.var 2)]
 (.lett 342 .num (.app 0 0 [(.var 0), (.var 1), (.var 2), (.var 3), (.var 2)])
 (.req 0 [(.var 0), (.var 1), (.var 2), (.var 342), (.var 4)]
 (.lett 438 .num (.app 0 0 [(.var 0), (.var 1), (.var 2), (.var 342), (.var 4)])
 (.ret [(.var 438)])))))))
theorem law_mMul (f1 f : FuncId) (e : Nat → Int) (hk : kkHas [.num, .int .u64, .num, .num, .num] [e 0, e 1, e 2, e 3, e 4]) (hp : (kMMul f).pre [e 0, e 1, e 2, e 3, e 4]) : tMMul.says [kMont f1] ⟨fun ys => ys = (kMMul f).sem [e 0, e 1, e 2, e 3, e 4], []⟩ e := by
  obtain ⟨hm, hw⟩ := hp
  have hn := hm.2.1
  have hwl := wide_lt (n := e 0) (by omega)
  simp only [tMMul, kMont, kMMul, Tree.says, List.getElem?_cons_zero, List.getElem?_cons_succ, List.map, ev_lit, ev_var, ev_limb, D.ev, List.getD_cons_zero, List.getD_cons_succ]
  intro a _
  have b := c_eq a
  have := hm.low_ne
  refine ⟨fun n => by omega, fun n => ⟨⟨hm, .inr (by rw [hw]; exact hwl.2)⟩, fun a1 _ => ⟨⟨hm, .inl (by rw [a1]; exact (montv_lt (by omega)).2)⟩, fun a2 _ => ?_⟩⟩⟩
  rw [a2, a1, hw, mont_mul hm.odd]
def tMNeg : Tree := (.req 0 [(.var 0), (.var 1), (.var 2), (.lit 0), (.var 3)]
(.lett 4 .num (.app 0 0 [(.var 0), (.var 1), (.var 2), (.lit 0), (.var 3)])
(.ret [(.var 4)])))
theorem law_mNeg (f1 f : FuncId) (e : Nat → Int) (hk : kkHas [.num, .int .u64, .num, .num] [e 0, e 1, e 2, e 3]) (hp : (kMNeg f).pre [e 0, e 1, e 2, e 3]) : tMNeg.says [kMSub f1] ⟨fun ys => ys = (kMNeg f).sem [e 0, e 1, e 2, e 3], []⟩ e := by
  simp only [tMNeg, kMSub, kMNeg, Tree.says, List.getElem?_cons_zero, List.getElem?_cons_succ, List.map, ev_lit, ev_var, ev_limb, D.ev, List.getD_cons_zero, List.getD_cons_succ]
  refine ⟨hp, fun a _ => ?_⟩
  rw [a, Int.zero_sub]
def tHalf : Tree := (.lett 4 (.int .u64) (.bin .and .u64 (.limb 3 0) (.lit 1))
(.lett 5 .bit (.cmp .eql (.var 4) (.lit 1))
(.split 5
 (.req 0 [(.var 3), (.var 0)]
 (.lett 246 .num (.app 0 0 [(.var 3), (.var 0)])
 (.lett 247 .bit (.app 0 1 [(.var 3), (.var 0)])
 (.lett 486 (.int .u64) (.bin .shl .u64 (.limb 246 1) (.lit 63))
 (.lett 871 (.int .u64) (.bin .shr .u64 (.limb 246 0) (.lit 1))
 (.lett 919 (.int .u64) (.bin .or .u64 (.var 486) (.var 871))
 (.lett 1063 (.int .u64) (.bin .shl .u64 (.limb 246 2) (.lit 63))
 (.lett 1448 (.int .u64) (.bin .shr .u64 (.limb 246 1) (.lit 1))
 (.lett 1496 (.int .u64) (.bin .or .u64 (.var 1063) (.var 1448))
 (.lett 1640 (.int .u64) (.bin .shl .u64 (.limb 246 3) (.lit 63))
 (.lett 2025 (.int .u64) (.bin .shr .u64 (.limb 246 2) (.lit 1))
 (.lett 2073 (.int .u64) (.bin .or .u64 (.var 1640) (.var 2025))
 (.lett 2217 (.int .u64) (.bin .shl .u64 (.limb 246 4) (.lit 63))
 (.lett 2602 (.int .u64) (.bin .shr .u64 (.limb 246 3) (.lit 1))
 (.lett 2650 (.int .u64) (.bin .or .u64 (.var 2217) (.var 2602))
 (.lett 2794 (.int .u64) (.bin .shl .u64 (.limb 246 5) (.lit 63))
 (.lett 3179 (.int .u64) (.bin .shr .u64 (.limb 246 4) (.lit 1))
 (.lett 3227 (.int .u64) (.bin .or .u64 (.var 2794) (.var 3179))
 (.lett 3755 (.int .u64) (.bin .shr .u64 (.limb 246 5) (.lit 1))
 (.lett 3803 (.int .u64) (.bin .or .u64 (.lit 0) (.var 3755))
 (.lett 3947 .num (.join [(.var 919), (.var 1496), (.var 2073), (.var 2650), (.var 3227), (.var 3803)])
 (.ret [(.var 3947)]))))))))))))))))))))))
 (.lett 6 (.int .u64) (.bin .shl .u64 (.limb 3 1) (.lit 63))
 (.lett 391 (.int .u64) (.bin .shr .u64 (.limb 3 0) (.lit 1))
 (.lett 439 (.int .u64) (.bin .or .u64 (.var 6) (.var 391))
 (.lett 583 (.int .u64) (.bin .shl .u64 (.limb 3 2) (.lit 63))
 (.lett 968 (.int .u64) (.bin .shr .u64 (.limb 3 1) (.lit 1))
 (.lett 1016 (.int .u64) (.bin .or .u64 (.var 583) (.var 968))
 (.lett 1160 (.int .u64) (.bin .shl .u64 (.limb 3 3) (.lit 63))
 (.lett 1545 (.int .u64) (.bin .shr .u64 (.limb 3 2) (.lit 1))
 (.lett 1593 (.int .u64) (.bin .or .u64 (.var 1160) (.var 1545))
 (.lett 1737 (.int .u64) (.bin .shl .u64 (.limb 3 4) (.lit 63))
 (.lett 2122 (.int .u64) (.bin .shr .u64 (.limb 3 3) (.lit 1))
 (.lett 2170 (.int .u64) (.bin .or .u64 (.var 1737) (.var 2122))
 (.lett 2314 (.int .u64) (.bin .shl .u64 (.limb 3 5) (.lit 63))
 (.lett 2699 (.int .u64) (.bin .shr .u64 (.limb 3 4) (.lit 1))
 (.lett 2747 (.int .u64) (.bin .or .u64 (.var 2314) (.var 2699))
 (.lett 3275 (.int .u64) (.bin .shr .u64 (.limb 3 5) (.lit 1))
 (.lett 3323 (.int .u64) (.bin .or .u64 (.lit 0) (.var 3275))
 (.lett 3467 .num (.join [(.var 439), (.var 1016), (.var 1593), (.var 2170), (.var 2747), (.var 3323)])
 (.ret [(.var 3467)]))))))))))))))))))))))
theorem half_join {x o0 o1 o2 o3 o4 o5 : Int} (hx : 0 ≤ x ∧ x < N384) (h0 : o0 = lim x 1 % 2 * 9223372036854775808 + lim x 0 / 2) (h1 : o1 = lim x 2 % 2 * 9223372036854775808 + lim x 1 / 2) (h2 : o2 = lim x 3 % 2 * 9223372036854775808 + lim x 2 / 2)
    (h3 : o3 = lim x 4 % 2 * 9223372036854775808 + lim x 3 / 2) (h4 : o4 = lim x 5 % 2 * 9223372036854775808 + lim x 4 / 2) (h5 : o5 = lim x 5 / 2) : joinE [o0, o1, o2, o3, o4, o5] = x / 2 := by
  have ex := lim_eq hx
  have l0 := lim_lt x 0
  have l1 := lim_lt x 1
  have l2 := lim_lt x 2
  have l3 := lim_lt x 3
  have l4 := lim_lt x 4
  have l5 := lim_lt x 5
  rw [joinE6]
  generalize lim x 0 = x0 at *
  generalize lim x 1 = x1 at *
  generalize lim x 2 = x2 at *
  generalize lim x 3 = x3 at *
  generalize lim x 4 = x4 at *
  generalize lim x 5 = x5 at *
  omega
theorem half_md {n a h : Int} (hn : n % 2 = 1) (h0 : 0 ≤ h ∧ h < n) (hh : 2 * h = a ∨ 2 * h = a + n) : h = a * half2 n % n := by
  have e2 : 2 * half2 n = n + 1 := by unfold half2; omega
  symm
  generalize half2 n = i at *
  rcases hh with hh | hh
  · exact md_eq h (by rw [← hh]; have : 2 * i * h = (n + 1) * h := by rw [e2]
                      grind) h0.1 h0.2
  · exact md_eq (h - i) (by have h1 : a = 2 * h - n := by omega
                            rw [h1]; have : 2 * i * h = (n + 1) * h := by rw [e2]
                            grind) h0.1 h0.2
theorem law_half (f1 f : FuncId) (e : Nat → Int) (hk : kkHas [.num, .int .u64, .num, .num] [e 0, e 1, e 2, e 3]) (hp : (kHalf f).pre [e 0, e 1, e 2, e 3]) : tHalf.says [kWAdd f1] ⟨fun ys => ys = (kHalf f).sem [e 0, e 1, e 2, e 3], []⟩ e := by
  obtain ⟨⟨hm, hw⟩, ha⟩ := hp
  have hn := hm.2.1
  have hl := hm.lt
  have h3 := hk.2.2.2.1
  have ho := hm.odd
  have e30 : lim (e 3) 0 = e 3 % 18446744073709551616 := lim_0 _
  have z := U_lim e
  simp only [KK.has] at h3
  simp only [tHalf, kWAdd, kHalf, Tree.says, List.getElem?_cons_zero, List.getElem?_cons_succ, List.map, ev_lit, ev_var, ev_limb, D.ev, List.getD_cons_zero, List.getD_cons_succ]
  intro a4 _ a5 _
  have b4 := and_1 a4 (z 3 0)
  have b5 := c_eq a5
  refine ⟨fun hs => ⟨trivial, ?_⟩, fun hs => ?_⟩
  · intro a6 k6 a7 _ s1 _ r1 _ o1 _ s2 _ r2 _ o2 _ s3 _ r3 _ o3 _ s4 _ r4 _ o4 _ s5 _ r5 _ o5 _ r6 _ o6 _ aj _
    rw [Int.emod_eq_of_lt (by omega) (by omega)] at a6
    have hj := half_join k6 (or_63 o1 s1 r1 (z _ _) (z _ _)) (or_63 o2 s2 r2 (z _ _) (z _ _)) (or_63 o3 s3 r3 (z _ _) (z _ _)) (or_63 o4 s4 r4 (z _ _) (z _ _)) (or_63 o5 s5 r5 (z _ _) (z _ _)) (or_0 o6 r6 (z _ _))
    rw [← aj] at hj
    clear aj s1 r1 o1 s2 r2 o2 s3 r3 o3 s4 r4 o4 s5 r5 o5 r6 o6 a4 a5 z k6
    have : e 3947 = e 3 * half2 (e 0) % e 0 := half_md ho (by omega) (.inr (by omega))
    rw [this]
  · intro s1 _ r1 _ o1 _ s2 _ r2 _ o2 _ s3 _ r3 _ o3 _ s4 _ r4 _ o4 _ s5 _ r5 _ o5 _ r6 _ o6 _ aj _
    have hj := half_join h3 (or_63 o1 s1 r1 (z _ _) (z _ _)) (or_63 o2 s2 r2 (z _ _) (z _ _)) (or_63 o3 s3 r3 (z _ _) (z _ _)) (or_63 o4 s4 r4 (z _ _) (z _ _)) (or_63 o5 s5 r5 (z _ _) (z _ _)) (or_0 o6 r6 (z _ _))
    rw [← aj] at hj
    clear aj s1 r1 o1 s2 r2 o2 s3 r3 o3 s4 r4 o4 s5 r5 o5 r6 o6 a4 a5 z
    have : e 3467 = e 3 * half2 (e 0) % e 0 := half_md ho (by omega) (.inl (by omega))
    rw [this]
end Go.Sx

/- Laws: modulus.New. -/
namespace Go.Sx
open Go Go.RowKit
set_option maxRecDepth 100000
set_option linter.unusedSimpArgs false
set_option linter.unusedVariables false
theorem newt {N x a b : Int} (h : ∃ z, N * x = 1 + a * z) (hb : ∃ c, a * a = b * c) (hW : ∃ d, 18446744073709551616 = b * d) :
    ∃ z, N * (x * ((2 - N * x % 18446744073709551616) % 18446744073709551616) % 18446744073709551616) = 1 + b * z := by
  obtain ⟨z, hz⟩ := h
  obtain ⟨c, hc⟩ := hb
  obtain ⟨d, hd⟩ := hW
  obtain ⟨t1, h1⟩ := md_of (x := N * x) (n := 18446744073709551616)
  obtain ⟨t2, h2⟩ := md_of (x := 2 - N * x % 18446744073709551616) (n := 18446744073709551616)
  obtain ⟨t3, h3⟩ := md_of (x := x * ((2 - N * x % 18446744073709551616) % 18446744073709551616)) (n := 18446744073709551616)
  rw [h3, h2, h1]
  generalize (18446744073709551616 : Int) = W at *
  subst hd
  refine ⟨d * (N * t3 + N * x * t2 - N * x * t1) - c * z * z, ?_⟩
  have e1 : N * x * (N * x) = (1 + a * z) * (1 + a * z) := by rw [hz]
  have e2 : (1 + a * z) * (1 + a * z) = 1 + 2 * (a * z) + b * c * z * z := by rw [← hc]; grind
  grind
theorem sq8 {n : Int} (h : n % 2 = 1) : ∃ z, n * n = 1 + 8 * z := by
  rcases Int.emod_two_eq (n / 2) with h3 | h3
  · have h4 : n = 4 * (n / 2 / 2) + 1 := by omega
    generalize n / 2 / 2 = q at *
    exact ⟨q * (2 * q) + q, by subst h4; grind⟩
  · have h4 : n = 4 * (n / 2 / 2) + 3 := by omega
    generalize n / 2 / 2 = q at *
    exact ⟨q * (2 * q) + 3 * q + 1, by subst h4; grind⟩
theorem newton_s {l x a b y : Int} {k : Nat} (h1 : a = l * x % 18446744073709551616) (h2 : b = (2 - a) % 18446744073709551616) (h3 : y = x * b % 18446744073709551616) : newton l (k + 1) x = newton l k y := by
  rw [h3, h2, h1]; rfl
theorem newton_ok {n : Int} (h : n % 2 = 1) : ∃ z, n * newton n 6 n = 1 + 18446744073709551616 * z := by
  have s0 := sq8 h
  have s1 := newt s0 (b := 64) ⟨1, by decide⟩ ⟨288230376151711744, by decide⟩
  have s2 := newt s1 (b := 4096) ⟨1, by decide⟩ ⟨4503599627370496, by decide⟩
  have s3 := newt s2 (b := 16777216) ⟨1, by decide⟩ ⟨1099511627776, by decide⟩
  have s4 := newt s3 (b := 281474976710656) ⟨1, by decide⟩ ⟨65536, by decide⟩
  have s5 := newt s4 (b := 18446744073709551616) ⟨4294967296, by decide⟩ ⟨1, by decide⟩
  exact newt s5 (b := 18446744073709551616) ⟨18446744073709551616, by decide⟩ ⟨1, by decide⟩
theorem lowOf_ok {n : Int} (h : n % 2 = 1) : n * lowOf n % 18446744073709551616 = 18446744073709551615 := by
  obtain ⟨z, hz⟩ := newton_ok (n := n % 18446744073709551616) (by omega)
  unfold lowOf
  generalize newton (n % 18446744073709551616) 6 (n % 18446744073709551616) = x at *
  obtain ⟨t1, h1⟩ := md_of (x := -x) (n := 18446744073709551616)
  obtain ⟨t2, h2⟩ := md_of (x := n) (n := 18446744073709551616)
  rw [h1]
  rw [h2] at hz
  refine md_eq (n * t1 + t2 * x - z - 1) ?_ (by decide) (by decide)
  grind
/-- what New makes is a good modulus -/
theorem new_good {n : Int} (h : n % 2 = 1) (h3 : 3 ≤ n) (hl : n < 2 ^ 382) : mGood n (lowOf n) (wideOf n) := ⟨⟨lowOf_ok h, h3, hl⟩, rfl⟩
theorem dbl_join {x o0 o1 o2 o3 o4 o5 : Int} (hx : 0 ≤ x ∧ x < N384) (hs : 2 * x < N384) (h0 : o0 = 2 * lim x 0 % 18446744073709551616) (h1 : o1 = 2 * lim x 1 % 18446744073709551616 + lim x 0 / 9223372036854775808)
    (h2 : o2 = 2 * lim x 2 % 18446744073709551616 + lim x 1 / 9223372036854775808) (h3 : o3 = 2 * lim x 3 % 18446744073709551616 + lim x 2 / 9223372036854775808) (h4 : o4 = 2 * lim x 4 % 18446744073709551616 + lim x 3 / 9223372036854775808)
    (h5 : o5 = 2 * lim x 5 % 18446744073709551616 + lim x 4 / 9223372036854775808) : joinE [o0, o1, o2, o3, o4, o5] = 2 * x := by
  have ex := lim_eq hx
  have l0 := lim_lt x 0
  have l1 := lim_lt x 1
  have l2 := lim_lt x 2
  have l3 := lim_lt x 3
  have l4 := lim_lt x 4
  have l5 := lim_lt x 5
  rw [joinE6]
  generalize lim x 0 = x0 at *
  generalize lim x 1 = x1 at *
  generalize lim x 2 = x2 at *
  generalize lim x 3 = x3 at *
  generalize lim x 4 = x4 at *
  generalize lim x 5 = x5 at *
  unfold N384 at hs
  omega
def tNew : Tree := (.lett 97 (.int .u64) (.bin .and .u64 (.limb 0 0) (.lit 1))
(.lett 145 .bit (.cmp .eql (.var 97) (.lit 0))
(.split 145
 (.bad 402 "")
 (.req 0 [(.var 0)]
 (.lett 289 (.int .i64) (.app 0 0 [(.var 0)])
 (.lett 337 .bit (.cmp .gtr (.var 289) (.lit 382))
 (.split 337
  (.bad 402 "")
  (.req 3 [(.lit 3)]
  (.lett 529 .num (.app 3 0 [(.lit 3)])
  (.req 1 [(.var 0), (.var 529)]
  (.lett 577 (.int .i64) (.app 1 0 [(.var 0), (.var 529)])
  (.lett 625 .bit (.cmp .lss (.var 577) (.lit 0))
  (.split 625
   (.bad 402 "")
   (.lett 721 (.int .u64) (.bin .mul .u64 (.limb 0 0) (.limb 0 0))
   (.lett 722 (.int .u64) (.bin .sub .u64 (.lit 2) (.var 721))
   (.lett 723 (.int .u64) (.bin .mul .u64 (.limb 0 0) (.var 722))
   (.lett 724 (.int .u64) (.bin .mul .u64 (.limb 0 0) (.var 723))
   (.lett 725 (.int .u64) (.bin .sub .u64 (.lit 2) (.var 724))
   (.lett 726 (.int .u64) (.bin .mul .u64 (.var 723) (.var 725))
   (.lett 727 (.int .u64) (.bin .mul .u64 (.limb 0 0) (.var 726))
   (.lett 728 (.int .u64) (.bin .sub .u64 (.lit 2) (.var 727))
   (.lett 729 (.int .u64) (.bin .mul .u64 (.var 726) (.var 728))
   (.lett 730 (.int .u64) (.bin .mul .u64 (.limb 0 0) (.var 729))
   (.lett 731 (.int .u64) (.bin .sub .u64 (.lit 2) (.var 730))
   (.lett 732 (.int .u64) (.bin .mul .u64 (.var 729) (.var 731))
   (.lett 733 (.int .u64) (.bin .mul .u64 (.limb 0 0) (.var 732))
   (.lett 734 (.int .u64) (.bin .sub .u64 (.lit 2) (.var 733))
   (.lett 735 (.int .u64) (.bin .mul .u64 (.var 732) (.var 734))
   (.lett 736 (.int .u64) (.bin .mul .u64 (.limb 0 0) (.var 735))
   (.lett 737 (.int .u64) (.bin .sub .u64 (.lit 2) (.var 736))
   (.lett 738 (.int .u64) (.bin .mul .u64 (.var 735) (.var 737))
   (.lett 739 (.int .u64) (.bin .sub .u64 (.lit 0) (.var 738))
   (.req 3 [(.lit 1)]
   (.lett 740 .num (.app 3 0 [(.lit 1)])
   (.loop [(.var 740), (.lit 0)] [.num, (.int .i64)] 741
   (.lett 743 .bit (.cmp .lss (.var 742) (.lit 768))
   (.split 743
    (.lett 744 (.int .u64) (.bin .shl .u64 (.limb 741 0) (.lit 1))
    (.lett 745 (.int .u64) (.bin .shl .u64 (.limb 741 1) (.lit 1))
    (.lett 1130 (.int .u64) (.bin .shr .u64 (.limb 741 0) (.lit 63))
    (.lett 1178 (.int .u64) (.bin .or .u64 (.var 745) (.var 1130))
    (.lett 1322 (.int .u64) (.bin .shl .u64 (.limb 741 2) (.lit 1))
    (.lett 1707 (.int .u64) (.bin .shr .u64 (.limb 741 1) (.lit 63))
    (.lett 1755 (.int .u64) (.bin .or .u64 (.var 1322) (.var 1707))
    (.lett 1899 (.int .u64) (.bin .shl .u64 (.limb 741 3) (.lit 1))
    (.lett 2284 (.int .u64) (.bin .shr .u64 (.limb 741 2) (.lit 63))
    (.lett 2332 (.int .u64) (.bin .or .u64 (.var 1899) (.var 2284))
    (.lett 2476 (.int .u64) (.bin .shl .u64 (.limb 741 4) (.lit 1))
    (.lett 2861 (.int .u64) (.bin .shr .u64 (.limb 741 3) (.lit 63))
    (.lett 2909 (.int .u64) (.bin .or .u64 (.var 2476) (.var 2861))
    (.lett 3053 (.int .u64) (.bin .shl .u64 (.limb 741 5) (.lit 1))
    (.lett 3438 (.int .u64) (.bin .shr .u64 (.limb 741 4) (.lit 63))
    (.lett 3486 (.int .u64) (.bin .or .u64 (.var 3053) (.var 3438))
    (.lett 3630 .num (.join [(.var 744), (.var 1178), (.var 1755), (.var 2332), (.var 2909), (.var 3486)])
    (.req 2 [(.var 0), (.var 739), (.lit 0), (.var 3630)]
    (.lett 3631 .num (.app 2 0 [(.var 0), (.var 739), (.lit 0), (.var 3630)])
    (.lett 3632 (.int .i64) (.bin .add .i64 (.var 742) (.lit 1))
    (.back 0 [(.var 3631), (.var 3632)])))))))))))))))))))))
    (.ret [(.var 0), (.var 739), (.var 741)]))))))))))))))))))))))))))))))))))))))
theorem pow_step {n i x : Int} (hn : 3 ≤ n) (hi : 0 ≤ i) (hx : x = 2 ^ i.toNat % n) : (if n ≤ 2 * x then 2 * x - n else 2 * x) = 2 ^ (i + 1).toNat % n := by
  have h1 : (i + 1).toNat = i.toNat + 1 := by omega
  obtain ⟨z, hz⟩ := md_of (x := (2 : Int) ^ i.toNat) (n := n)
  have hb := md_lt (x := (2 : Int) ^ i.toNat) (n := n) (by omega)
  rw [h1, Int.pow_succ]
  rw [← hx] at hb hz
  have key : 2 ^ i.toNat * 2 % n = 2 * x % n := md (-(2 * z)) (by rw [hz]; grind)
  rw [key]
  split
  · exact (md_eq 1 (by omega) (by omega) (by omega)).symm
  · exact (Int.emod_eq_of_lt (by omega) (by omega)).symm
theorem shl_1 {v x : Int} (h : v = binE .shl .u64 x 1) : v = 2 * x % 18446744073709551616 := by
  have := shl_d 2 h rfl
  simp only [wr] at this
  omega
theorem law_new (f1 f2 f3 f4 f : FuncId) (te : TypeId) (e : Nat → Int) (hk : kkHas [.num] [e 0]) (hp : (kNew f te).pre [e 0]) : tNew.says [kWLen f1, kWCmp f2, kLess f3, kOf f4] ⟨fun ys => ys = (kNew f te).sem [e 0], []⟩ e := by
  obtain ⟨hodd, hn3, hn⟩ := hp
  have h0 := hk.1
  have z := U_lim e
  have hl : 2 * e 0 < N384 := by rw [p382] at hn; unfold N384; omega
  simp only [KK.has] at h0
  have e00 : lim (e 0) 0 = e 0 % 18446744073709551616 := lim_0 _
  simp only [tNew, kWLen, kWCmp, kLess, kOf, kNew, Tree.says, List.getElem?_cons_zero, List.getElem?_cons_succ, List.map, ev_lit, ev_var, ev_limb, D.ev, List.getD_cons_zero, List.getD_cons_succ]
  intro a1 _ a2 _
  have b1 := and_1 a1 (z 0 0)
  have b2 := c_eq a2
  refine ⟨fun n => by clear a1 z; omega, fun n => ⟨trivial, fun a3 _ a4 _ => ?_⟩⟩
  have b4 := c_gt a4
  have hb := blen_le 382 (e 0) h0.1 hn
  rw [← a3] at hb
  refine ⟨fun n => by clear a1 z; omega, fun n => ⟨trivial, fun a5 _ => ⟨trivial, fun a6 _ a7 _ => ?_⟩⟩⟩
  have b7 := c_lt a7
  rw [a5] at a6
  have b6 : ¬ e 577 < 0 := by rw [a6]; rw [if_neg (by clear a1 z; omega)]; split <;> decide
  refine ⟨fun n => by clear a1 z; omega, fun n => ?_⟩
  intro c1 _ c2 _ c3 _ c4 _ c5 _ c6 _ c7 _ c8 _ c9 _ c10 _ c11 _ c12 _ c13 _ c14 _ c15 _ c16 _ c17 _ c18 _ c19 _
  have hlow : e 739 = lowOf (e 0) := by
    simp only [binE, wr] at c1 c2 c3 c4 c5 c6 c7 c8 c9 c10 c11 c12 c13 c14 c15 c16 c17 c18 c19
    unfold lowOf
    rw [← e00, newton_s c1 c2 c3, newton_s c4 c5 c6, newton_s c7 c8 c9, newton_s c10 c11 c12, newton_s c13 c14 c15, newton_s c16 c17 c18, c19, Int.zero_sub]
    rfl
  clear c1 c2 c3 c4 c5 c6 c7 c8 c9 c10 c11 c12 c13 c14 c15 c16 c17 c18 c19
  refine ⟨trivial, fun d1 _ => ?_⟩
  refine ⟨fun | [x, i] => 0 ≤ i ∧ i ≤ 768 ∧ x = 2 ^ i.toNat % e 0 | _ => False, fun | [_, i] => (768 - i).toNat | _ => 0, ?_, fun e' he hkk hI => ?_⟩
  · refine ⟨by decide, by decide, ?_⟩
    rw [d1]; show (1 : Int) = 1 % e 0; symm; exact Int.emod_eq_of_lt (by decide) (by omega)
  · obtain ⟨i0, i1, i2⟩ : 0 ≤ e' 742 ∧ e' 742 ≤ 768 ∧ e' 741 = 2 ^ (e' 742).toNat % e 0 := hI
    have hx := md_lt (x := (2 : Int) ^ (e' 742).toNat) (n := e 0) (by omega)
    rw [← i2] at hx
    intro g1 _
    have g2 := c_lt g1
    refine ⟨fun n => ?_, fun n => ?_⟩
    · intro s0 _ s1 _ r1 _ o1 _ s2 _ r2 _ o2 _ s3 _ r3 _ o3 _ s4 _ r4 _ o4 _ s5 _ r5 _ o5 _ oj _
      have zz := U_lim e'
      have hj := dbl_join (x := e' 741) (by constructor <;> (clear s0 s1 r1 o1 s2 r2 o2 s3 r3 o3 s4 r4 o4 s5 r5 o5 oj z zz; omega)) (by clear s0 s1 r1 o1 s2 r2 o2 s3 r3 o3 s4 r4 o4 s5 r5 o5 oj z zz; omega) (shl_1 s0) (or_1 o1 s1 r1 (zz _ _) (zz _ _)) (or_1 o2 s2 r2 (zz _ _) (zz _ _)) (or_1 o3 s3 r3 (zz _ _) (zz _ _)) (or_1 o4 s4 r4 (zz _ _) (zz _ _)) (or_1 o5 s5 r5 (zz _ _) (zz _ _))
      rw [← oj] at hj
      clear oj s0 s1 r1 o1 s2 r2 o2 s3 r3 o3 s4 r4 o4 s5 r5 o5 z zz
      refine ⟨trivial, fun k1 _ k2 _ => ?_⟩
      rw [he 0 (by decide), hj] at k1
      have hi : e' 3632 = e' 742 + 1 := by rw [k2]; simp only [binE, wr]; omega
      show (0 ≤ e' 3632 ∧ e' 3632 ≤ 768 ∧ e' 3631 = 2 ^ (e' 3632).toNat % e 0) ∧ (768 - e' 3632).toNat < (768 - e' 742).toNat
      rw [hi, k1, pow_step hn3 i0 i2]
      exact ⟨⟨by omega, by omega, rfl⟩, by omega⟩
    · have hi : e' 742 = 768 := by omega
      rw [he 0 (by decide), he 739 (by decide), hlow, i2, hi]
      rfl
end Go.Sx

/- Laws: suite's scalars; modulus.Inv. -/
namespace Go.Sx
open Go Go.RowKit
set_option maxRecDepth 100000
set_option linter.unusedSimpArgs false
set_option linter.unusedVariables false
theorem lim_inj {x y : Int} (hx : 0 ≤ x ∧ x < N384) (hy : 0 ≤ y ∧ y < N384) (h : lim x 0 = lim y 0 ∧ lim x 1 = lim y 1 ∧ lim x 2 = lim y 2 ∧ lim x 3 = lim y 3 ∧ lim x 4 = lim y 4 ∧ lim x 5 = lim y 5) : x = y := by
  have := lim_eq hx
  have := lim_eq hy
  omega
theorem c_num {e : Nat → Int} {v : Int} {i j : Nat} (h : v = (D.eqs [(.limb i 0, .limb j 0), (.limb i 1, .limb j 1), (.limb i 2, .limb j 2), (.limb i 3, .limb j 3), (.limb i 4, .limb j 4), (.limb i 5, .limb j 5)]).ev [] e) (hi : 0 ≤ e i ∧ e i < N384) (hj : 0 ≤ e j ∧ e j < N384) : (v = 1 ∧ e i = e j) ∨ (v = 0 ∧ ¬ e i = e j) := by
  simp only [D.ev, List.all_cons, List.all_nil, ev_limb, Bool.and_true, b2i_bi, Bool.and_eq_true, beq_iff_eq] at h
  by_cases hc : e i = e j
  · left; rw [hc] at h; simp at h; exact ⟨h, hc⟩
  · right
    rw [if_neg (fun hh => hc (lim_inj hi hj hh))] at h
    exact ⟨h, hc⟩
theorem c_num0 {e : Nat → Int} {v : Int} {i : Nat} (h : v = (D.eqs [(.limb i 0, .lit 0), (.limb i 1, .lit 0), (.limb i 2, .lit 0), (.limb i 3, .lit 0), (.limb i 4, .lit 0), (.limb i 5, .lit 0)]).ev [] e) (hi : 0 ≤ e i ∧ e i < N384) : (v = 1 ∧ e i = 0) ∨ (v = 0 ∧ ¬ e i = 0) := by
  simp only [D.ev, List.all_cons, List.all_nil, ev_limb, ev_lit, Bool.and_true, b2i_bi, Bool.and_eq_true, beq_iff_eq] at h
  by_cases hc : e i = 0
  · left; rw [hc] at h; simp [lim] at h; exact ⟨h, hc⟩
  · right
    rw [if_neg (fun hh => hc (by have := lim_eq hi; omega))] at h
    exact ⟨h, hc⟩
/-! ### orders -/
theorem rOf_ok {s : Int} (h : isS s) : rOf s % 2 = 1 ∧ 3 ≤ rOf s ∧ rOf s < 2 ^ 382 := by
  obtain ⟨h0, h1⟩ := h
  have : s = 0 ∨ s = 1 ∨ s = 2 := by omega
  rw [p382]
  rcases this with h | h | h <;> subst h <;> decide
def tOrder : Tree := (.lett 1 .bit (.cmp .eql (.var 0) (.lit 0))
(.split 1
 (.ret [(.lit 52435875175126190479447740508185965837690552500527637822603658699938581184513)])
 (.lett 2 .bit (.cmp .eql (.var 0) (.lit 1))
 (.split 2
  (.ret [(.lit 65521)])
  (.lett 3 .bit (.cmp .eql (.var 0) (.lit 2))
  (.split 3
   (.ret [(.lit 72057594037927889)])
   (.ret [(.lit 0)])))))))
theorem law_order (f : FuncId) (e : Nat → Int) (hk : kkHas [.int .i64] [e 0]) (hp : (kOrder f).pre [e 0]) : tOrder.says [] ⟨fun ys => ys = (kOrder f).sem [e 0], []⟩ e := by
  obtain ⟨p0, p1⟩ := hp
  simp only [tOrder, kOrder, Tree.says, List.getElem?_cons_zero, List.getElem?_cons_succ, List.map, ev_lit, ev_var, ev_limb, D.ev, List.getD_cons_zero, List.getD_cons_succ]
  intro a1 _
  have b1 := c_eq a1
  refine ⟨fun n => ?_, fun n => ?_⟩
  · have : e 0 = 0 := by omega
    rw [this]; rfl
  intro a2 _
  have b2 := c_eq a2
  refine ⟨fun n => ?_, fun n => ?_⟩
  · have : e 0 = 1 := by omega
    rw [this]; rfl
  intro a3 _
  have b3 := c_eq a3
  refine ⟨fun n => ?_, fun n => ?_⟩
  · have : e 0 = 2 := by omega
    rw [this]; rfl
  · omega
def tSOrder : Tree := (.lett 1 .bit (.cmp .eql (.var 0) (.lit 0))
(.split 1
 (.req 0 [(.var 0)]
 (.lett 2 .num (.app 0 0 [(.var 0)])
 (.ret [(.var 2), (.lit 0)])))
 (.lett 2 .bit (.cmp .eql (.var 0) (.lit 1))
 (.split 2
  (.req 0 [(.var 0)]
  (.lett 3 .num (.app 0 0 [(.var 0)])
  (.ret [(.var 3), (.lit 0)])))
  (.lett 3 .bit (.cmp .eql (.var 0) (.lit 2))
  (.lett 4 .bit (.not (.var 3))
  (.split 4
   (.ret [(.lit 0), (.lit 2)])
   (.req 0 [(.var 0)]
   (.lett 5 .num (.app 0 0 [(.var 0)])
   (.ret [(.var 5), (.lit 0)]))))))))))
theorem law_sOrder (f1 f : FuncId) (e : Nat → Int) (hk : kkHas [.int .i64] [e 0]) : tSOrder.says [kOrder f1] ⟨fun ys => ys = (kSOrder f).sem [e 0], []⟩ e := by
  simp only [tSOrder, kOrder, kSOrder, Tree.says, List.getElem?_cons_zero, List.getElem?_cons_succ, List.map, ev_lit, ev_var, ev_limb, D.ev, List.getD_cons_zero, List.getD_cons_succ]
  intro a1 _
  have b1 := c_eq a1
  refine ⟨fun n => ?_, fun n => ?_⟩
  · have hs : isS (e 0) := by unfold isS; omega
    exact ⟨hs, fun a _ => by rw [if_pos hs, a]⟩
  intro a2 _
  have b2 := c_eq a2
  refine ⟨fun n => ?_, fun n => ?_⟩
  · have hs : isS (e 0) := by unfold isS; omega
    exact ⟨hs, fun a _ => by rw [if_pos hs, a]⟩
  intro a3 _ a4 _
  have b3 := c_eq a3
  have b4 := c_not a4
  refine ⟨fun n => ?_, fun n => ?_⟩
  · rw [if_neg (by unfold isS; omega)]
  · have hs : isS (e 0) := by unfold isS; omega
    exact ⟨hs, fun a _ => by rw [if_pos hs, a]⟩
/-- a branch: two numbers by the suite's arithmetic -/
def br2 (b : Nat) : Tree := (.req 0 [(.var 0)]
 (.lett b .num (.app 0 0 [(.var 0)])
 (.req 1 [(.var 1), (.var b)]
 (.lett (b + 1) (.int .i64) (.app 1 0 [(.var 1), (.var b)])
 (.lett (b + 2) .bit (.cmp .geq (.var (b + 1)) (.lit 0))
 (.split (b + 2)
  (.ret [(.lit 0), (.lit 2)])
  (.req 1 [(.var 2), (.var b)]
  (.lett (b + 3) (.int .i64) (.app 1 0 [(.var 2), (.var b)])
  (.lett (b + 4) .bit (.cmp .geq (.var (b + 3)) (.lit 0))
  (.split (b + 4)
   (.ret [(.lit 0), (.lit 2)])
   (.req 2 [(.var b)]
   (.lett (b + 5) .num (.app 2 0 [(.var b)])
   (.lett (b + 6) (.int .u64) (.app 2 1 [(.var b)])
   (.lett (b + 7) .num (.app 2 2 [(.var b)])
   (.req 3 [(.var (b + 5)), (.var (b + 6)), (.var (b + 7)), (.var 1), (.var 2)]
   (.lett (b + 8) .num (.app 3 0 [(.var (b + 5)), (.var (b + 6)), (.var (b + 7)), (.var 1), (.var 2)])
   (.ret [(.var (b + 8)), (.lit 0)])))))))))))))))))
def tS2 : Tree := (.lett 3 .bit (.cmp .eql (.var 0) (.lit 0))
 (.split 3 (br2 4)
 (.lett 4 .bit (.cmp .eql (.var 0) (.lit 1))
 (.split 4 (br2 5)
 (.lett 5 .bit (.cmp .eql (.var 0) (.lit 2))
 (.lett 6 .bit (.not (.var 5))
 (.split 6
  (.ret [(.lit 0), (.lit 2)])
  (br2 7))))))))
theorem cmp_ge {a b v w : Int} (h : v = if a < b then -1 else if a = b then 0 else 1) (hw : w = b2i (cmpE .geq v 0)) : (w = 1 ∧ b ≤ a) ∨ (w = 0 ∧ a < b) := by
  have := c_ge hw
  split at h
  · omega
  · split at h <;> omega
theorem cmp_lt {a b v w : Int} (h : v = if a < b then -1 else if a = b then 0 else 1) (hw : w = b2i (cmpE .lss v 0)) : (w = 1 ∧ a < b) ∨ (w = 0 ∧ b ≤ a) := by
  have := c_lt hw
  split at h
  · omega
  · split at h <;> omega
theorem br2_says {κ : K} {op : Int → Int → Int} (f0 f1 f2 : FuncId) (te : TypeId) (hpre : ∀ n l w a b, mGood n l w → κ.pre [n, l, w, a, b]) (hsem : ∀ n l w a b, κ.sem [n, l, w, a, b] = [op a b % n]) (e : Nat → Int) (hs : isS (e 0)) (b : Nat) :
    (br2 b).says [kOrder f0, kWCmp f1, kNew f2 te, κ] ⟨fun ys => ys = sem2 op [e 0, e 1, e 2], []⟩ e := by
  simp only [br2, kOrder, kWCmp, kNew, sem2, hsem, Tree.says, List.getElem?_cons_zero, List.getElem?_cons_succ, List.map, ev_lit, ev_var, ev_limb, D.ev, List.getD_cons_zero, List.getD_cons_succ]
  refine ⟨hs, fun a0 _ => ⟨trivial, fun a1 _ a2 _ => ?_⟩⟩
  have b2 := cmp_ge a1 a2
  rw [a0] at b2
  refine ⟨fun n => by rw [if_neg (by omega)], fun n => ⟨trivial, fun a3 _ a4 _ => ?_⟩⟩
  have b4 := cmp_ge a3 a4
  rw [a0] at b4
  refine ⟨fun n' => by rw [if_neg (by omega)], fun n' => ?_⟩
  obtain ⟨r1, r2, r3⟩ := rOf_ok hs
  rw [a0]
  refine ⟨⟨r1, r2, r3⟩, fun a5 _ a6 _ a7 _ => ⟨hpre _ _ _ _ _ (by rw [a5, a6, a7]; exact new_good r1 r2 r3), fun a8 _ => ?_⟩⟩
  rw [if_pos ⟨hs, by omega, by omega⟩, a8, a5]
theorem law_s2 {κ : K} {op : Int → Int → Int} (f0 f1 f2 f : FuncId) (te : TypeId) (hpre : ∀ n l w a b, mGood n l w → κ.pre [n, l, w, a, b]) (hsem : ∀ n l w a b, κ.sem [n, l, w, a, b] = [op a b % n]) (e : Nat → Int) :
    tS2.says [kOrder f0, kWCmp f1, kNew f2 te, κ] ⟨fun ys => ys = (kS2 f op).sem [e 0, e 1, e 2], []⟩ e := by
  unfold tS2
  intro a1 _
  have b1 := c_eq a1
  simp only [ev_var, ev_lit] at b1
  refine ⟨fun n => br2_says f0 f1 f2 te hpre hsem e (by unfold isS; omega) _, fun n => ?_⟩
  intro a2 _
  have b2 := c_eq a2
  simp only [ev_var, ev_lit] at b2
  refine ⟨fun n => br2_says f0 f1 f2 te hpre hsem e (by unfold isS; omega) _, fun n => ?_⟩
  intro a3 _ a4 _
  have b3 := c_eq a3
  have b4 := c_not a4
  simp only [ev_var, ev_lit] at b3 b4
  refine ⟨fun n => ?_, fun n => br2_says f0 f1 f2 te hpre hsem e (by unfold isS; omega) _⟩
  show [(0 : Int), 2] = sem2 op [e 0, e 1, e 2]
  simp only [sem2]
  rw [if_neg (by unfold isS; omega)]
def br1 (b : Nat) (j : Bool) : Tree := (.req 0 [(.var 0)]
 (.lett b .num (.app 0 0 [(.var 0)])
 (.req 1 [(.var 1), (.var b)]
 (.lett (b + 1) (.int .i64) (.app 1 0 [(.var 1), (.var b)])
 (.lett (b + 2) .bit (.cmp .geq (.var (b + 1)) (.lit 0))
 (.split (b + 2)
  (.ret [(.lit 0), (.lit 2)])
   (.req 2 [(.var b)]
   (.lett (b + 3) .num (.app 2 0 [(.var b)])
   (.lett (b + 4) (.int .u64) (.app 2 1 [(.var b)])
   (.lett (b + 5) .num (.app 2 2 [(.var b)])
   (.req 3 [(.var (b + 3)), (.var (b + 4)), (.var (b + 5)), (.var 1)]
   (.lett (b + 6) .num (.app 3 0 [(.var (b + 3)), (.var (b + 4)), (.var (b + 5)), (.var 1)])
   (if j then (.lett (b + 7) (.int .i64) (.app 3 1 [(.var (b + 3)), (.var (b + 4)), (.var (b + 5)), (.var 1)]) (.ret [(.var (b + 6)), (.var (b + 7))])) else (.ret [(.var (b + 6)), (.lit 0)]))))))))))))))
def tS1 (j : Bool) : Tree := (.lett 2 .bit (.cmp .eql (.var 0) (.lit 0))
 (.split 2 (br1 3 j)
 (.lett 3 .bit (.cmp .eql (.var 0) (.lit 1))
 (.split 3 (br1 4 j)
 (.lett 4 .bit (.cmp .eql (.var 0) (.lit 2))
 (.lett 5 .bit (.not (.var 4))
 (.split 5
  (.ret [(.lit 0), (.lit 2)])
  (br1 6 j))))))))
theorem br1_neg (f0 f1 f2 f3 f : FuncId) (te : TypeId) (e : Nat → Int) (hs : isS (e 0)) (b : Nat) :
    (br1 b false).says [kOrder f0, kWCmp f1, kNew f2 te, kMNeg f3] ⟨fun ys => ys = (kSNeg f).sem [e 0, e 1], []⟩ e := by
  simp only [br1, kOrder, kWCmp, kNew, kMNeg, kSNeg, Bool.false_eq_true, if_false, Tree.says, List.getElem?_cons_zero, List.getElem?_cons_succ, List.map, ev_lit, ev_var, ev_limb, D.ev, List.getD_cons_zero, List.getD_cons_succ]
  refine ⟨hs, fun a0 _ => ⟨trivial, fun a1 _ a2 _ => ?_⟩⟩
  have b2 := cmp_ge a1 a2
  rw [a0] at b2
  refine ⟨fun n => by rw [if_neg (by omega)], fun n => ?_⟩
  obtain ⟨r1, r2, r3⟩ := rOf_ok hs
  rw [a0]
  refine ⟨⟨r1, r2, r3⟩, fun a5 _ a6 _ a7 _ => ⟨by rw [a5, a6, a7]; exact new_good r1 r2 r3, fun a8 _ => ?_⟩⟩
  rw [if_pos ⟨hs, by omega⟩, a8, a5]
theorem br1_inv (f0 f1 f2 f3 f : FuncId) (te : TypeId) (e : Nat → Int) (hs : isS (e 0)) (b : Nat) :
    (br1 b true).says [kOrder f0, kWCmp f1, kNew f2 te, kMInv f3] ⟨fun ys => ys = (kSInv f).sem [e 0, e 1], []⟩ e := by
  simp only [br1, kOrder, kWCmp, kNew, kMInv, kSInv, if_true, Tree.says, List.getElem?_cons_zero, List.getElem?_cons_succ, List.map, ev_lit, ev_var, ev_limb, D.ev, List.getD_cons_zero, List.getD_cons_succ]
  refine ⟨hs, fun a0 _ => ⟨trivial, fun a1 _ a2 _ => ?_⟩⟩
  have b2 := cmp_ge a1 a2
  rw [a0] at b2
  refine ⟨fun n => by rw [if_neg (by omega)], fun n => ?_⟩
  obtain ⟨r1, r2, r3⟩ := rOf_ok hs
  rw [a0]
  refine ⟨⟨r1, r2, r3⟩, fun a5 _ a6 _ a7 _ => ⟨by rw [a5, a6, a7]; exact new_good r1 r2 r3, fun a8 _ a9 _ => ?_⟩⟩
  rw [if_pos ⟨hs, by omega⟩, a8, a9, a5]
theorem s1_says {T : List K} {G : Gl} {j : Bool} (e : Nat → Int) (hb : isS (e 0) → ∀ b, (br1 b j).says T G e) (hn : ¬ isS (e 0) → G.goal [0, 2]) : (tS1 j).says T G e := by
  unfold tS1
  intro a1 _
  have b1 := c_eq a1
  simp only [ev_var, ev_lit] at b1
  refine ⟨fun n => hb (by unfold isS; omega) _, fun n => ?_⟩
  intro a2 _
  have b2 := c_eq a2
  simp only [ev_var, ev_lit] at b2
  refine ⟨fun n => hb (by unfold isS; omega) _, fun n => ?_⟩
  intro a3 _ a4 _
  have b3 := c_eq a3
  have b4 := c_not a4
  simp only [ev_var, ev_lit] at b3 b4
  exact ⟨fun n => hn (by unfold isS; omega), fun n => hb (by unfold isS; omega) _⟩
theorem law_sNeg (f0 f1 f2 f3 f : FuncId) (te : TypeId) (e : Nat → Int) : (tS1 false).says [kOrder f0, kWCmp f1, kNew f2 te, kMNeg f3] ⟨fun ys => ys = (kSNeg f).sem [e 0, e 1], []⟩ e :=
  s1_says e (fun hs b => br1_neg f0 f1 f2 f3 f te e hs b) fun hn => by simp only [kSNeg]; rw [if_neg (fun h => hn h.1)]
theorem law_sInv (f0 f1 f2 f3 f : FuncId) (te : TypeId) (e : Nat → Int) : (tS1 true).says [kOrder f0, kWCmp f1, kNew f2 te, kMInv f3] ⟨fun ys => ys = (kSInv f).sem [e 0, e 1], []⟩ e :=
  s1_says e (fun hs b => br1_inv f0 f1 f2 f3 f te e hs b) fun hn => by simp only [kSInv]; rw [if_neg (fun h => hn h.1)]
def tShR1 : Tree := (.lett 1 (.int .u64) (.bin .shl .u64 (.limb 0 1) (.lit 63))
(.lett 386 (.int .u64) (.bin .shr .u64 (.limb 0 0) (.lit 1))
(.lett 434 (.int .u64) (.bin .or .u64 (.var 1) (.var 386))
(.lett 578 (.int .u64) (.bin .shl .u64 (.limb 0 2) (.lit 63))
(.lett 963 (.int .u64) (.bin .shr .u64 (.limb 0 1) (.lit 1))
(.lett 1011 (.int .u64) (.bin .or .u64 (.var 578) (.var 963))
(.lett 1155 (.int .u64) (.bin .shl .u64 (.limb 0 3) (.lit 63))
(.lett 1540 (.int .u64) (.bin .shr .u64 (.limb 0 2) (.lit 1))
(.lett 1588 (.int .u64) (.bin .or .u64 (.var 1155) (.var 1540))
(.lett 1732 (.int .u64) (.bin .shl .u64 (.limb 0 4) (.lit 63))
(.lett 2117 (.int .u64) (.bin .shr .u64 (.limb 0 3) (.lit 1))
(.lett 2165 (.int .u64) (.bin .or .u64 (.var 1732) (.var 2117))
(.lett 2309 (.int .u64) (.bin .shl .u64 (.limb 0 5) (.lit 63))
(.lett 2694 (.int .u64) (.bin .shr .u64 (.limb 0 4) (.lit 1))
(.lett 2742 (.int .u64) (.bin .or .u64 (.var 2309) (.var 2694))
(.lett 3270 (.int .u64) (.bin .shr .u64 (.limb 0 5) (.lit 1))
(.lett 3318 (.int .u64) (.bin .or .u64 (.lit 0) (.var 3270))
(.lett 3462 .num (.join [(.var 434), (.var 1011), (.var 1588), (.var 2165), (.var 2742), (.var 3318)])
(.ret [(.var 3462)])))))))))))))))))))
theorem law_shR1 (f : FuncId) (e : Nat → Int) (hk : kkHas [.num] [e 0]) : tShR1.says [] ⟨fun ys => ys = (kShR1 f).sem [e 0], []⟩ e := by
  have h0 := hk.1
  have z := U_lim e
  simp only [tShR1, kShR1, Tree.says, List.getElem?_cons_zero, List.getElem?_cons_succ, List.map, ev_lit, ev_var, ev_limb, D.ev, List.getD_cons_zero, List.getD_cons_succ]
  intro s1 _ r1 _ o1 _ s2 _ r2 _ o2 _ s3 _ r3 _ o3 _ s4 _ r4 _ o4 _ s5 _ r5 _ o5 _ r6 _ o6 _ aj _
  have hj := half_join h0 (or_63 o1 s1 r1 (z _ _) (z _ _)) (or_63 o2 s2 r2 (z _ _) (z _ _)) (or_63 o3 s3 r3 (z _ _) (z _ _)) (or_63 o4 s4 r4 (z _ _) (z _ _)) (or_63 o5 s5 r5 (z _ _) (z _ _)) (or_0 o6 r6 (z _ _))
  rw [← aj] at hj
  rw [hj]
def tNumber : Tree := (.lett 4 .bit (.not (.var 2))
(.split 4
 (.lett 5 .bit (.eqs [((.limb 0 0), (.lit 0)), ((.limb 0 1), (.lit 0)), ((.limb 0 2), (.lit 0)), ((.limb 0 3), (.lit 0)), ((.limb 0 4), (.lit 0)), ((.limb 0 5), (.lit 0))])
 (.split 5
  (.lett 6 .bit (.cmp .eql (.var 1) (.lit 2))
  (.ret [(.var 6)]))
  (.ret [(.lit 0)])))
 (.lett 5 .bit (.eqs [((.limb 0 0), (.limb 3 0)), ((.limb 0 1), (.limb 3 1)), ((.limb 0 2), (.limb 3 2)), ((.limb 0 3), (.limb 3 3)), ((.limb 0 4), (.limb 3 4)), ((.limb 0 5), (.limb 3 5))])
 (.split 5
  (.lett 6 .bit (.cmp .eql (.var 1) (.lit 0))
  (.ret [(.var 6)]))
  (.ret [(.lit 0)])))))
theorem law_number (f : FuncId) (e : Nat → Int) (hk : kkHas [.num, .int .i64, .bit, .num] [e 0, e 1, e 2, e 3]) : tNumber.says [] ⟨fun ys => ys = (kNumber f).sem [e 0, e 1, e 2, e 3], []⟩ e := by
  obtain ⟨h0, _, h2, h3, _⟩ := hk
  simp only [tNumber, kNumber, Tree.says, List.getElem?_cons_zero, List.getElem?_cons_succ, List.map, ev_lit, ev_var, ev_limb, D.ev, List.getD_cons_zero, List.getD_cons_succ]
  intro a4 _
  have b4 := c_not a4
  refine ⟨fun n => ?_, fun n => ?_⟩
  · intro a5 _
    have b5 := c_num0 a5 h0
    rw [if_pos (by omega)]
    refine ⟨fun n => ?_, fun n => ?_⟩
    · intro a6 _
      have b6 := c_eq a6
      unfold bi
      split <;> congr 1 <;> omega
    · unfold bi; rw [if_neg (by omega)]
  · intro a5 _
    have b5 := c_num a5 h0 h3
    rw [if_neg (by omega)]
    refine ⟨fun n => ?_, fun n => ?_⟩
    · intro a6 _
      have b6 := c_eq a6
      unfold bi
      split <;> congr 1 <;> omega
    · unfold bi; rw [if_neg (by omega)]
end Go.Sx

/- Laws: modulus.Inv. -/
namespace Go.Sx
open Go Go.RowKit
set_option maxRecDepth 100000
set_option linter.unusedSimpArgs false
set_option linter.unusedVariables false
theorem eq_md {a b n : Int} (ha : 0 ≤ a ∧ a < n) (hb : 0 ≤ b ∧ b < n) (z : Int) (h : a = b + n * z) : a = b := by
  have := md z h
  rwa [Int.emod_eq_of_lt ha.1 ha.2, Int.emod_eq_of_lt hb.1 hb.2] at this
theorem md1 {x n : Int} (h : x % n = 1) : ∃ z, x = 1 + n * z := ⟨x / n, by have := Int.emod_add_mul_ediv x n; omega⟩
theorem invM_eq {n a y : Int} (h0 : 0 ≤ y ∧ y < n) (h : a * y % n = 1) : invM n a = y ∧ ∃ y, 0 ≤ y ∧ y < n ∧ a * y % n = 1 := by
  have hex : ∃ y, 0 ≤ y ∧ y < n ∧ a * y % n = 1 := ⟨y, h0.1, h0.2, h⟩
  refine ⟨?_, hex⟩
  unfold invM
  rw [dif_pos hex]
  obtain ⟨c0, c1, c2⟩ := hex.choose_spec
  generalize hex.choose = c at *
  obtain ⟨s, hs⟩ := md1 h
  obtain ⟨t, ht⟩ := md1 c2
  refine eq_md ⟨c0, c1⟩ h0 (t * y - c * s) ?_
  have e1 : c * (a * y) = c * (1 + n * s) := by rw [hs]
  have e2 : y * (a * c) = y * (1 + n * t) := by rw [ht]
  grind
theorem invM_none {n a : Int} (h : ¬ ∃ y, 0 ≤ y ∧ y < n ∧ a * y % n = 1) : invM n a = 0 := by unfold invM; rw [dif_neg h]
def tMInv : Tree := (.lett 4 .bit (.cmp .eql (.var 1) (.lit 0))
(.split 4
 (.ret [(.lit 0), (.lit 1)])
 (.req 1 [(.var 0), (.var 1), (.var 2), (.var 3)]
 (.lett 101 .num (.app 1 0 [(.var 0), (.var 1), (.var 2), (.var 3)])
 (.req 0 [(.lit 1)]
 (.lett 533 .num (.app 0 0 [(.lit 1)])
 (.loop [(.var 101), (.var 0), (.var 533), (.lit 0)] [.num, .num, .num, .num] 534
 (.lett 538 .bit (.eqs [((.limb 534 0), (.lit 0)), ((.limb 534 1), (.lit 0)), ((.limb 534 2), (.lit 0)), ((.limb 534 3), (.lit 0)), ((.limb 534 4), (.lit 0)), ((.limb 534 5), (.lit 0))])
 (.lett 539 .bit (.not (.var 538))
 (.split 539
  (.lett 540 (.int .u64) (.bin .and .u64 (.limb 534 0) (.lit 1))
  (.lett 541 .bit (.cmp .eql (.var 540) (.lit 0))
  (.split 541
   (.req 2 [(.var 534)]
   (.lett 590 .num (.app 2 0 [(.var 534)])
   (.req 3 [(.var 0), (.var 1), (.var 2), (.var 536)]
   (.lett 734 .num (.app 3 0 [(.var 0), (.var 1), (.var 2), (.var 536)])
   (.back 0 [(.var 590), (.var 535), (.var 734), (.var 537)])))))
   (.lett 542 (.int .u64) (.bin .and .u64 (.limb 535 0) (.lit 1))
   (.lett 543 .bit (.cmp .eql (.var 542) (.lit 0))
   (.split 543
    (.req 2 [(.var 535)]
    (.lett 592 .num (.app 2 0 [(.var 535)])
    (.req 3 [(.var 0), (.var 1), (.var 2), (.var 537)]
    (.lett 736 .num (.app 3 0 [(.var 0), (.var 1), (.var 2), (.var 537)])
    (.back 0 [(.var 534), (.var 592), (.var 536), (.var 736)])))))
    (.req 4 [(.var 534), (.var 535)]
    (.lett 544 (.int .i64) (.app 4 0 [(.var 534), (.var 535)])
    (.lett 545 .bit (.cmp .geq (.var 544) (.lit 0))
    (.split 545
     (.req 5 [(.var 534), (.var 535)]
     (.lett 546 .num (.app 5 0 [(.var 534), (.var 535)])
     (.lett 547 .bit (.app 5 1 [(.var 534), (.var 535)])
     (.req 6 [(.var 0), (.var 1), (.var 2), (.var 536), (.var 537)]
     (.lett 548 .num (.app 6 0 [(.var 0), (.var 1), (.var 2), (.var 536), (.var 537)])
     (.back 0 [(.var 546), (.var 535), (.var 548), (.var 537)]))))))
     (.req 5 [(.var 535), (.var 534)]
     (.lett 546 .num (.app 5 0 [(.var 535), (.var 534)])
     (.lett 547 .bit (.app 5 1 [(.var 535), (.var 534)])
     (.req 6 [(.var 0), (.var 1), (.var 2), (.var 537), (.var 536)]
     (.lett 548 .num (.app 6 0 [(.var 0), (.var 1), (.var 2), (.var 537), (.var 536)])
     (.back 0 [(.var 534), (.var 546), (.var 536), (.var 548)]))))))))))))))))
  (.req 0 [(.lit 1)]
  (.lett 588 .num (.app 0 0 [(.lit 1)])
  (.lett 636 .bit (.eqs [((.limb 535 0), (.limb 588 0)), ((.limb 535 1), (.limb 588 1)), ((.limb 535 2), (.limb 588 2)), ((.limb 535 3), (.limb 588 3)), ((.limb 535 4), (.limb 588 4)), ((.limb 535 5), (.limb 588 5))])
  (.lett 637 .bit (.not (.var 636))
  (.split 637
   (.ret [(.lit 0), (.lit 6)])
   (.ret [(.var 537), (.lit 0)]))))))))))))))))
def InvI (n a : Int) : List Int → Prop
  | [u, v, x, y] => 1 ≤ v ∧ x < n ∧ y < n ∧ (∃ z, x * a = u + n * z) ∧ (∃ z, y * a = v + n * z) ∧ (∀ d : Int, d ∣ u → d ∣ v → d ∣ a ∧ d ∣ n)
  | _ => False
def InvM : List Int → Nat
  | [u, v, _, _] => (u + v).toNat
  | _ => 0
theorem half_step {n a u x : Int} (ho : n % 2 = 1) (hu : u % 2 = 0) (h : ∃ z, x * a = u + n * z) : ∃ z, (x * half2 n % n) * a = u / 2 + n * z := by
  obtain ⟨z, hz⟩ := h
  obtain ⟨t, ht⟩ := md_of (x := x * half2 n) (n := n)
  have e2 : 2 * half2 n = n + 1 := by unfold half2; omega
  have hu2 : u = 2 * (u / 2) := by omega
  generalize u / 2 = w at *
  generalize half2 n = i at *
  rw [ht]
  refine ⟨w + z * i + t * a, ?_⟩
  have e1 : x * a * i = (u + n * z) * i := by rw [hz]
  have e3 : u * i = w * (n + 1) := by rw [hu2, ← e2]; grind
  grind
theorem sub_step {n a u v x y : Int} (h : ∃ z, x * a = u + n * z) (h' : ∃ z, y * a = v + n * z) : ∃ z, ((x - y) % n) * a = (u - v) + n * z := by
  obtain ⟨z, hz⟩ := h
  obtain ⟨w, hw⟩ := h'
  obtain ⟨t, ht⟩ := md_of (x := x - y) (n := n)
  rw [ht]
  exact ⟨z - w + t * a, by grind⟩
theorem law_mInv (f0 f1 f2 f3 f4 f5 f6 f : FuncId) (e : Nat → Int) (hk : kkHas [.num, .int .u64, .num, .num] [e 0, e 1, e 2, e 3]) (hp : (kMInv f).pre [e 0, e 1, e 2, e 3]) :
    tMInv.says [kOf f0, kReduce f1, kShR1 f2, kHalf f3, kWCmp f4, kWSub f5, kMSub f6] ⟨fun ys => ys = (kMInv f).sem [e 0, e 1, e 2, e 3], []⟩ e := by
  obtain ⟨hm, hw⟩ := hp
  have hn3 := hm.2.1
  have hl := hm.lt
  have ho := hm.odd
  have hlow := hm.low_ne
  have h0 := hk.1
  simp only [KK.has] at h0
  simp only [tMInv, kOf, kReduce, kShR1, kHalf, kWCmp, kWSub, kMSub, kMInv, Tree.says, List.getElem?_cons_zero, List.getElem?_cons_succ, List.map, ev_lit, ev_var, ev_limb, D.ev, List.getD_cons_zero, List.getD_cons_succ]
  intro a4 _
  have b4 := c_eq a4
  refine ⟨fun n => by omega, fun n => ⟨⟨hm, hw⟩, fun a5 _ => ⟨trivial, fun a6 _ => ?_⟩⟩⟩
  refine ⟨InvI (e 0) (e 3), InvM, ?_, fun e' he hkk hI => ?_⟩
  · rw [a5, a6]
    refine ⟨by omega, by omega, by omega, ?_, ⟨-1, by omega⟩, fun d d1 d2 => ⟨?_, d2⟩⟩
    · obtain ⟨z, hz⟩ := md_of (x := e 3) (n := e 0)
      exact ⟨-z, by rw [hz]; grind⟩
    · have := Int.emod_add_mul_ediv (e 3) (e 0)
      rw [← this]
      exact Int.dvd_add d1 (Int.dvd_trans d2 (Int.dvd_mul_right ..))
  · obtain ⟨i1, i2, i3, i4, i5, i6⟩ : InvI (e 0) (e 3) [e' 534, e' 535, e' 536, e' 537] := hI
    obtain ⟨k1, k2, k3, k4, _⟩ : kkHas [.num, .num, .num, .num] [e' 534, e' 535, e' 536, e' 537] := hkk
    simp only [KK.has] at k1 k2 k3 k4
    have m0 : e' 0 = e 0 := he 0 (by decide)
    have m1 : e' 1 = e 1 := he 1 (by decide)
    have m2 : e' 2 = e 2 := he 2 (by decide)
    have z := U_lim e'
    have hmod : ∀ i, lim (e' i) 0 = e' i % 18446744073709551616 := fun i => lim_0 _
    intro c1 _ c2 _
    have d1 := c_num0 c1 k1
    have d2 := c_not c2
    refine ⟨fun hs => ?_, fun hs => ?_⟩
    · have hu : 1 ≤ e' 534 := by omega
      intro g1 _ g2 _
      have j1 := and_1 g1 (z 534 0)
      have j2 := c_eq g2
      rw [hmod 534] at j1
      refine ⟨fun hs2 => ?_, fun hs2 => ?_⟩
      · refine ⟨trivial, fun r1 _ => ⟨by rw [m0, m1, m2]; exact ⟨⟨hm, hw⟩, i2⟩, fun r2 _ => ?_⟩⟩
        rw [m0] at r2
        have hev : e' 534 % 2 = 0 := by clear g1 z; omega
        show InvI (e 0) (e 3) [e' 590, e' 535, e' 734, e' 537] ∧ InvM [e' 590, e' 535, e' 734, e' 537] < InvM [e' 534, e' 535, e' 536, e' 537]
        rw [r1, r2]
        refine ⟨⟨i1, (md_lt (by omega)).2, i3, half_step ho hev i4, i5, fun d x1 x2 => i6 d ?_ x2⟩, ?_⟩
        · rw [show e' 534 = e' 534 / 2 * 2 by clear g1 z; omega]; exact Int.dvd_trans x1 (Int.dvd_mul_right ..)
        · simp only [InvM]; clear g1 z; omega
      · intro g3 _ g4 _
        have j3 := and_1 g3 (z 535 0)
        have j4 := c_eq g4
        rw [hmod 535] at j3
        refine ⟨fun hs3 => ?_, fun hs3 => ?_⟩
        · refine ⟨trivial, fun r1 _ => ⟨by rw [m0, m1, m2]; exact ⟨⟨hm, hw⟩, i3⟩, fun r2 _ => ?_⟩⟩
          rw [m0] at r2
          have hev : e' 535 % 2 = 0 := by clear g1 g3 z; omega
          show InvI (e 0) (e 3) [e' 534, e' 592, e' 536, e' 736] ∧ InvM [e' 534, e' 592, e' 536, e' 736] < InvM [e' 534, e' 535, e' 536, e' 537]
          rw [r1, r2]
          refine ⟨⟨by clear g1 g3 z; omega, i2, (md_lt (by omega)).2, i4, half_step ho hev i5, fun d x1 x2 => i6 d x1 ?_⟩, ?_⟩
          · rw [show e' 535 = e' 535 / 2 * 2 by clear g1 g3 z; omega]; exact Int.dvd_trans x2 (Int.dvd_mul_right ..)
          · simp only [InvM]; clear g1 g3 z; omega
        · refine ⟨trivial, fun r1 _ r2 _ => ?_⟩
          have q := cmp_ge r1 r2
          clear g1 g3 z r1 r2
          refine ⟨fun hs4 => ?_, fun hs4 => ?_⟩
          · refine ⟨trivial, fun r3 _ _ _ => ⟨by rw [m0, m1, m2]; exact ⟨hm, hw⟩, fun r4 _ => ?_⟩⟩
            rw [m0] at r4
            rw [Int.emod_eq_of_lt (by omega) (by omega)] at r3
            show InvI (e 0) (e 3) [e' 546, e' 535, e' 548, e' 537] ∧ InvM [e' 546, e' 535, e' 548, e' 537] < InvM [e' 534, e' 535, e' 536, e' 537]
            rw [r3, r4]
            refine ⟨⟨i1, (md_lt (by omega)).2, i3, sub_step i4 i5, i5, fun d x1 x2 => i6 d ?_ x2⟩, ?_⟩
            · rw [show e' 534 = e' 534 - e' 535 + e' 535 by omega]; exact Int.dvd_add x1 x2
            · simp only [InvM]; omega
          · refine ⟨trivial, fun r3 _ _ _ => ⟨by rw [m0, m1, m2]; exact ⟨hm, hw⟩, fun r4 _ => ?_⟩⟩
            rw [m0] at r4
            rw [Int.emod_eq_of_lt (by omega) (by omega)] at r3
            show InvI (e 0) (e 3) [e' 534, e' 546, e' 536, e' 548] ∧ InvM [e' 534, e' 546, e' 536, e' 548] < InvM [e' 534, e' 535, e' 536, e' 537]
            rw [r3, r4]
            refine ⟨⟨by omega, i2, (md_lt (by omega)).2, i4, sub_step i5 i4, fun d x1 x2 => i6 d x1 ?_⟩, ?_⟩
            · rw [show e' 535 = e' 535 - e' 534 + e' 534 by omega]; exact Int.dvd_add x2 x1
            · simp only [InvM]; omega
    · have hu : e' 534 = 0 := by omega
      rw [hu] at i6
      refine ⟨trivial, fun r1 _ r2 _ r3 _ => ?_⟩
      have t2 := c_num r2 k2 (by rw [r1]; unfold N384; decide)
      have t3 := c_not r3
      rw [r1] at t2
      refine ⟨fun hs2 => ?_, fun hs2 => ?_⟩
      · have hno : ¬ ∃ y, 0 ≤ y ∧ y < e 0 ∧ e 3 * y % e 0 = 1 := by
          rintro ⟨y, _, _, hy⟩
          obtain ⟨q1, q2⟩ := i6 (e' 535) (Int.dvd_zero _) (Int.dvd_refl _)
          obtain ⟨t, ht⟩ := md1 hy
          have : e' 535 ∣ 1 := by
            have h1 : (1 : Int) = e 3 * y - e 0 * t := by omega
            rw [h1]
            exact Int.dvd_sub (Int.dvd_trans q1 (Int.dvd_mul_right ..)) (Int.dvd_trans q2 (Int.dvd_mul_right ..))
          have := Int.le_of_dvd (by decide) this
          omega
        rw [invM_none hno, if_neg hno]
      · have hv : e' 535 = 1 := by omega
        obtain ⟨t, ht⟩ := i5
        obtain ⟨q1, q2⟩ := invM_eq (n := e 0) (a := e 3) (y := e' 537) ⟨k4.1, i3⟩ (md_eq t (by rw [Int.mul_comm, ht, hv]) (by decide) (by omega))
        rw [q1, if_pos q2]
end Go.Sx
