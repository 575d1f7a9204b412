/- Laws: bits.Div64, Rem64. -/
import Derived.Test.YtlddchekkjjleaaGreatHb
set_option linter.unusedVariables false
set_option linter.unusedSimpArgs false
namespace Go.Sx
open Go Go.RowKit
set_option maxRecDepth 100000
set_option linter.unusedSimpArgs false
set_option linter.unusedVariables false
def decT (lvl n m : Nat) (k : Nat → A → Tree) : Tree :=
  (.lett m (.int .u64) (.bin .sub .u64 (.var n) (.lit 1))
  (.lett (m + 1) (.int .u64) (.bin .add .u64 (.var (n + 1)) (.var 10))
  (.lett (m + 2) .bit (.cmp .geq (.var (m + 1)) (.lit 4294967296))
  (.split (m + 2) (k (m + 3) (.var m)) (.back lvl [.var m, .var (m + 1)])))))
def digT (lvl n w : Nat) (q0 r0 : A) (k : Nat → A → Tree) : Tree :=
  (.loop [q0, r0] [(.int .u64), (.int .u64)] n
  (.lett (n + 2) .bit (.cmp .geq (.var n) (.lit 4294967296))
  (.split (n + 2) (decT lvl n (n + 3) k)
   (.lett (n + 3) (.int .u64) (.bin .mul .u64 (.var n) (.var 11))
   (.lett (n + 4) (.int .u64) (.bin .mul .u64 (.lit 4294967296) (.var (n + 1)))
   (.lett (n + 5) (.int .u64) (.bin .add .u64 (.var (n + 4)) (.var w))
   (.lett (n + 6) .bit (.cmp .gtr (.var (n + 3)) (.var (n + 5)))
   (.split (n + 6) (decT lvl n (n + 7) k) (k (n + 7) (.var n))))))))))
def k2T (c : Nat) (q1 : A) (b : Nat) (q0 : A) : Tree :=
  (.lett b (.int .u64) (.bin .mul .u64 q1 (.lit 4294967296))
  (.lett (b + 1) (.int .u64) (.bin .add .u64 (.var b) q0)
  (.lett (b + 2) (.int .u64) (.bin .mul .u64 (.var (c + 3)) (.lit 4294967296))
  (.lett (b + 3) (.int .u64) (.bin .add .u64 (.var (b + 2)) (.var 18))
  (.lett (b + 4) (.int .u64) (.bin .mul .u64 q0 (.var 9))
  (.lett (b + 5) (.int .u64) (.bin .sub .u64 (.var (b + 3)) (.var (b + 4)))
  (.lett (b + 6) (.int .u64) (.bin .shr .u64 (.var (b + 5)) (.var 8))
  (.ret [.var (b + 1), .var (b + 6)]))))))))
def k1T (b : Nat) (q1 : A) : Tree :=
  (.lett b (.int .u64) (.bin .mul .u64 (.var 15) (.lit 4294967296))
  (.lett (b + 1) (.int .u64) (.bin .add .u64 (.var b) (.var 17))
  (.lett (b + 2) (.int .u64) (.bin .mul .u64 q1 (.var 9))
  (.lett (b + 3) (.int .u64) (.bin .sub .u64 (.var (b + 1)) (.var (b + 2)))
  (.lett (b + 4) (.int .u64) (.bin .quo .u64 (.var (b + 3)) (.var 10))
  (.nz (.var 10)
  (.lett (b + 5) (.int .u64) (.bin .mul .u64 (.var (b + 4)) (.var 10))
  (.lett (b + 6) (.int .u64) (.bin .sub .u64 (.var (b + 3)) (.var (b + 5)))
  (digT 1 (b + 7) 18 (.var (b + 4)) (.var (b + 6)) (k2T b q1))))))))))
def tDiv64 : Tree :=
(.lett 3 .bit (.cmp .eql (.var 2) (.lit 0))
(.split 3
 (.bad 41 "bits.go:520")
 (.lett 4 .bit (.cmp .leq (.var 2) (.var 0))
 (.split 4
  (.bad 41 "bits.go:523")
  (.lett 5 .bit (.cmp .eql (.var 0) (.lit 0))
  (.split 5
   (.lett 102 (.int .u64) (.bin .quo .u64 (.var 1) (.var 2))
   (.nz (.var 2)
   (.lett 246 (.int .u64) (.bin .rem .u64 (.var 1) (.var 2))
   (.nz (.var 2)
   (.ret [(.var 102), (.var 246)])))))
   (.req 0 [(.var 2)]
   (.lett 6 (.int .i64) (.app 0 0 [(.var 2)])
   (.lett 7 (.int .i64) (.bin .sub .i64 (.lit 64) (.var 6))
   (.lett 8 (.int .u64) (.conv .u64 (.var 7))
   (.lett 9 (.int .u64) (.bin .shl .u64 (.var 2) (.var 8))
   (.lett 10 (.int .u64) (.bin .shr .u64 (.var 9) (.lit 32))
   (.lett 11 (.int .u64) (.bin .and .u64 (.var 9) (.lit 4294967295))
   (.lett 12 (.int .u64) (.bin .shl .u64 (.var 0) (.var 8))
   (.lett 13 (.int .u64) (.bin .sub .u64 (.lit 64) (.var 8))
   (.lett 14 (.int .u64) (.bin .shr .u64 (.var 1) (.var 13))
   (.lett 15 (.int .u64) (.bin .or .u64 (.var 12) (.var 14))
   (.lett 16 (.int .u64) (.bin .shl .u64 (.var 1) (.var 8))
   (.lett 17 (.int .u64) (.bin .shr .u64 (.var 16) (.lit 32))
   (.lett 18 (.int .u64) (.bin .and .u64 (.var 16) (.lit 4294967295))
   (.lett 19 (.int .u64) (.bin .quo .u64 (.var 15) (.var 10))
   (.nz (.var 10)
   (.lett 20 (.int .u64) (.bin .mul .u64 (.var 19) (.var 10))
   (.lett 21 (.int .u64) (.bin .sub .u64 (.var 15) (.var 20))
   (digT 0 22 17 (.var 19) (.var 21) k1T)))))))))))))))))))))))))
def DigI (X0 Y y1 u : Int) : List Int → Prop
  | [q, r] => q * y1 + r = X0 ∧ 0 ≤ r ∧ r < 4294967296 ∧ X0 * 4294967296 + u < (q + 1) * Y ∧ 0 ≤ q ∧ q ≤ 4294967297
  | _ => False
theorem dig_div {X Y q : Int} (hY : 0 < Y) (h1 : q * Y ≤ X) (h2 : X < (q + 1) * Y) : q = X / Y := by
  have a1 := Int.le_ediv_of_mul_le hY h1
  have a2 := Int.ediv_lt_of_lt_mul hY h2
  omega
theorem digT_says {T : List K} {G : Gl} {e : Nat → Int} {lvl n w : Nat} {q0 r0 : A} {k : Nat → A → Tree} {X0 Y : Int} (hn : 19 ≤ n) (hwn : w < n) (h10 : e 10 = Y / 4294967296) (h11 : e 11 = Y % 4294967296) (hY : 9223372036854775808 ≤ Y ∧ Y < 18446744073709551616)
    (hD : 0 ≤ X0 ∧ X0 < Y) (hu : 0 ≤ e w ∧ e w < 4294967296) (hq : q0.ev e = X0 / (Y / 4294967296)) (hr : r0.ev e = X0 % (Y / 4294967296)) (hl : G.stk.length = lvl)
    (hk : ∀ (e' : Nat → Int) (b q : Nat) (G' : Gl), (∀ i, i < n → e' i = e i) → e' q = (X0 * 4294967296 + e w) / Y → G'.goal = G.goal → G'.stk.length = lvl + 1 → n ≤ q → q < b → (k b (.var q)).says T G' e') : (digT lvl n w q0 r0 k).says T G e := by
  refine ⟨DigI X0 Y (Y / 4294967296) (e w), fun | [q, _] => q.toNat | _ => 0, ?_, fun e' he hkk hI => ?_⟩
  · show DigI X0 Y (Y / 4294967296) (e w) [q0.ev e, r0.ev e]
    rw [hq, hr]
    have hy1 : 2147483648 ≤ Y / 4294967296 ∧ Y / 4294967296 < 4294967296 := by omega
    have hm := Int.emod_add_mul_ediv X0 (Y / 4294967296)
    have hlt := Int.emod_lt_of_pos X0 (show 0 < Y / 4294967296 by omega)
    have hnn := Int.emod_nonneg X0 (show Y / 4294967296 ≠ 0 by omega)
    have hq0 : 0 ≤ X0 / (Y / 4294967296) := Int.ediv_nonneg hD.1 (by omega)
    rw [Int.mul_comm (Y / 4294967296)] at hm
    generalize X0 / (Y / 4294967296) = q at *
    generalize X0 % (Y / 4294967296) = r at *
    have hYe : Y = Y / 4294967296 * 4294967296 + Y % 4294967296 := by omega
    have hy0 : 0 ≤ Y % 4294967296 ∧ Y % 4294967296 < 4294967296 := by omega
    generalize Y / 4294967296 = y1 at *
    generalize Y % 4294967296 = y0 at *
    have e1 : (q + 1) * Y = 4294967296 * (q * y1) + 4294967296 * y1 + (q + 1) * y0 := by rw [hYe]; grind
    have e2 : 0 ≤ (q + 1) * y0 := Int.mul_nonneg (by omega) hy0.1
    refine ⟨by omega, hnn, by omega, by omega, hq0, ?_⟩
    by_cases hc : q ≤ 4294967297
    · exact hc
    · exfalso
      have h1 : 4294967298 * y1 ≤ q * y1 := Int.mul_le_mul_of_nonneg_right (by omega) (by omega)
      omega
  · obtain ⟨i1, i2, i3, i4, i5, i6⟩ : DigI X0 Y (Y / 4294967296) (e w) [e' n, e' (n + 1)] := hI
    have m10 : e' 10 = Y / 4294967296 := (he 10 (by omega)).trans h10
    have m11 : e' 11 = Y % 4294967296 := (he 11 (by omega)).trans h11
    have mw : e' w = e w := he w hwn
    have hy1 : 2147483648 ≤ Y / 4294967296 ∧ Y / 4294967296 < 4294967296 := by omega
    have hYe : Y = Y / 4294967296 * 4294967296 + Y % 4294967296 := by omega
    have hy0 : 0 ≤ Y % 4294967296 ∧ Y % 4294967296 < 4294967296 := by omega
    -- one less
    have dec : ∀ m, n + 3 ≤ m → X0 * 4294967296 + e w < e' n * Y → 1 ≤ e' n →
        (decT lvl n m k).says T { G with stk := G.stk ++ [fun us => DigI X0 Y (Y / 4294967296) (e w) us ∧ (match us with | [q, _] => q.toNat | _ => 0) < (match seqE e' n 2 with | [q, _] => q.toNat | _ => 0)] } e' := by
      intro m hm hX hq1 a1 _ a2 _ a3 _
      simp only [D.ev, ev_var, ev_lit, binE, wr] at a1 a2
      have b3 := c_ge a3
      simp only [ev_var, ev_lit] at b3
      rw [m10] at a2
      have hq' : e' m = e' n - 1 := by rw [a1]; omega
      have hr' : e' (m + 1) = e' (n + 1) + Y / 4294967296 := by rw [a2]; omega
      generalize Y / 4294967296 = y1 at *
      generalize Y % 4294967296 = y0 at *
      have e1 : (e' n - 1) * Y = 4294967296 * (e' n * y1) - 4294967296 * y1 + (e' n - 1) * y0 := by rw [hYe]; grind
      have e2 : (e' n - 1) * y1 = e' n * y1 - y1 := by grind
      refine ⟨fun hs => ?_, fun hs => ?_⟩
      · refine hk e' (m + 3) m _ (fun i hi => he i hi) ?_ rfl (by simp [hl]) (by omega) (by omega)
        show e' m = _
        rw [hq']
        have e3 : (e' n - 1) * y0 ≤ 4294967296 * 4294967295 := Int.mul_le_mul (by omega) (by omega) hy0.1 (by omega)
        exact dig_div (by omega) (by omega) (by rw [Int.sub_add_cancel]; exact hX)
      · show match (G.stk ++ [_])[lvl]? with | some R => R ([A.var m, A.var (m + 1)].map (·.ev e')) | none => False
        rw [← hl, List.getElem?_append_right (Nat.le_refl _)]
        simp only [Nat.sub_self, List.getElem?_cons_zero, List.map, ev_var]
        show DigI X0 Y y1 (e w) [e' m, e' (m + 1)] ∧ (e' m).toNat < (e' n).toNat
        rw [hq', hr']
        refine ⟨⟨?_, by omega, by omega, by rw [Int.sub_add_cancel]; exact hX, by omega, by omega⟩, by omega⟩
        omega
    intro a2 _
    have b2 := c_ge a2
    simp only [ev_var, ev_lit] at b2
    have eY : e' n * Y = 4294967296 * (e' n * (Y / 4294967296)) + e' n * (Y % 4294967296) := by
      generalize Y / 4294967296 = y1 at *
      generalize Y % 4294967296 = y0 at *
      rw [hYe]; grind
    refine ⟨fun hs => ?_, fun hs => ?_⟩
    · refine dec (n + 3) (by omega) ?_ (by omega)
      have : 4294967296 * Y ≤ e' n * Y := Int.mul_le_mul_of_nonneg_right (by omega) (by omega)
      omega
    · intro a3 _ a4 _ a5 _ a6 _
      simp only [D.ev, ev_var, ev_lit, binE, wr] at a3 a4 a5
      have b6 := c_gt a6
      simp only [ev_var, ev_lit] at b6
      rw [m11] at a3
      rw [mw] at a5
      have p0 : 0 ≤ e' n * (Y % 4294967296) ∧ e' n * (Y % 4294967296) ≤ 4294967295 * 4294967295 := ⟨Int.mul_nonneg i5 hy0.1, Int.mul_le_mul (by omega) (by omega) hy0.1 (by omega)⟩
      have c3 : e' (n + 3) = e' n * (Y % 4294967296) := by rw [a3]; exact Int.emod_eq_of_lt p0.1 (by omega)
      have c5 : e' (n + 5) = 4294967296 * e' (n + 1) + e w := by rw [a5, a4]; omega
      refine ⟨fun hs2 => ?_, fun hs2 => ?_⟩
      · refine dec (n + 7) (by omega) (by omega) ?_
        by_cases hc : 1 ≤ e' n
        · exact hc
        · exfalso
          have : e' n = 0 := by omega
          rw [this] at c3
          omega
      · refine hk e' (n + 7) n _ (fun i hi => he i hi) ?_ rfl (by simp [hl]) (by omega) (by omega)
        show e' n = _
        exact dig_div (by omega) (by omega) i4
theorem pow_split {s : Nat} (hs : s ≤ 64) : (2 : Int) ^ s * 2 ^ (64 - s) = 18446744073709551616 := by
  rw [← Int.pow_add, show s + (64 - s) = 64 by omega]; decide +kernel
set_option maxHeartbeats 4000000 in
theorem law_div64 (f1 f : FuncId) (e : Nat → Int) (hk : kkHas [.int .u64, .int .u64, .int .u64] [e 0, e 1, e 2]) (hp : (kDiv64 f).pre [e 0, e 1, e 2]) : tDiv64.says [kLen64 f1] ⟨fun ys => ys = (kDiv64 f).sem [e 0, e 1, e 2], []⟩ e := by
  obtain ⟨h0, h1, h2, _⟩ := hk
  have u0 := has_u64 h0
  have u1 := has_u64 h1
  have u2 := has_u64 h2
  have hlt : e 0 < e 2 := hp
  unfold tDiv64
  intro a3 _
  have b3 := c_eq a3
  simp only [ev_var, ev_lit] at b3
  refine ⟨fun n => by omega, fun n => ?_⟩
  intro a4 _
  have b4 := c_le a4
  simp only [ev_var, ev_lit] at b4
  refine ⟨fun n => by omega, fun n => ?_⟩
  intro a5 _
  have b5 := c_eq a5
  simp only [ev_var, ev_lit] at b5
  refine ⟨fun n => ?_, fun n => ?_⟩
  · intro a6 _
    refine ⟨by show e 2 ≠ 0; omega, ?_⟩
    intro a7 _
    refine ⟨by show e 2 ≠ 0; omega, ?_⟩
    simp only [D.ev, ev_var, binE, wr] at a6 a7
    rw [Int.tdiv_eq_ediv_of_nonneg u1.1] at a6
    rw [Int.tmod_eq_emod_of_nonneg u1.1] at a7
    have hle := Int.ediv_le_self (e 2) u1.1
    have hnn := Int.ediv_nonneg u1.1 u2.1
    show [e 102, e 246] = [(e 0 * 18446744073709551616 + e 1) / e 2, (e 0 * 18446744073709551616 + e 1) % e 2]
    rw [show e 0 = 0 by omega, Int.zero_mul, Int.zero_add, a6, a7, Int.emod_eq_of_lt hnn (by omega)]
  · have hy : 1 ≤ e 2 := by omega
    refine ⟨trivial, ?_⟩
    intro a6 _ a7 _ a8 _ a9 _ a10 _ a11 _ a12 _ a13 _ a14 _ a15 _ a16 _ a17 _ a18 _ a19 _
    have c6 : e 6 = blen (e 2) := a6
    have hb0 : 1 ≤ blen (e 2) := by rw [blen_1 hy]; have := blen_nn (e 2 / 2); omega
    have hb1 : blen (e 2) ≤ 64 := blen_le 64 _ u2.1 (by rw [p64']; exact u2.2)
    have c7 : e 7 = 64 - blen (e 2) := by rw [a7]; simp only [D.ev, ev_var, ev_lit, binE, wr]; omega
    have c8 : e 8 = 64 - blen (e 2) := by rw [a8]; simp only [D.ev, ev_var, wr]; omega
    obtain ⟨s, hs⟩ := Int.eq_ofNat_of_zero_le (show 0 ≤ e 8 by omega)
    have hs64 : s ≤ 63 := by omega
    have hP := pow_split (s := s) (by omega)
    have hp1 : (0 : Int) < 2 ^ s := Int.pow_pos (by decide)
    have hp2 : (0 : Int) < 2 ^ (64 - s) := Int.pow_pos (by decide)
    -- the divisor, its highest bit set
    have hyu : e 2 < 2 ^ (64 - s) := by
      by_cases hc : e 2 < 2 ^ (64 - s)
      · exact hc
      · have := blen_gt (64 - s) (e 2) (by omega); omega
    have hyl : (2 : Int) ^ (63 - s) ≤ e 2 := by
      by_cases hc : (2 : Int) ^ (63 - s) ≤ e 2
      · exact hc
      · have := blen_le (63 - s) (e 2) u2.1 (by omega); omega
    have hP2 : (2 : Int) ^ s * 2 ^ (63 - s) = 9223372036854775808 := by
      rw [← Int.pow_add, show s + (63 - s) = 63 by omega]; decide +kernel
    have hYu : e 2 * 2 ^ s < 18446744073709551616 := by
      rw [← hP, Int.mul_comm]; exact Int.mul_lt_mul_of_pos_left hyu hp1
    have hYl : 9223372036854775808 ≤ e 2 * 2 ^ s := by
      rw [← hP2, Int.mul_comm (e 2)]; exact Int.mul_le_mul_of_nonneg_left hyl (by omega)
    have hshl : ∀ {v x : Int}, v = binE .shl .u64 x (e 8) → v = x * 2 ^ s % 18446744073709551616 := by
      intro v x h
      rw [h, hs]; simp only [binE]
      rw [show min ((s : Int).toNat) IntKind.u64.bits = s by show min s 64 = s; omega, Int.natCast_pow]; rfl
    have c9 : e 9 = e 2 * 2 ^ s := by
      have h := hshl a9
      simp only [ev_var] at h
      rw [h]; exact Int.emod_eq_of_lt (by omega) hYu
    have c10 : e 10 = e 9 / 4294967296 := shr_e a10
    have c11 : e 11 = e 9 % 4294967296 := and_32 a11 (by constructor <;> omega)
    have hhi : e 0 * 2 ^ s ≤ e 2 * 2 ^ s - 2 ^ s := by
      have := Int.mul_le_mul_of_nonneg_right (show e 0 ≤ e 2 - 1 by omega) (show (0 : Int) ≤ 2 ^ s by omega)
      rw [Int.sub_mul, Int.one_mul] at this; exact this
    have hhi0 : 0 ≤ e 0 * 2 ^ s := Int.mul_nonneg u0.1 (by omega)
    have c12 : e 12 = e 0 * 2 ^ s := by
      have h := hshl a12
      simp only [ev_var] at h
      rw [h]; exact Int.emod_eq_of_lt hhi0 (by omega)
    have c13 : e 13 = ((64 - s : Nat) : Int) := by rw [a13]; simp only [D.ev, ev_var, ev_lit, binE, wr]; rw [hs]; omega
    have c14 : e 14 = e 1 / 2 ^ (64 - s) := by
      rw [a14]; simp only [D.ev, ev_var, binE]
      rw [c13, show min (((64 - s : Nat) : Int).toNat) IntKind.u64.bits = 64 - s by show min (64 - s) 64 = _; omega, Int.natCast_pow]
      exact Int.fdiv_eq_ediv_of_nonneg _ (by exact Int.le_of_lt hp2)
    have hlo : e 1 / 2 ^ (64 - s) < 2 ^ s := Int.ediv_lt_of_lt_mul hp2 (by rw [hP]; exact u1.2)
    have hlo0 : 0 ≤ e 1 / 2 ^ (64 - s) := Int.ediv_nonneg u1.1 (by omega)
    have c15 : e 15 = e 0 * 2 ^ s + e 1 / 2 ^ (64 - s) := by
      rw [← c12, ← c14]
      exact or_dis (k := s) (q := e 0) a15 (by rw [c12, Int.natCast_pow]; rfl) u0.1 (by rw [c14, Int.natCast_pow]; exact ⟨hlo0, hlo⟩) (by rw [c12, c14]; omega)
    have c16 : e 16 = e 1 * 2 ^ s % 18446744073709551616 := hshl a16
    have c17 : e 17 = e 16 / 4294967296 := shr_e a17
    have c18 : e 18 = e 16 % 4294967296 := and_32 a18 (by constructor <;> omega)
    have htot : (e 0 * 18446744073709551616 + e 1) * 2 ^ s = e 15 * 18446744073709551616 + e 16 := by
      have h1 : e 1 * 2 ^ s = e 1 / 2 ^ (64 - s) * 18446744073709551616 + e 1 % 2 ^ (64 - s) * 2 ^ s := by
        have hm := Int.emod_add_mul_ediv (e 1) (2 ^ (64 - s))
        conv => lhs; rw [← hm]
        rw [← hP]; grind
      have h2 : 0 ≤ e 1 % 2 ^ (64 - s) * 2 ^ s := Int.mul_nonneg (Int.emod_nonneg _ (by omega)) (by omega)
      have h3 : e 1 % 2 ^ (64 - s) * 2 ^ s < 18446744073709551616 := by
        rw [← hP, Int.mul_comm]; exact Int.mul_lt_mul_of_pos_left (Int.emod_lt_of_pos _ hp2) hp1
      have h4 : e 16 = e 1 % 2 ^ (64 - s) * 2 ^ s := by
        rw [c16]; exact md_eq (e 1 / 2 ^ (64 - s)) (by rw [h1]; omega) h2 h3
      rw [c15, h4, Int.add_mul, h1, Int.add_mul]
      rw [Int.mul_right_comm]; omega
    have hD : 0 ≤ e 15 ∧ e 15 < e 9 := by omega
    have hy1 : 2147483648 ≤ e 10 := by omega
    simp only [D.ev, ev_var, binE, wr] at a19
    rw [Int.tdiv_eq_ediv_of_nonneg hD.1] at a19
    have hqn : 0 ≤ e 15 / e 10 := Int.ediv_nonneg hD.1 (by omega)
    have hql : e 15 / e 10 ≤ e 15 := Int.ediv_le_self _ hD.1
    have c19 : e 19 = e 15 / e 10 := by rw [a19]; exact Int.emod_eq_of_lt hqn (by omega)
    have hmm := Int.emod_add_mul_ediv (e 15) (e 10)
    have hml := Int.emod_lt_of_pos (e 15) (show 0 < e 10 by omega)
    have hmn := Int.emod_nonneg (e 15) (show e 10 ≠ 0 by omega)
    have hpn : 0 ≤ e 10 * (e 15 / e 10) := Int.mul_nonneg (by omega) hqn
    refine ⟨by show e 10 ≠ 0; omega, ?_⟩
    intro a20 _ a21 _
    simp only [D.ev, ev_var, binE, wr] at a20 a21
    have c20 : e 20 = e 10 * (e 15 / e 10) := by rw [a20, c19, Int.mul_comm]; exact Int.emod_eq_of_lt (by omega) (by omega)
    have c21 : e 21 = e 15 % e 10 := by rw [a21, c20]; rw [show e 15 - e 10 * (e 15 / e 10) = e 15 % e 10 by omega]; exact Int.emod_eq_of_lt hmn (by omega)
    clear a6 a7 a8 a9 a10 a11 a12 a13 a14 a15 a16 a17 a18 a19 a20 a21 hshl
    rw [← c9] at hYu hYl
    rw [c10] at c19 c21
    refine digT_says (T := [kLen64 f1]) (X0 := e 15) (Y := e 9) (by decide) (by decide) c10 c11 ⟨hYl, hYu⟩ hD (by omega) c19 c21 rfl fun e1 b qa G1 he1 hqa hG1 hS1 hqa0 hb => ?_
    have g : ∀ i, i < 22 → e1 i = e i := he1
    have hX0 : 0 ≤ e 15 * 4294967296 + e 17 := by omega
    have hQ1 : 0 ≤ e1 qa := by rw [hqa]; exact Int.ediv_nonneg hX0 (by omega)
    have hQ1l : e1 qa < 4294967296 := by rw [hqa]; exact Int.ediv_lt_of_lt_mul (by omega) (by omega)
    have hR1 := Int.emod_add_mul_ediv (e 15 * 4294967296 + e 17) (e 9)
    have hR1l := Int.emod_lt_of_pos (e 15 * 4294967296 + e 17) (show 0 < e 9 by omega)
    have hR1n := Int.emod_nonneg (e 15 * 4294967296 + e 17) (show e 9 ≠ 0 by omega)
    rw [← hqa] at hR1
    generalize (e 15 * 4294967296 + e 17) % e 9 = R1 at *
    unfold k1T
    intro a1 _ a2 _ a3 _ a4 _ a5 _
    simp only [D.ev, ev_var, ev_lit, binE, wr] at a1 a2 a3 a4 a5
    rw [g 15 (by decide)] at a1
    rw [g 17 (by decide)] at a2
    rw [g 9 (by decide)] at a3
    rw [Int.mul_comm (e 9)] at hR1
    generalize hQY : e1 qa * e 9 = QY at *
    have d4 : e1 (b + 3) = R1 := by rw [a4, a3, a2, a1]; omega
    rw [d4, Int.tdiv_eq_ediv_of_nonneg hR1n, g 10 (by decide)] at a5
    have hy1' : 0 < e 10 := by omega
    have hrn : 0 ≤ R1 / e 10 := Int.ediv_nonneg hR1n (by omega)
    have hrl : R1 / e 10 ≤ R1 := Int.ediv_le_self _ hR1n
    have d5 : e1 (b + 4) = R1 / e 10 := by rw [a5]; exact Int.emod_eq_of_lt hrn (by omega)
    refine ⟨by show e1 10 ≠ 0; rw [g 10 (by decide)]; omega, ?_⟩
    intro a6 _ a7 _
    simp only [D.ev, ev_var, ev_lit, binE, wr] at a6 a7
    rw [g 10 (by decide), d5] at a6
    have nmm := Int.emod_add_mul_ediv R1 (e 10)
    have nml := Int.emod_lt_of_pos R1 hy1'
    have nmn := Int.emod_nonneg R1 (show e 10 ≠ 0 by omega)
    have npn : 0 ≤ e 10 * (R1 / e 10) := Int.mul_nonneg (by omega) hrn
    have d6 : e1 (b + 5) = e 10 * (R1 / e 10) := by rw [a6, Int.mul_comm]; exact Int.emod_eq_of_lt (by omega) (by omega)
    have d7 : e1 (b + 6) = R1 % e 10 := by rw [a7, d4, d6]; rw [show R1 - e 10 * (R1 / e 10) = R1 % e 10 by omega]; exact Int.emod_eq_of_lt nmn (by omega)
    refine digT_says (X0 := R1) (Y := e 9) (by omega) (by omega) (by rw [g 10 (by decide)]; exact c10) (by rw [g 11 (by decide)]; exact c11) ⟨hYl, hYu⟩ ⟨hR1n, hR1l⟩ (by rw [g 18 (by decide)]; omega) (by rw [← c10]; exact d5) (by rw [← c10]; exact d7) hS1 fun e2 b2 qb G2 he2 hqb hG2 hS2 hqb0 hb2 => ?_
    have gg : ∀ i, i < 22 → e2 i = e i := fun i hi => (he2 i (by omega)).trans (g i hi)
    rw [g 18 (by decide)] at hqb
    have hX1 : 0 ≤ R1 * 4294967296 + e 18 := by omega
    have hQ2 : 0 ≤ e2 qb := by rw [hqb]; exact Int.ediv_nonneg hX1 (by omega)
    have hQ2l : e2 qb < 4294967296 := by rw [hqb]; exact Int.ediv_lt_of_lt_mul (by omega) (by omega)
    have hR2 := Int.emod_add_mul_ediv (R1 * 4294967296 + e 18) (e 9)
    have hR2l := Int.emod_lt_of_pos (R1 * 4294967296 + e 18) (show 0 < e 9 by omega)
    have hR2n := Int.emod_nonneg (R1 * 4294967296 + e 18) (show e 9 ≠ 0 by omega)
    rw [← hqb] at hR2
    generalize (R1 * 4294967296 + e 18) % e 9 = R2 at *
    have hqe : e2 qa = e1 qa := he2 qa (by omega)
    unfold k2T
    intro f1 _ f2 _ f3 _ f4 _ f5 _ f6 _ f7 _
    simp only [D.ev, ev_var, ev_lit, binE, wr] at f1 f2 f3 f4 f5 f6 f7
    rw [hqe] at f1
    rw [he2 (b + 3) (by omega), d4] at f3
    rw [gg 18 (by decide)] at f4
    rw [gg 9 (by decide), Int.mul_comm] at f5
    have hXt : (e 0 * 18446744073709551616 + e 1) * 2 ^ s = (e1 qa * 4294967296 + e2 qb) * e 9 + R2 := by
      rw [htot]
      have h16 : e 16 = e 17 * 4294967296 + e 18 := by omega
      rw [Int.add_mul, Int.mul_right_comm, hQY, Int.mul_comm (e2 qb)]
      omega
    generalize e 9 * e2 qb = QZ at *
    have d6' : e2 (b2 + 5) = R2 := by rw [f6, f5, f4, f3]; omega
    have d2' : e2 (b2 + 1) = e1 qa * 4294967296 + e2 qb := by rw [f2, f1]; omega
    rw [d6', gg 8 (by decide), hs, show min ((s : Int).toNat) IntKind.u64.bits = s by show min s 64 = s; omega, Int.natCast_pow] at f7
    rw [Int.fdiv_eq_ediv_of_nonneg _ (by exact Int.le_of_lt hp1)] at f7
    show G2.goal [e2 (b2 + 1), e2 (b2 + 6)]
    rw [hG2, hG1]
    show [e2 (b2 + 1), e2 (b2 + 6)] = [(e 0 * 18446744073709551616 + e 1) / e 2, (e 0 * 18446744073709551616 + e 1) % e 2]
    rw [d2', f7]
    rw [c9] at hXt
    generalize e 0 * 18446744073709551616 + e 1 = X at *
    generalize e1 qa * 4294967296 + e2 qb = q at *
    have hr : R2 = 2 ^ s * (X - q * e 2) := by rw [Int.mul_sub, Int.mul_comm _ X, hXt]; grind
    have hr0 : 0 ≤ X - q * e 2 := by
      by_cases hc : 0 ≤ X - q * e 2
      · exact hc
      · have := Int.mul_neg_of_pos_of_neg hp1 (show X - q * e 2 < 0 by omega); omega
    have hr1 : X - q * e 2 < e 2 := by
      have : 2 ^ s * (X - q * e 2) < 2 ^ s * e 2 := by rw [← hr, Int.mul_comm _ (e 2), ← c9]; exact hR2l
      exact Int.lt_of_mul_lt_mul_left this (Int.le_of_lt hp1)
    have hq : X / e 2 = q := (dig_div (by omega) (by omega) (by rw [Int.add_mul]; omega)).symm
    have hm : X % e 2 = X - q * e 2 := md_eq q (by rw [Int.mul_comm q]; omega) hr0 hr1
    rw [hq, hm]
    congr 2
    rw [hr]
    exact Int.mul_ediv_cancel_left _ (by exact Int.ne_of_gt hp1)
def tRem64 : Tree := (.lett 3 (.int .u64) (.bin .rem .u64 (.var 0) (.var 2))
(.nz (.var 2)
(.req 0 [(.var 3), (.var 1), (.var 2)]
(.lett 4 (.int .u64) (.app 0 0 [(.var 3), (.var 1), (.var 2)])
(.lett 5 (.int .u64) (.app 0 1 [(.var 3), (.var 1), (.var 2)])
(.ret [(.var 5)]))))))
theorem law_rem64 (f1 f : FuncId) (e : Nat → Int) (hk : kkHas [.int .u64, .int .u64, .int .u64] [e 0, e 1, e 2]) (hp : (kRem64 f).pre [e 0, e 1, e 2]) : tRem64.says [kDiv64 f1] ⟨fun ys => ys = (kRem64 f).sem [e 0, e 1, e 2], []⟩ e := by
  obtain ⟨h0, h1, h2, _⟩ := hk
  have u0 := has_u64 h0
  have hy : 0 < e 2 := hp
  simp only [tRem64, kDiv64, kRem64, Tree.says, List.getElem?_cons_zero, List.getElem?_cons_succ, List.map, ev_lit, ev_var, ev_limb, D.ev, List.getD_cons_zero, List.getD_cons_succ]
  intro a3 _
  have c3 : e 3 = e 0 % e 2 := by rw [a3]; simp only [binE]; exact Int.tmod_eq_emod_of_nonneg u0.1
  refine ⟨by omega, by rw [c3]; exact Int.emod_lt_of_pos _ hy, fun a4 _ a5 _ => ?_⟩
  rw [a5, c3]
  congr 1
  obtain ⟨z, hz⟩ := md_of (x := e 0) (n := e 2)
  exact md (z * 18446744073709551616) (by rw [hz]; grind)
end Go.Sx

/- Laws: reliquaryref02.Fast.Mont. -/
namespace Go.Sx
open Go Go.RowKit
set_option maxRecDepth 100000
set_option linter.unusedSimpArgs false
set_option linter.unusedVariables false
def roundF (im ia b : Nat) (x low n0 y0 y1 y2 y3 y4 y5 n1 n2 n3 n4 n5 t0 t1 t2 t3 t4 t5 t6 : A) (k : A → A → A → A → A → A → A → Tree) : Tree :=
  macsT im ia x [(y0, t0, b, b + 2, b + 5), (y1, t1, b + 8, b + 10, b + 13), (y2, t2, b + 16, b + 18, b + 21), (y3, t3, b + 24, b + 26, b + 29), (y4, t4, b + 32, b + 34, b + 37), (y5, t5, b + 40, b + 42, b + 45)] (.lit 0) fun c =>
  .req ia [t6, c, .lit 0] (.lett (b + 48) (.int .u64) (.app ia 0 [t6, c, .lit 0]) (.lett (b + 49) (.int .u64) (.app ia 1 [t6, c, .lit 0])
  (.lett (b + 338) (.int .u64) (.bin .add .u64 (.lit 0) (.var (b + 49)))
  (.lett (b + 530) (.int .u64) (.bin .mul .u64 (.var (b + 5)) low)
  (macsT im ia (.var (b + 530)) [(n0, .var (b + 5), b + 531, b + 533, b + 536), (n1, .var (b + 13), b + 539, b + 541, b + 544), (n2, .var (b + 21), b + 547, b + 549, b + 552), (n3, .var (b + 29), b + 555, b + 557, b + 560), (n4, .var (b + 37), b + 563, b + 565, b + 568), (n5, .var (b + 45), b + 571, b + 573, b + 576)] (.lit 0) fun c' =>
  .req ia [.var (b + 48), c', .lit 0] (.lett (b + 579) (.int .u64) (.app ia 0 [.var (b + 48), c', .lit 0]) (.lett (b + 580) (.int .u64) (.app ia 1 [.var (b + 48), c', .lit 0])
  (.lett (b + 869) (.int .u64) (.bin .add .u64 (.var (b + 338)) (.var (b + 580)))
  (k (.var (b + 544)) (.var (b + 552)) (.var (b + 560)) (.var (b + 568)) (.var (b + 576)) (.var (b + 579)) (.var (b + 869)))))))))))
theorem roundF_arith {xB qN qn0 qJ V jl l0 j5 t6 c s6 c7 s7 j2 o0 jr c' t5' c'' t6' jt : Int}
    (hqz : (qn0 + l0) % 18446744073709551616 = 0) (hqN : qN = qn0 + 18446744073709551616 * qJ) (hj2 : j2 = o0 + 18446744073709551616 * jr) (uo : U o0)
    (hV : V = jt + N384 * t6) (u6 : U t6) (hjl : jl = l0 + 18446744073709551616 * j5) (ul : U l0) (uc : U c) (uc' : U c')
    (S1 : jl + N384 * c = xB + jt + 0) (a1 : s6 = (t6 + c + 0) % 18446744073709551616) (a2 : c7 = (t6 + c + 0) / 18446744073709551616) (a3 : s7 = wr .u64 (0 + c7))
    (S2 : j2 + N384 * c' = qN + jl + 0)
    (b1 : t5' = (s6 + c' + 0) % 18446744073709551616) (b2 : c'' = (s6 + c' + 0) / 18446744073709551616) (b3 : t6' = wr .u64 (s7 + c'')) :
    18446744073709551616 * (jr + 2135987035920910082395021706169552114602704522356652769947041607822219725780640550022962086936576 * t5' + N384 * t6') = V + xB + qN ∧ U t5' ∧ 0 ≤ t6' ∧ t6' ≤ 2 := by
  unfold U N384 at *
  simp only [wr] at *
  omega
section
variable {T : List K} {f g : FuncId} {im ia b : Nat} {G : Gl} {e : Nat → Int}
theorem roundF_says {x low n0 y0 y1 y2 y3 y4 y5 n1 n2 n3 n4 n5 t0 t1 t2 t3 t4 t5 t6 : A} {k : A → A → A → A → A → A → A → Tree} {B N V : Int} (hm : T[im]? = some (kMul64 f)) (ha : T[ia]? = some (kAdd64 g)) (bx : U (x.ev e))
    (hy : AllU e [y0, y1, y2, y3, y4, y5]) (hn : AllU e [n0, n1, n2, n3, n4, n5]) (ht : AllU e [t0, t1, t2, t3, t4, t5, t6])
    (hB : B = jo e [y0, y1, y2, y3, y4, y5]) (hN : N = jo e [n0, n1, n2, n3, n4, n5]) (hV : V = jo e [t0, t1, t2, t3, t4, t5] + N384 * t6.ev e) (hVB : V < B + N)
    (hl : n0.ev e * low.ev e % 18446744073709551616 = 18446744073709551615)
    (hk : ∀ V' q, AllU e [.var (b + 544), .var (b + 552), .var (b + 560), .var (b + 568), .var (b + 576), .var (b + 579), .var (b + 869)] →
      V' = jo e [.var (b + 544), .var (b + 552), .var (b + 560), .var (b + 568), .var (b + 576), .var (b + 579)] + N384 * e (b + 869) → V' < B + N → 0 ≤ V' → 0 ≤ q ∧ q < 18446744073709551616 → 18446744073709551616 * V' = V + x.ev e * B + q * N →
      (k (.var (b + 544)) (.var (b + 552)) (.var (b + 560)) (.var (b + 568)) (.var (b + 576)) (.var (b + 579)) (.var (b + 869))).says T G e) :
    (roundF im ia b x low n0 y0 y1 y2 y3 y4 y5 n1 n2 n3 n4 n5 t0 t1 t2 t3 t4 t5 t6 k).says T G e := by
  unfold roundF
  obtain ⟨ht0, ht1, ht2, ht3, ht4, ht5, ht6, _⟩ := ht
  have hz0 : U ((A.lit 0).ev e) := by show U 0; unfold U; omega
  refine macsT_says hm ha bx _ _ _ hy ⟨ht0, ht1, ht2, ht3, ht4, ht5, trivial⟩ hz0 fun g1 g2 g3 => ?_
  simp only [List.map, outC, List.length_cons, List.length_nil, AllU, ev_var] at g1 g2 g3
  obtain ⟨l0, l1, l2, l3, l4, l5, _⟩ := g1
  simp only [outC]
  refine ⟨by simp only [ha, kAdd64, List.map, ev_lit]; omega, fun a1 _ a2 _ a3 _ a4 k4 => ?_⟩
  have k4' : U (e (b + 530)) := has_u64 k4
  refine macsT_says hm ha (by exact k4') _ _ _ hn ⟨l0, l1, l2, l3, l4, l5, trivial⟩ hz0 fun p1 p2 p3 => ?_
  simp only [List.map, outC, List.length_cons, List.length_nil, AllU, ev_var] at p1 p2 p3
  obtain ⟨r0, r1, r2, r3, r4, r5, _⟩ := p1
  simp only [outC]
  refine ⟨by simp only [ha, kAdd64, List.map, ev_lit]; omega, fun b1 _ b2 _ b3 _ => ?_⟩
  simp only [D.ev, ha, hm, kAdd64, kMul64, List.map, List.getD_cons_zero, List.getD_cons_succ, ev_var, ev_lit, binE] at a1 a2 a3 a4 b1 b2 b3
  have hz := q_zero a4 hl
  have e6 : pw64 (0 + 1 + 1 + 1 + 1 + 1 + 1) = N384 := by decide +kernel
  rw [e6, show (A.lit 0).ev e = 0 from rfl] at g3 p3
  have hqN : e (b + 530) * jo e [n0, n1, n2, n3, n4, n5] = e (b + 530) * n0.ev e + 18446744073709551616 * (e (b + 530) * jo e [n1, n2, n3, n4, n5]) := by
    rw [show jo e [n0, n1, n2, n3, n4, n5] = n0.ev e + 18446744073709551616 * jo e [n1, n2, n3, n4, n5] from rfl, Int.mul_add, Int.mul_left_comm]
  obtain ⟨s1, s2, s3, s4⟩ := roundF_arith (jr := jo e [.var (b + 544), .var (b + 552), .var (b + 560), .var (b + 568), .var (b + 576)]) hz hqN rfl r0 hV ht6 (by simp only [jo]; rfl) l0 g2 p2 g3 a1 a2 a3 p3 b1 b2 b3
  have hB0 : 0 ≤ B := by
    obtain ⟨z0, z1, z2, z3, z4, z5, _⟩ := hy
    unfold U at z0 z1 z2 z3 z4 z5
    rw [hB]; simp only [jo]; omega
  have hN0 : 0 ≤ N := by
    obtain ⟨z0, z1, z2, z3, z4, z5, _⟩ := hn
    unfold U at z0 z1 z2 z3 z4 z5
    rw [hN]; simp only [jo]; omega
  have s1' : 18446744073709551616 * (jo e [.var (b + 544), .var (b + 552), .var (b + 560), .var (b + 568), .var (b + 576), .var (b + 579)] + N384 * e (b + 869)) = V + A.ev e x * B + e (b + 530) * N := by
    rw [hB, hN, ← s1]
    simp only [jo, ev_var]; omega
  have m1 : A.ev e x * B ≤ 18446744073709551615 * B := Int.mul_le_mul_of_nonneg_right (by have := bx.2; omega) hB0
  have m2 : e (b + 530) * N ≤ 18446744073709551615 * N := Int.mul_le_mul_of_nonneg_right (by have := k4'.2; omega) hN0
  refine hk _ _ ⟨r1, r2, r3, r4, r5, s2, by exact ⟨s3, by show e (b + 869) < _; omega⟩, trivial⟩ rfl ?_ ?_ k4' s1'
  · generalize jo e [.var (b + 544), .var (b + 552), .var (b + 560), .var (b + 568), .var (b + 576), .var (b + 579)] + N384 * e (b + 869) = V' at *
    omega
  · unfold U at r1 r2 r3 r4 r5 s2
    have s3' : 0 ≤ e (b + 869) := s3
    unfold N384
    simp only [jo, ev_var]; omega
end
def tFMontR (i b : Nat) (t0 t1 t2 t3 t4 t5 t6 : A) (k : A → A → A → A → A → A → A → Tree) : Tree :=
  roundF 1 0 b (.limb 3 i) (.var 1) (.limb 0 0) (.limb 4 0) (.limb 4 1) (.limb 4 2) (.limb 4 3) (.limb 4 4) (.limb 4 5) (.limb 0 1) (.limb 0 2) (.limb 0 3) (.limb 0 4) (.limb 0 5) t0 t1 t2 t3 t4 t5 t6 k
def tFMont : Tree :=
  tFMontR 0 293 (.lit 0) (.lit 0) (.lit 0) (.lit 0) (.lit 0) (.lit 0) (.lit 0) fun t0 t1 t2 t3 t4 t5 t6 =>
  tFMontR 1 1642 t0 t1 t2 t3 t4 t5 t6 fun t0 t1 t2 t3 t4 t5 t6 =>
  tFMontR 2 2991 t0 t1 t2 t3 t4 t5 t6 fun t0 t1 t2 t3 t4 t5 t6 =>
  tFMontR 3 4340 t0 t1 t2 t3 t4 t5 t6 fun t0 t1 t2 t3 t4 t5 t6 =>
  tFMontR 4 5689 t0 t1 t2 t3 t4 t5 t6 fun t0 t1 t2 t3 t4 t5 t6 =>
  tFMontR 5 7038 t0 t1 t2 t3 t4 t5 t6 fun t0 t1 t2 t3 t4 t5 t6 =>
  (.lett 8099 .bit (.cmp .neq t6 (.lit 0))
  (.split 8099
   (.lett 8100 .num (.join [t0, t1, t2, t3, t4, t5])
   (.req 3 [(.var 8100), (.var 0)]
   (.lett 8101 .num (.app 3 0 [(.var 8100), (.var 0)])
   (.lett 8102 .bit (.app 3 1 [(.var 8100), (.var 0)])
   (.ret [(.var 8101)])))))
   (.lett 8100 .num (.join [t0, t1, t2, t3, t4, t5])
   (.req 2 [(.var 8100), (.var 0)]
   (.lett 8101 (.int .i64) (.app 2 0 [(.var 8100), (.var 0)])
   (.lett 8102 .bit (.cmp .geq (.var 8101) (.lit 0))
   (.split 8102
    (.lett 8103 .num (.join [t0, t1, t2, t3, t4, t5])
    (.req 3 [(.var 8103), (.var 0)]
    (.lett 8104 .num (.app 3 0 [(.var 8103), (.var 0)])
    (.lett 8105 .bit (.app 3 1 [(.var 8103), (.var 0)])
    (.ret [(.var 8104)])))))
    (.lett 8103 .num (.join [t0, t1, t2, t3, t4, t5])
    (.ret [(.var 8103)])))))))))
theorem law_fMont (f1 f2 f3 f4 f : FuncId) (e : Nat → Int) (hk : kkHas [.num, .int .u64, .num, .num, .num] [e 0, e 1, e 2, e 3, e 4]) (hp : (kFMont f).pre [e 0, e 1, e 2, e 3, e 4]) :
    tFMont.says [kAdd64 f1, kMul64 f2, kWCmp f3, kWSub f4] ⟨fun ys => ys = (kFMont f).sem [e 0, e 1, e 2, e 3, e 4], []⟩ e := by
  obtain ⟨h0, h1, h2, h3, h4, _⟩ := hk
  obtain ⟨⟨hl, hn3, hn2⟩, hab⟩ := hp
  have hx : ∀ i j, U ((A.limb i j).ev e) := U_lim e
  have hb6 := jo6 h4 e 4 rfl
  have hn6 := jo6 h0 e 0 rfl
  have hB : AllU e [.limb 4 0, .limb 4 1, .limb 4 2, .limb 4 3, .limb 4 4, .limb 4 5] := ⟨hx _ _, hx _ _, hx _ _, hx _ _, hx _ _, hx _ _, trivial⟩
  have hN : AllU e [.limb 0 0, .limb 0 1, .limb 0 2, .limb 0 3, .limb 0 4, .limb 0 5] := ⟨hx _ _, hx _ _, hx _ _, hx _ _, hx _ _, hx _ _, trivial⟩
  have hl0 : (A.limb 0 0).ev e * (A.var 1).ev e % 18446744073709551616 = 18446744073709551615 := low0 hl
  have hz : U ((A.lit 0).ev e) := by show U 0; unfold U; omega
  unfold tFMont tFMontR
  refine roundF_says (V := 0) rfl rfl (hx _ _) hB hN ⟨hz, hz, hz, hz, hz, hz, hz, trivial⟩ hb6.symm hn6.symm (by simp only [jo, ev_lit]; omega) (by have := h4.1; omega) hl0 fun V1 q0 t1 v1 b1 _ k1 E1 => ?_
  refine roundF_says rfl rfl (hx _ _) hB hN t1 hb6.symm hn6.symm v1 b1 hl0 fun V2 q1 t2 v2 b2 _ k2 E2 => ?_
  refine roundF_says rfl rfl (hx _ _) hB hN t2 hb6.symm hn6.symm v2 b2 hl0 fun V3 q2 t3 v3 b3 _ k3 E3 => ?_
  refine roundF_says rfl rfl (hx _ _) hB hN t3 hb6.symm hn6.symm v3 b3 hl0 fun V4 q3 t4 v4 b4 _ k4 E4 => ?_
  refine roundF_says rfl rfl (hx _ _) hB hN t4 hb6.symm hn6.symm v4 b4 hl0 fun V5 q4 t5 v5 b5 _ k5 E5 => ?_
  refine roundF_says rfl rfl (hx _ _) hB hN t5 hb6.symm hn6.symm v5 b5 hl0 fun V6 q5 t6 v6 b6 p6 k6 E6 => ?_
  have ha : e 3 = wd (lim (e 3) 0) (lim (e 3) 1) (lim (e 3) 2) (lim (e 3) 3) (lim (e 3) 4) (lim (e 3) 5) := lim_eq h3
  have fin := mont_fin E1 E2 E3 E4 E5 E6 ha
  have hq := wd_lt k1 k2 k3 k4 k5 k6
  have hlt := mont_lt h3 h4 hq hn3 hab fin
  have hmv := montv_of (odd_of hl) fin
  have h22 : (2 : Int) ^ 382 = 9850501549098619803069760025035903451269934817616361666987073351061430442874302652853566563721228910201656997576704 := by decide +kernel
  obtain ⟨u0, u1, u2, u3, u4, u5, u6, _⟩ := t6
  have hv6 : e 7907 = 0 ∧ V6 = jo e [.var 7582, .var 7590, .var 7598, .var 7606, .var 7614, .var 7617] := by
    have hj : 0 ≤ jo e [.var 7582, .var 7590, .var 7598, .var 7606, .var 7614, .var 7617] := by
      have w0 : U (e 7582) := u0
      have w1 : U (e 7590) := u1
      have w2 : U (e 7598) := u2
      have w3 : U (e 7606) := u3
      have w4 : U (e 7614) := u4
      have w5 : U (e 7617) := u5
      unfold U at w0 w1 w2 w3 w4 w5
      simp only [jo, ev_var]; omega
    have hu : 0 ≤ e 7907 := u6.1
    rw [h22] at hn2
    have hv6' : V6 = jo e [.var 7582, .var 7590, .var 7598, .var 7606, .var 7614, .var 7617] + N384 * e 7907 := v6
    generalize jo e [.var 7582, .var 7590, .var 7598, .var 7606, .var 7614, .var 7617] = J at *
    unfold N384 at hv6'
    omega
  have hN2 : 2 * e 0 < N384 := by rw [h22] at hn2; unfold N384; omega
  have hjn : joinE ([A.var 7582, .var 7590, .var 7598, .var 7606, .var 7614, .var 7617].map (·.ev e)) = V6 := by rw [hv6.2]; exact jo_join e _
  intro c1 _
  have d1 : (e 8099 = 1 ∧ ¬ e 7907 = 0) ∨ (e 8099 = 0 ∧ e 7907 = 0) := c_ne c1
  refine ⟨fun hs => by omega, fun _ => ?_⟩
  intro c2 _
  have c2' : e 8100 = V6 := c2.trans hjn
  refine ⟨trivial, fun c3 _ c4 _ => ?_⟩
  have d4 := cmp_ge (show e 8101 = if e 8100 < e 0 then -1 else if e 8100 = e 0 then 0 else 1 from c3) (show e 8102 = b2i (cmpE .geq (e 8101) 0) from c4)
  refine ⟨fun hs => ?_, fun hs => ?_⟩
  · intro c5 _
    have c5' : e 8103 = V6 := c5.trans hjn
    refine ⟨trivial, fun c6 _ c7 _ => ?_⟩
    have c6' : e 8104 = (e 8103 - e 0) % N384 := c6
    show [e 8104] = [montv (e 0) (e 3) (e 4)]
    rw [c6', c5', ← hmv, Int.emod_eq_of_lt (by omega) (by omega)]
    congr 1
    exact (md_eq 1 (by omega) (by omega) (by omega)).symm
  · intro c5 _
    have c5' : e 8103 = V6 := c5.trans hjn
    show [e 8103] = [montv (e 0) (e 3) (e 4)]
    rw [c5', ← hmv]
    congr 1
    exact (Int.emod_eq_of_lt p6 (by omega)).symm
end Go.Sx

/- Laws: the references: words, Fast, little arithmetic, suite's scalars. -/
namespace Go.Sx
open Go Go.RowKit
set_option maxRecDepth 100000
set_option linter.unusedSimpArgs false
set_option linter.unusedVariables false
def rCmp : Tree := (.lett 290 .bit (.cmp .lss (.limb 0 5) (.limb 1 5))
(.split 290
 (.ret [(.lit (-1))])
 (.lett 626 .bit (.cmp .gtr (.limb 0 5) (.limb 1 5))
 (.split 626
  (.ret [(.lit 1)])
  (.lett 962 .bit (.cmp .lss (.limb 0 4) (.limb 1 4))
  (.split 962
   (.ret [(.lit (-1))])
   (.lett 1298 .bit (.cmp .gtr (.limb 0 4) (.limb 1 4))
   (.split 1298
    (.ret [(.lit 1)])
    (.lett 1634 .bit (.cmp .lss (.limb 0 3) (.limb 1 3))
    (.split 1634
     (.ret [(.lit (-1))])
     (.lett 1970 .bit (.cmp .gtr (.limb 0 3) (.limb 1 3))
     (.split 1970
      (.ret [(.lit 1)])
      (.lett 2306 .bit (.cmp .lss (.limb 0 2) (.limb 1 2))
      (.split 2306
       (.ret [(.lit (-1))])
       (.lett 2642 .bit (.cmp .gtr (.limb 0 2) (.limb 1 2))
       (.split 2642
        (.ret [(.lit 1)])
        (.lett 2978 .bit (.cmp .lss (.limb 0 1) (.limb 1 1))
        (.split 2978
         (.ret [(.lit (-1))])
         (.lett 3314 .bit (.cmp .gtr (.limb 0 1) (.limb 1 1))
         (.split 3314
          (.ret [(.lit 1)])
          (.lett 3650 .bit (.cmp .lss (.limb 0 0) (.limb 1 0))
          (.split 3650
           (.ret [(.lit (-1))])
           (.lett 3986 .bit (.cmp .gtr (.limb 0 0) (.limb 1 0))
           (.split 3986
            (.ret [(.lit 1)])
            (.ret [(.lit 0)])))))))))))))))))))))))))
theorem law_rCmp (f2 : FuncId) (e : Nat → Int) (hk : kkHas [.num, .num] [e 0, e 1]) : rCmp.says [] ⟨fun ys => ys = (kWCmp f2).sem [e 0, e 1], []⟩ e := by
  obtain ⟨ha, hb, _⟩ := hk
  have ea := lim_eq ha
  have eb := lim_eq hb
  have a0 := lim_lt (e 0) 0
  have a1 := lim_lt (e 0) 1
  have a2 := lim_lt (e 0) 2
  have a3 := lim_lt (e 0) 3
  have a4 := lim_lt (e 0) 4
  have a5 := lim_lt (e 0) 5
  have b0 := lim_lt (e 1) 0
  have b1 := lim_lt (e 1) 1
  have b2 := lim_lt (e 1) 2
  have b3 := lim_lt (e 1) 3
  have b4 := lim_lt (e 1) 4
  have b5 := lim_lt (e 1) 5
  simp only [rCmp, kWCmp, Tree.says, List.getElem?_cons_zero, List.map, ev_lit, ev_var, ev_limb, D.ev, List.getD_cons_zero, List.getD_cons_succ, KK.has, joinE6]
  generalize lim (e 0) 0 = x0 at *
  generalize lim (e 0) 1 = x1 at *
  generalize lim (e 0) 2 = x2 at *
  generalize lim (e 0) 3 = x3 at *
  generalize lim (e 0) 4 = x4 at *
  generalize lim (e 0) 5 = x5 at *
  generalize lim (e 1) 0 = y0 at *
  generalize lim (e 1) 1 = y1 at *
  generalize lim (e 1) 2 = y2 at *
  generalize lim (e 1) 3 = y3 at *
  generalize lim (e 1) 4 = y4 at *
  generalize lim (e 1) 5 = y5 at *
  intro h _
  have k0a := c_lt h
  refine ⟨fun n => by rw [if_pos (by omega)], fun n => ?_⟩
  clear h
  intro h _
  have k0b := c_gt h
  refine ⟨fun m => by rw [if_neg (by omega), if_neg (by omega)], fun m => ?_⟩
  have z0 : x5 = y5 := by omega
  clear h k0a k0b n m
  intro h _
  have k1a := c_lt h
  refine ⟨fun n => by rw [if_pos (by omega)], fun n => ?_⟩
  clear h
  intro h _
  have k1b := c_gt h
  refine ⟨fun m => by rw [if_neg (by omega), if_neg (by omega)], fun m => ?_⟩
  have z1 : x4 = y4 := by omega
  clear h k1a k1b n m
  intro h _
  have k2a := c_lt h
  refine ⟨fun n => by rw [if_pos (by omega)], fun n => ?_⟩
  clear h
  intro h _
  have k2b := c_gt h
  refine ⟨fun m => by rw [if_neg (by omega), if_neg (by omega)], fun m => ?_⟩
  have z2 : x3 = y3 := by omega
  clear h k2a k2b n m
  intro h _
  have k3a := c_lt h
  refine ⟨fun n => by rw [if_pos (by omega)], fun n => ?_⟩
  clear h
  intro h _
  have k3b := c_gt h
  refine ⟨fun m => by rw [if_neg (by omega), if_neg (by omega)], fun m => ?_⟩
  have z3 : x2 = y2 := by omega
  clear h k3a k3b n m
  intro h _
  have k4a := c_lt h
  refine ⟨fun n => by rw [if_pos (by omega)], fun n => ?_⟩
  clear h
  intro h _
  have k4b := c_gt h
  refine ⟨fun m => by rw [if_neg (by omega), if_neg (by omega)], fun m => ?_⟩
  have z4 : x1 = y1 := by omega
  clear h k4a k4b n m
  intro h _
  have k5a := c_lt h
  refine ⟨fun n => by rw [if_pos (by omega)], fun n => ?_⟩
  clear h
  intro h _
  have k5b := c_gt h
  refine ⟨fun m => by rw [if_neg (by omega), if_neg (by omega)], fun m => ?_⟩
  have z5 : x0 = y0 := by omega
  clear h k5a k5b n m
  rw [if_neg (by omega), if_pos (by omega)]

theorem q0 : p64 0 = 1 := by decide +kernel
theorem q1 : p64 1 = 18446744073709551616 := by decide +kernel
theorem q2 : p64 2 = 340282366920938463463374607431768211456 := by decide +kernel
theorem q3 : p64 3 = 6277101735386680763835789423207666416102355444464034512896 := by decide +kernel
theorem q4 : p64 4 = 115792089237316195423570985008687907853269984665640564039457584007913129639936 := by decide +kernel
theorem q5 : p64 5 = 2135987035920910082395021706169552114602704522356652769947041607822219725780640550022962086936576 := by decide +kernel
theorem q6 : p64 6 = N384 := by decide +kernel
theorem p64_pos (k : Nat) : 0 < p64 k := by unfold p64; exact Int.natCast_pos.2 (Nat.two_pow_pos _)
theorem mod_next (a : Int) (k : Nat) : a % p64 (k + 1) = a % p64 k + p64 k * lim a k := by
  unfold lim
  have hp := p64_pos k
  have h1 := Int.emod_add_mul_ediv a (p64 k)
  have h2 := Int.emod_add_mul_ediv (a / p64 k) 18446744073709551616
  have h3 := md_lt (x := a) hp
  have h4 := md_lt (x := a / p64 k) (n := 18446744073709551616) (by decide)
  have h5 := p64_s k
  generalize a / p64 k / 18446744073709551616 = z at *
  generalize hl : a / p64 k % 18446744073709551616 = l at *
  have h6 : p64 k * l ≤ p64 k * 18446744073709551615 := Int.mul_le_mul_of_nonneg_left (by omega) (by omega)
  have h7 : 0 ≤ p64 k * l := Int.mul_nonneg (by omega) h4.1
  refine md_eq z ?_ (by omega) (by rw [h5]; omega)
  rw [h5, ← h1, ← h2]
  have h8 : (a % p64 k + p64 k * (l + 18446744073709551616 * z)) % p64 k = a % p64 k := by
    rw [Int.add_mul_emod_self_left]; exact Int.emod_emod_of_dvd _ (Int.dvd_refl _)
  rw [h8]; grind
theorem put_join {x o o0 o1 o2 o3 o4 o5 : Int} {i : Int} {k : Nat} (hi : i = k) (hk : k < 6) (hx : 0 ≤ x ∧ x < N384) (hlt : x < p64 k) (h0 : o0 = if i = ((0 : Nat) : Int) then o else lim x 0) (h1 : o1 = if i = ((1 : Nat) : Int) then o else lim x 1)
    (h2 : o2 = if i = ((2 : Nat) : Int) then o else lim x 2) (h3 : o3 = if i = ((3 : Nat) : Int) then o else lim x 3) (h4 : o4 = if i = ((4 : Nat) : Int) then o else lim x 4) (h5 : o5 = if i = ((5 : Nat) : Int) then o else lim x 5) :
    joinE [o0, o1, o2, o3, o4, o5] = x + o * p64 k := by
  subst hi
  have ex := lim_eq hx
  have l0 := lim_lt x 0
  have l1 := lim_lt x 1
  have l2 := lim_lt x 2
  have l3 := lim_lt x 3
  have l4 := lim_lt x 4
  have l5 := lim_lt x 5
  rw [joinE6]
  generalize lim x 0 = x0 at *
  generalize lim x 1 = x1 at *
  generalize lim x 2 = x2 at *
  generalize lim x 3 = x3 at *
  generalize lim x 4 = x4 at *
  generalize lim x 5 = x5 at *
  have : k = 0 ∨ k = 1 ∨ k = 2 ∨ k = 3 ∨ k = 4 ∨ k = 5 := by omega
  rcases this with h | h | h | h | h | h <;> subst h
  · rw [q0] at *; simp at h0 h1 h2 h3 h4 h5; omega
  · rw [q1] at *; simp at h0 h1 h2 h3 h4 h5; omega
  · rw [q2] at *; simp at h0 h1 h2 h3 h4 h5; omega
  · rw [q3] at *; simp at h0 h1 h2 h3 h4 h5; omega
  · rw [q4] at *; simp at h0 h1 h2 h3 h4 h5; omega
  · rw [q5] at *; simp at h0 h1 h2 h3 h4 h5; omega
theorem sel6 (x : Int) {i : Int} {k : Nat} (hi : i = k) (hk : k < 6) : ([lim x 0, lim x 1, lim x 2, lim x 3, lim x 4, lim x 5] : List Int).getD i.toNat 0 = lim x k := by
  subst hi
  have : k = 0 ∨ k = 1 ∨ k = 2 ∨ k = 3 ∨ k = 4 ∨ k = 5 := by omega
  rcases this with h | h | h | h | h | h <;> subst h <;> rfl
theorem sel6p {o0 o1 o2 o3 o4 o5 o x : Int} {i : Int} {k : Nat} (hi : i = k) (hk : k < 6) (h0 : o0 = if i = ((0 : Nat) : Int) then o else lim x 0) (h1 : o1 = if i = ((1 : Nat) : Int) then o else lim x 1)
    (h2 : o2 = if i = ((2 : Nat) : Int) then o else lim x 2) (h3 : o3 = if i = ((3 : Nat) : Int) then o else lim x 3) (h4 : o4 = if i = ((4 : Nat) : Int) then o else lim x 4) (h5 : o5 = if i = ((5 : Nat) : Int) then o else lim x 5) : ([o0, o1, o2, o3, o4, o5] : List Int).getD i.toNat 0 = o := by
  subst hi
  have : k = 0 ∨ k = 1 ∨ k = 2 ∨ k = 3 ∨ k = 4 ∨ k = 5 := by omega
  rcases this with h | h | h | h | h | h <;> subst h <;> simp at h0 h1 h2 h3 h4 h5 <;> simp_all
def AddI (a b : Int) : List Int → Prop
  | [i, c, x] => ∃ k : Nat, i = k ∧ k ≤ 6 ∧ 0 ≤ c ∧ c ≤ 1 ∧ 0 ≤ x ∧ x < p64 k ∧ x + c * p64 k = a % p64 k + b % p64 k
  | _ => False
def SubI (a b : Int) : List Int → Prop
  | [i, c, x] => ∃ k : Nat, i = k ∧ k ≤ 6 ∧ 0 ≤ c ∧ c ≤ 1 ∧ 0 ≤ x ∧ x < p64 k ∧ x - c * p64 k = a % p64 k - b % p64 k
  | _ => False
def cntM : List Int → Nat
  | i :: _ => (6 - i).toNat
  | _ => 0
theorem add_step {a b x c o c' : Int} {k : Nat} (uo : U o) (hx0 : 0 ≤ x) (hx : x < p64 k) (hi : x + c * p64 k = a % p64 k + b % p64 k) (ho : o + c' * 18446744073709551616 = lim a k + lim b k + c) :
    0 ≤ x + o * p64 k ∧ x + o * p64 k < p64 (k + 1) ∧ (x + o * p64 k) + c' * p64 (k + 1) = a % p64 (k + 1) + b % p64 (k + 1) := by
  have hp := p64_pos k
  have h1 : o * p64 k ≤ 18446744073709551615 * p64 k := Int.mul_le_mul_of_nonneg_right (by have := uo.2; omega) (by omega)
  have h2 : 0 ≤ o * p64 k := Int.mul_nonneg uo.1 (by omega)
  rw [mod_next, mod_next, p64_s]
  refine ⟨by omega, by omega, ?_⟩
  generalize p64 k = P at *
  have h3 : (o + c' * 18446744073709551616) * P = (lim a k + lim b k + c) * P := by rw [ho]
  grind
theorem sub_step' {a b x c o c' : Int} {k : Nat} (uo : U o) (hx0 : 0 ≤ x) (hx : x < p64 k) (hi : x - c * p64 k = a % p64 k - b % p64 k) (ho : o - c' * 18446744073709551616 = lim a k - lim b k - c) :
    0 ≤ x + o * p64 k ∧ x + o * p64 k < p64 (k + 1) ∧ (x + o * p64 k) - c' * p64 (k + 1) = a % p64 (k + 1) - b % p64 (k + 1) := by
  have hp := p64_pos k
  have h1 : o * p64 k ≤ 18446744073709551615 * p64 k := Int.mul_le_mul_of_nonneg_right (by have := uo.2; omega) (by omega)
  have h2 : 0 ≤ o * p64 k := Int.mul_nonneg uo.1 (by omega)
  rw [mod_next, mod_next, p64_s]
  refine ⟨by omega, by omega, ?_⟩
  generalize p64 k = P at *
  have h3 : (o - c' * 18446744073709551616) * P = (lim a k - lim b k - c) * P := by rw [ho]
  grind
def tRefAdd : Tree := (.loop [(.lit 0), (.lit 0), (.lit 0)] [(.int .i64), (.int .u64), .num] 2
(.lett 5 .bit (.cmp .lss (.var 2) (.lit 6))
(.split 5
 (.lett 54 .bit (.cmp .leq (.lit 0) (.var 2))
 (.lett 55 .bit (.cmp .lss (.var 2) (.lit 6))
 (.nz (.var 54)
 (.nz (.var 55)
 (.lett 102 (.int .u64) (.sel (.var 2) [(.limb 0 0), (.limb 0 1), (.limb 0 2), (.limb 0 3), (.limb 0 4), (.limb 0 5)])
 (.lett 198 .bit (.cmp .leq (.lit 0) (.var 2))
 (.lett 199 .bit (.cmp .lss (.var 2) (.lit 6))
 (.nz (.var 198)
 (.nz (.var 199)
 (.lett 246 (.int .u64) (.sel (.var 2) [(.limb 1 0), (.limb 1 1), (.limb 1 2), (.limb 1 3), (.limb 1 4), (.limb 1 5)])
 (.lett 294 (.int .u64) (.bin .add .u64 (.var 102) (.var 246))
 (.lett 390 .bit (.cmp .leq (.lit 0) (.var 2))
 (.lett 391 .bit (.cmp .lss (.var 2) (.lit 6))
 (.nz (.var 390)
 (.nz (.var 391)
 (.lett 392 (.int .u64) (.sel (.var 2) [(.limb 0 0), (.limb 0 1), (.limb 0 2), (.limb 0 3), (.limb 0 4), (.limb 0 5)])
 (.lett 393 .bit (.cmp .lss (.var 294) (.var 392))
 (.lett 394 (.int .u64) (.bin .add .u64 (.var 294) (.var 3))
 (.lett 395 .bit (.cmp .leq (.lit 0) (.var 2))
 (.lett 396 .bit (.cmp .lss (.var 2) (.lit 6))
 (.nz (.var 395)
 (.nz (.var 396)
 (.lett 397 (.int .u64) (.put (.var 2) 0 (.var 394) (.limb 4 0))
 (.lett 398 (.int .u64) (.put (.var 2) 1 (.var 394) (.limb 4 1))
 (.lett 399 (.int .u64) (.put (.var 2) 2 (.var 394) (.limb 4 2))
 (.lett 400 (.int .u64) (.put (.var 2) 3 (.var 394) (.limb 4 3))
 (.lett 401 (.int .u64) (.put (.var 2) 4 (.var 394) (.limb 4 4))
 (.lett 402 (.int .u64) (.put (.var 2) 5 (.var 394) (.limb 4 5))
 (.lett 403 .bit (.cmp .leq (.lit 0) (.var 2))
 (.lett 404 .bit (.cmp .lss (.var 2) (.lit 6))
 (.nz (.var 403)
 (.nz (.var 404)
 (.lett 405 (.int .u64) (.sel (.var 2) [(.var 397), (.var 398), (.var 399), (.var 400), (.var 401), (.var 402)])
 (.lett 406 .bit (.cmp .lss (.var 405) (.var 294))
 (.split 406
  (.lett 407 (.int .i64) (.bin .add .i64 (.var 2) (.lit 1))
  (.lett 408 .num (.join [(.var 397), (.var 398), (.var 399), (.var 400), (.var 401), (.var 402)])
  (.back 0 [(.var 407), (.lit 1), (.var 408)])))
  (.split 393
   (.lett 407 (.int .i64) (.bin .add .i64 (.var 2) (.lit 1))
   (.lett 408 .num (.join [(.var 397), (.var 398), (.var 399), (.var 400), (.var 401), (.var 402)])
   (.back 0 [(.var 407), (.lit 1), (.var 408)])))
   (.lett 407 (.int .i64) (.bin .add .i64 (.var 2) (.lit 1))
   (.lett 408 .num (.join [(.var 397), (.var 398), (.var 399), (.var 400), (.var 401), (.var 402)])
   (.back 0 [(.var 407), (.lit 0), (.var 408)])))))))))))))))))))))))))))))))))))))))
 (.lett 6 .bit (.cmp .eql (.var 3) (.lit 1))
 (.ret [(.var 4), (.var 6)])))))
theorem law_refAdd (f : FuncId) (e : Nat → Int) (hk : kkHas [.num, .num] [e 0, e 1]) : tRefAdd.says [] ⟨fun ys => ys = (kWAdd f).sem [e 0, e 1], []⟩ e := by
  obtain ⟨h0, h1, _⟩ := hk
  simp only [tRefAdd, kWAdd, Tree.says, List.getElem?_cons_zero, List.getElem?_cons_succ, List.map, ev_lit, ev_var, ev_limb, D.ev, List.getD_cons_zero, List.getD_cons_succ]
  refine ⟨AddI (e 0) (e 1), cntM, ⟨0, rfl, by decide, by decide, by decide, by decide, by rw [q0]; decide, by rw [q0]; omega⟩, fun e' he hkk hI => ?_⟩
  obtain ⟨k, i1, i2, i3, i4, i5, i6, i7⟩ : AddI (e 0) (e 1) [e' 2, e' 3, e' 4] := hI
  obtain ⟨_, _, k3, _⟩ : kkHas [.int .i64, .int .u64, .num] [e' 2, e' 3, e' 4] := hkk
  simp only [KK.has] at k3
  intro a5 _
  have b5 := c_lt a5
  refine ⟨fun hs => ?_, fun hs => ?_⟩
  · have hk6 : k < 6 := by omega
    rw [he 0 (by decide), he 1 (by decide), sel6 (e 0) i1 hk6, sel6 (e 1) i1 hk6]
    intro g1 _ g2 _
    refine ⟨bit_nz g1 (by omega), lt_nz g2 (by omega), ?_⟩
    intro s1 _ g1 _ g2 _
    refine ⟨bit_nz g1 (by omega), lt_nz g2 (by omega), ?_⟩
    intro s2 _ s3 _ g1 _ g2 _
    refine ⟨bit_nz g1 (by omega), lt_nz g2 (by omega), ?_⟩
    intro s4 _ v1 _ s5 k5 g1 _ g2 _
    refine ⟨bit_nz g1 (by omega), lt_nz g2 (by omega), ?_⟩
    intro t0 _ t1 _ t2 _ t3 _ t4 _ t5 _ g1 _ g2 _
    refine ⟨bit_nz g1 (by omega), lt_nz g2 (by omega), ?_⟩
    rw [sel6p (x := e' 4) i1 hk6 t0 t1 t2 t3 t4 t5]
    intro s6 _ v2 _
    have j := put_join i1 hk6 k3 i6 t0 t1 t2 t3 t4 t5
    have w1 := c_lt v1
    have w2 := c_lt v2
    have la := lim_lt (e 0) k
    have lb := lim_lt (e 1) k
    simp only [binE, wr] at s3 s5
    have uo : U (e' 394) := has_u64 k5
    have fin : ∀ c', (c' = 1 ∧ (e' 406 = 1 ∨ e' 393 = 1) ∨ c' = 0 ∧ e' 406 = 0 ∧ e' 393 = 0) → AddI (e 0) (e 1) [(k : Int) + 1, c', e' 4 + e' 394 * p64 k] := fun c' hc => by
      obtain ⟨r1, r2, r3⟩ := add_step (c' := c') uo i5 i6 i7 (by unfold U at uo; clear t0 t1 t2 t3 t4 t5 j g1 g2 i7; omega)
      exact ⟨k + 1, by omega, by omega, by omega, by omega, r1, r2, r3⟩
    have mm : cntM [(k : Int) + 1, 0, 0] < cntM [(k : Int), 0, 0] := by simp only [cntM]; omega
    refine ⟨fun n1 => ?_, fun n1 => ⟨fun n2 => ?_, fun n2 => ?_⟩⟩
    · intro x1 _ x2 _
      have x1' : e' 407 = k + 1 := by rw [x1]; simp only [binE, wr]; omega
      show AddI (e 0) (e 1) [e' 407, 1, e' 408] ∧ cntM [e' 407, 1, e' 408] < cntM [e' 2, e' 3, e' 4]
      rw [x2, j, x1', i1]
      exact ⟨fin 1 (.inl ⟨rfl, by omega⟩), mm⟩
    · intro x1 _ x2 _
      have x1' : e' 407 = k + 1 := by rw [x1]; simp only [binE, wr]; omega
      show AddI (e 0) (e 1) [e' 407, 1, e' 408] ∧ cntM [e' 407, 1, e' 408] < cntM [e' 2, e' 3, e' 4]
      rw [x2, j, x1', i1]
      exact ⟨fin 1 (.inl ⟨rfl, by omega⟩), mm⟩
    · intro x1 _ x2 _
      have x1' : e' 407 = k + 1 := by rw [x1]; simp only [binE, wr]; omega
      show AddI (e 0) (e 1) [e' 407, 0, e' 408] ∧ cntM [e' 407, 0, e' 408] < cntM [e' 2, e' 3, e' 4]
      rw [x2, j, x1', i1]
      exact ⟨fin 0 (.inr ⟨rfl, by omega, by omega⟩), mm⟩
  · intro a6 _
    have b6 := c_eq a6
    have hk6 : k = 6 := by omega
    subst hk6
    rw [q6, Int.emod_eq_of_lt h0.1 h0.2, Int.emod_eq_of_lt h1.1 h1.2] at i7
    rw [q6] at i6
    obtain ⟨r1, r2⟩ := divmod (x := e 0 + e 1) (q := e' 3) (r := e' 4) (m := N384) (by rw [← i7, Int.mul_comm]) i5 i6
    rw [r1, r2]
    congr 2
    omega
def tRefSub : Tree := (.loop [(.lit 0), (.lit 0), (.lit 0)] [(.int .i64), (.int .u64), .num] 2
(.lett 5 .bit (.cmp .lss (.var 2) (.lit 6))
(.split 5
 (.lett 54 .bit (.cmp .leq (.lit 0) (.var 2))
 (.lett 55 .bit (.cmp .lss (.var 2) (.lit 6))
 (.nz (.var 54)
 (.nz (.var 55)
 (.lett 102 (.int .u64) (.sel (.var 2) [(.limb 0 0), (.limb 0 1), (.limb 0 2), (.limb 0 3), (.limb 0 4), (.limb 0 5)])
 (.lett 198 .bit (.cmp .leq (.lit 0) (.var 2))
 (.lett 199 .bit (.cmp .lss (.var 2) (.lit 6))
 (.nz (.var 198)
 (.nz (.var 199)
 (.lett 246 (.int .u64) (.sel (.var 2) [(.limb 1 0), (.limb 1 1), (.limb 1 2), (.limb 1 3), (.limb 1 4), (.limb 1 5)])
 (.lett 294 (.int .u64) (.bin .sub .u64 (.var 102) (.var 246))
 (.lett 438 .bit (.cmp .leq (.lit 0) (.var 2))
 (.lett 439 .bit (.cmp .lss (.var 2) (.lit 6))
 (.nz (.var 438)
 (.nz (.var 439)
 (.lett 486 (.int .u64) (.sel (.var 2) [(.limb 0 0), (.limb 0 1), (.limb 0 2), (.limb 0 3), (.limb 0 4), (.limb 0 5)])
 (.lett 582 .bit (.cmp .leq (.lit 0) (.var 2))
 (.lett 583 .bit (.cmp .lss (.var 2) (.lit 6))
 (.nz (.var 582)
 (.nz (.var 583)
 (.lett 630 (.int .u64) (.sel (.var 2) [(.limb 1 0), (.limb 1 1), (.limb 1 2), (.limb 1 3), (.limb 1 4), (.limb 1 5)])
 (.lett 678 .bit (.cmp .lss (.var 486) (.var 630))
 (.lett 774 (.int .u64) (.bin .sub .u64 (.var 294) (.var 3))
 (.lett 775 .bit (.cmp .leq (.lit 0) (.var 2))
 (.lett 776 .bit (.cmp .lss (.var 2) (.lit 6))
 (.nz (.var 775)
 (.nz (.var 776)
 (.lett 777 (.int .u64) (.put (.var 2) 0 (.var 774) (.limb 4 0))
 (.lett 778 (.int .u64) (.put (.var 2) 1 (.var 774) (.limb 4 1))
 (.lett 779 (.int .u64) (.put (.var 2) 2 (.var 774) (.limb 4 2))
 (.lett 780 (.int .u64) (.put (.var 2) 3 (.var 774) (.limb 4 3))
 (.lett 781 (.int .u64) (.put (.var 2) 4 (.var 774) (.limb 4 4))
 (.lett 782 (.int .u64) (.put (.var 2) 5 (.var 774) (.limb 4 5))
 (.lett 783 .bit (.cmp .lss (.var 294) (.var 3))
 (.split 783
  (.lett 784 (.int .i64) (.bin .add .i64 (.var 2) (.lit 1))
  (.lett 785 .num (.join [(.var 777), (.var 778), (.var 779), (.var 780), (.var 781), (.var 782)])
  (.back 0 [(.var 784), (.lit 1), (.var 785)])))
  (.split 678
   (.lett 784 (.int .i64) (.bin .add .i64 (.var 2) (.lit 1))
   (.lett 785 .num (.join [(.var 777), (.var 778), (.var 779), (.var 780), (.var 781), (.var 782)])
   (.back 0 [(.var 784), (.lit 1), (.var 785)])))
   (.lett 784 (.int .i64) (.bin .add .i64 (.var 2) (.lit 1))
   (.lett 785 .num (.join [(.var 777), (.var 778), (.var 779), (.var 780), (.var 781), (.var 782)])
   (.back 0 [(.var 784), (.lit 0), (.var 785)])))))))))))))))))))))))))))))))))))))))
 (.lett 6 .bit (.cmp .eql (.var 3) (.lit 1))
 (.ret [(.var 4), (.var 6)])))))
theorem law_refSub (f : FuncId) (e : Nat → Int) (hk : kkHas [.num, .num] [e 0, e 1]) : tRefSub.says [] ⟨fun ys => ys = (kWSub f).sem [e 0, e 1], []⟩ e := by
  obtain ⟨h0, h1, _⟩ := hk
  simp only [tRefSub, kWSub, Tree.says, List.getElem?_cons_zero, List.getElem?_cons_succ, List.map, ev_lit, ev_var, ev_limb, D.ev, List.getD_cons_zero, List.getD_cons_succ]
  refine ⟨SubI (e 0) (e 1), cntM, ⟨0, rfl, by decide, by decide, by decide, by decide, by rw [q0]; decide, by rw [q0]; omega⟩, fun e' he hkk hI => ?_⟩
  obtain ⟨k, i1, i2, i3, i4, i5, i6, i7⟩ : SubI (e 0) (e 1) [e' 2, e' 3, e' 4] := hI
  obtain ⟨_, _, k3, _⟩ : kkHas [.int .i64, .int .u64, .num] [e' 2, e' 3, e' 4] := hkk
  simp only [KK.has] at k3
  intro a5 _
  have b5 := c_lt a5
  refine ⟨fun hs => ?_, fun hs => ?_⟩
  · have hk6 : k < 6 := by omega
    rw [he 0 (by decide), he 1 (by decide), sel6 (e 0) i1 hk6, sel6 (e 1) i1 hk6]
    intro g1 _ g2 _
    refine ⟨bit_nz g1 (by omega), lt_nz g2 (by omega), ?_⟩
    intro s1 _ g1 _ g2 _
    refine ⟨bit_nz g1 (by omega), lt_nz g2 (by omega), ?_⟩
    intro s2 _ s3 _ g1 _ g2 _
    refine ⟨bit_nz g1 (by omega), lt_nz g2 (by omega), ?_⟩
    intro s4 _ g1 _ g2 _
    refine ⟨bit_nz g1 (by omega), lt_nz g2 (by omega), ?_⟩
    intro s4' _ v1 _ s5 k5 g1 _ g2 _
    refine ⟨bit_nz g1 (by omega), lt_nz g2 (by omega), ?_⟩
    intro t0 _ t1 _ t2 _ t3 _ t4 _ t5 _ v2 _
    have j := put_join i1 hk6 k3 i6 t0 t1 t2 t3 t4 t5
    have w1 := c_lt v1
    have w2 := c_lt v2
    have la := lim_lt (e 0) k
    have lb := lim_lt (e 1) k
    simp only [binE, wr] at s3 s5
    have uo : U (e' 774) := has_u64 k5
    have fin : ∀ c', (c' = 1 ∧ (e' 783 = 1 ∨ e' 678 = 1) ∨ c' = 0 ∧ e' 783 = 0 ∧ e' 678 = 0) → SubI (e 0) (e 1) [(k : Int) + 1, c', e' 4 + e' 774 * p64 k] := fun c' hc => by
      obtain ⟨r1, r2, r3⟩ := sub_step' (c' := c') uo i5 i6 i7 (by unfold U at uo; clear t0 t1 t2 t3 t4 t5 j g1 g2 i7; omega)
      exact ⟨k + 1, by omega, by omega, by omega, by omega, r1, r2, r3⟩
    have mm : cntM [(k : Int) + 1, 0, 0] < cntM [(k : Int), 0, 0] := by simp only [cntM]; omega
    refine ⟨fun n1 => ?_, fun n1 => ⟨fun n2 => ?_, fun n2 => ?_⟩⟩
    · intro x1 _ x2 _
      have x1' : e' 784 = k + 1 := by rw [x1]; simp only [binE, wr]; omega
      show SubI (e 0) (e 1) [e' 784, 1, e' 785] ∧ cntM [e' 784, 1, e' 785] < cntM [e' 2, e' 3, e' 4]
      rw [x2, j, x1', i1]
      exact ⟨fin 1 (.inl ⟨rfl, by omega⟩), mm⟩
    · intro x1 _ x2 _
      have x1' : e' 784 = k + 1 := by rw [x1]; simp only [binE, wr]; omega
      show SubI (e 0) (e 1) [e' 784, 1, e' 785] ∧ cntM [e' 784, 1, e' 785] < cntM [e' 2, e' 3, e' 4]
      rw [x2, j, x1', i1]
      exact ⟨fin 1 (.inl ⟨rfl, by omega⟩), mm⟩
    · intro x1 _ x2 _
      have x1' : e' 784 = k + 1 := by rw [x1]; simp only [binE, wr]; omega
      show SubI (e 0) (e 1) [e' 784, 0, e' 785] ∧ cntM [e' 784, 0, e' 785] < cntM [e' 2, e' 3, e' 4]
      rw [x2, j, x1', i1]
      exact ⟨fin 0 (.inr ⟨rfl, by omega, by omega⟩), mm⟩
  · intro a6 _
    have b6 := c_eq a6
    have hk6 : k = 6 := by omega
    subst hk6
    rw [q6, Int.emod_eq_of_lt h0.1 h0.2, Int.emod_eq_of_lt h1.1 h1.2] at i7
    rw [q6] at i6
    have r1 : (e 0 - e 1) % N384 = e' 4 := md_eq (-(e' 3)) (by rw [← i7]; grind) i5 i6
    rw [r1]
    congr 2
    unfold bi
    have hc : e' 3 = 0 ∨ e' 3 = 1 := by omega
    rcases hc with hc | hc <;> rw [hc] at i7 b6 <;> split <;> omega
end Go.Sx
