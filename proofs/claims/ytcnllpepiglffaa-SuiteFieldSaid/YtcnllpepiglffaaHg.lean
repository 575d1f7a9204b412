/- The law of SuiteField (printed by gfield.py). -/
import Derived.Test.YtcnllpepiglffaaHf
namespace Go.Sx
open Go Go.RowKit
set_option maxRecDepth 100000
set_option linter.unusedSimpArgs false
set_option linter.unusedVariables false
def tField11 : Tree := (.req 0 []
(.lett 4 .bit (.app 0 0 [])
(.lett 5 .bit (.cmp .lss (.var 0) (.lit 0))
(.split 5
 (.ret [(.var 4)])
 (.lett 6 .bit (.cmp .gtr (.var 0) (.lit 2))
 (.split 6
  (.ret [(.var 4)])
  (.req 1 [(.var 0)]
  (.lett 7 .num (.app 1 0 [(.var 0)])
  (.lett 8 (.int .i64) (.app 1 1 [(.var 0)])
  (.req 2 [(.var 1), (.var 7)]
  (.lett 249 .num (.app 2 0 [(.var 1), (.var 7)])
  (.lett 250 .num (.app 2 1 [(.var 1), (.var 7)])
  (.lett 251 (.int .i64) (.app 2 2 [(.var 1), (.var 7)])
  (.lett 729 (.int .i64) (.llen (.lit 0))
  (.lett 730 .bit (.cmp .lss (.var 729) (.lit 4294967296))
  (.nz (.var 730)
  (.lett 731 (.lst .num) (.lapp (.lit 0) [(.var 250)])
  (.req 2 [(.var 2), (.var 7)]
  (.lett 972 .num (.app 2 0 [(.var 2), (.var 7)])
  (.lett 973 .num (.app 2 1 [(.var 2), (.var 7)])
  (.lett 974 (.int .i64) (.app 2 2 [(.var 2), (.var 7)])
  (.lett 1452 (.int .i64) (.llen (.var 731))
  (.lett 1453 .bit (.cmp .lss (.var 1452) (.lit 4294967296))
  (.nz (.var 1453)
  (.lett 1454 (.lst .num) (.lapp (.var 731) [(.var 973)])
  (.req 2 [(.var 3), (.var 7)]
  (.lett 1695 .num (.app 2 0 [(.var 3), (.var 7)])
  (.lett 1696 .num (.app 2 1 [(.var 3), (.var 7)])
  (.lett 1697 (.int .i64) (.app 2 2 [(.var 3), (.var 7)])
  (.lett 2175 (.int .i64) (.llen (.var 1454))
  (.lett 2176 .bit (.cmp .lss (.var 2175) (.lit 4294967296))
  (.nz (.var 2176)
  (.lett 2177 (.lst .num) (.lapp (.var 1454) [(.var 1696)])
  (.lett 2178 (.int .i64) (.llen (.var 2177))
  (.lett 2179 .bit (.cmp .neq (.var 2178) (.lit 3))
  (.split 2179
   (.ret [(.lit 0)])
   (.lett 2276 (.int .i64) (.llen (.var 2177))
   (.lett 2277 .bit (.cmp .leq (.lit 0) (.lit 0))
   (.lett 2278 .bit (.cmp .lss (.lit 0) (.var 2276))
   (.nz (.var 2277)
   (.nz (.var 2278)
   (.lett 2324 .num (.lget (.var 2177) (.lit 0))
   (.lett 2420 (.int .i64) (.llen (.var 2177))
   (.lett 2421 .bit (.cmp .leq (.lit 0) (.lit 1))
   (.lett 2422 .bit (.cmp .lss (.lit 1) (.var 2420))
   (.nz (.var 2421)
   (.nz (.var 2422)
   (.lett 2468 .num (.lget (.var 2177) (.lit 1))
   (.req 3 [(.var 0), (.var 2324), (.var 2468)]
   (.lett 2516 .num (.app 3 0 [(.var 0), (.var 2324), (.var 2468)])
   (.lett 2517 (.int .i64) (.app 3 1 [(.var 0), (.var 2324), (.var 2468)])
   (.lett 2948 (.int .i64) (.llen (.var 2177))
   (.lett 2949 .bit (.cmp .leq (.lit 0) (.lit 1))
   (.lett 2950 .bit (.cmp .lss (.lit 1) (.var 2948))
   (.nz (.var 2949)
   (.nz (.var 2950)
   (.lett 2996 .num (.lget (.var 2177) (.lit 1))
   (.lett 3092 (.int .i64) (.llen (.var 2177))
   (.lett 3093 .bit (.cmp .leq (.lit 0) (.lit 0))
   (.lett 3094 .bit (.cmp .lss (.lit 0) (.var 3092))
   (.nz (.var 3093)
   (.nz (.var 3094)
   (.lett 3140 .num (.lget (.var 2177) (.lit 0))
   (.req 3 [(.var 0), (.var 2996), (.var 3140)]
   (.lett 3188 .num (.app 3 0 [(.var 0), (.var 2996), (.var 3140)])
   (.lett 3189 (.int .i64) (.app 3 1 [(.var 0), (.var 2996), (.var 3140)])
   (.lett 3668 (.int .i64) (.llen (.var 2177))
   (.lett 3669 .bit (.cmp .leq (.lit 0) (.lit 2))
   (.lett 3670 .bit (.cmp .lss (.lit 2) (.var 3668))
   (.nz (.var 3669)
   (.nz (.var 3670)
   (.lett 3716 .num (.lget (.var 2177) (.lit 2))
   (.req 3 [(.var 0), (.var 2516), (.var 3716)]
   (.lett 3764 .num (.app 3 0 [(.var 0), (.var 2516), (.var 3716)])
   (.lett 3765 (.int .i64) (.app 3 1 [(.var 0), (.var 2516), (.var 3716)])
   (.lett 4196 (.int .i64) (.llen (.var 2177))
   (.lett 4197 .bit (.cmp .leq (.lit 0) (.lit 1))
   (.lett 4198 .bit (.cmp .lss (.lit 1) (.var 4196))
   (.nz (.var 4197)
   (.nz (.var 4198)
   (.lett 4244 .num (.lget (.var 2177) (.lit 1))
   (.lett 4340 (.int .i64) (.llen (.var 2177))
   (.lett 4341 .bit (.cmp .leq (.lit 0) (.lit 2))
   (.lett 4342 .bit (.cmp .lss (.lit 2) (.var 4340))
   (.nz (.var 4341)
   (.nz (.var 4342)
   (.lett 4388 .num (.lget (.var 2177) (.lit 2))
   (.req 3 [(.var 0), (.var 4244), (.var 4388)]
   (.lett 4436 .num (.app 3 0 [(.var 0), (.var 4244), (.var 4388)])
   (.lett 4437 (.int .i64) (.app 3 1 [(.var 0), (.var 4244), (.var 4388)])
   (.lett 4868 (.int .i64) (.llen (.var 2177))
   (.lett 4869 .bit (.cmp .leq (.lit 0) (.lit 0))
   (.lett 4870 .bit (.cmp .lss (.lit 0) (.var 4868))
   (.nz (.var 4869)
   (.nz (.var 4870)
   (.lett 4916 .num (.lget (.var 2177) (.lit 0))
   (.req 3 [(.var 0), (.var 4916), (.var 4436)]
   (.lett 5012 .num (.app 3 0 [(.var 0), (.var 4916), (.var 4436)])
   (.lett 5013 (.int .i64) (.app 3 1 [(.var 0), (.var 4916), (.var 4436)])
   (.lett 5444 (.int .i64) (.llen (.var 2177))
   (.lett 5445 .bit (.cmp .leq (.lit 0) (.lit 0))
   (.lett 5446 .bit (.cmp .lss (.lit 0) (.var 5444))
   (.nz (.var 5445)
   (.nz (.var 5446)
   (.lett 5492 .num (.lget (.var 2177) (.lit 0))
   (.lett 5588 (.int .i64) (.llen (.var 2177))
   (.lett 5589 .bit (.cmp .leq (.lit 0) (.lit 1))
   (.lett 5590 .bit (.cmp .lss (.lit 1) (.var 5588))
   (.nz (.var 5589)
   (.nz (.var 5590)
   (.lett 5636 .num (.lget (.var 2177) (.lit 1))
   (.req 4 [(.var 0), (.var 5492), (.var 5636)]
   (.lett 5684 .num (.app 4 0 [(.var 0), (.var 5492), (.var 5636)])
   (.lett 5685 (.int .i64) (.app 4 1 [(.var 0), (.var 5492), (.var 5636)])
   (.lett 6164 (.int .i64) (.llen (.var 2177))
   (.lett 6165 .bit (.cmp .leq (.lit 0) (.lit 2))
   (.lett 6166 .bit (.cmp .lss (.lit 2) (.var 6164))
   (.nz (.var 6165)
   (.nz (.var 6166)
   (.lett 6212 .num (.lget (.var 2177) (.lit 2))
   (.req 3 [(.var 0), (.var 5684), (.var 6212)]
   (.lett 6260 .num (.app 3 0 [(.var 0), (.var 5684), (.var 6212)])
   (.lett 6261 (.int .i64) (.app 3 1 [(.var 0), (.var 5684), (.var 6212)])
   (.lett 6692 (.int .i64) (.llen (.var 2177))
   (.lett 6693 .bit (.cmp .leq (.lit 0) (.lit 0))
   (.lett 6694 .bit (.cmp .lss (.lit 0) (.var 6692))
   (.nz (.var 6693)
   (.nz (.var 6694)
   (.lett 6740 .num (.lget (.var 2177) (.lit 0))
   (.lett 6836 (.int .i64) (.llen (.var 2177))
   (.lett 6837 .bit (.cmp .leq (.lit 0) (.lit 2))
   (.lett 6838 .bit (.cmp .lss (.lit 2) (.var 6836))
   (.nz (.var 6837)
   (.nz (.var 6838)
   (.lett 6884 .num (.lget (.var 2177) (.lit 2))
   (.req 3 [(.var 0), (.var 6740), (.var 6884)]
   (.lett 6932 .num (.app 3 0 [(.var 0), (.var 6740), (.var 6884)])
   (.lett 6933 (.int .i64) (.app 3 1 [(.var 0), (.var 6740), (.var 6884)])
   (.req 4 [(.var 0), (.var 6932), (.var 4436)]
   (.lett 7268 .num (.app 4 0 [(.var 0), (.var 6932), (.var 4436)])
   (.lett 7269 (.int .i64) (.app 4 1 [(.var 0), (.var 6932), (.var 4436)])
   (.lett 7414 (.int .i64) (.llen (.var 2177))
   (.lett 7415 .bit (.cmp .leq (.lit 0) (.lit 1))
   (.lett 7416 .bit (.cmp .lss (.lit 1) (.var 7414))
   (.nz (.var 7415)
   (.nz (.var 7416)
   (.lett 7462 .num (.lget (.var 2177) (.lit 1))
   (.req 5 [(.var 0), (.var 5684), (.var 7462)]
   (.lett 7510 .num (.app 5 0 [(.var 0), (.var 5684), (.var 7462)])
   (.lett 7511 (.int .i64) (.app 5 1 [(.var 0), (.var 5684), (.var 7462)])
   (.lett 7846 (.int .i64) (.llen (.var 2177))
   (.lett 7847 .bit (.cmp .leq (.lit 0) (.lit 0))
   (.lett 7848 .bit (.cmp .lss (.lit 0) (.var 7846))
   (.nz (.var 7847)
   (.nz (.var 7848)
   (.lett 7849 .num (.lget (.var 2177) (.lit 0))
   (.req 6 [(.var 0), (.var 7849)]
   (.lett 7850 .num (.app 6 0 [(.var 0), (.var 7849)])
   (.lett 7851 (.int .i64) (.app 6 1 [(.var 0), (.var 7849)])
   (.lett 7996 (.int .i64) (.llen (.var 2177))
   (.lett 7997 .bit (.cmp .leq (.lit 0) (.lit 0))
   (.lett 7998 .bit (.cmp .lss (.lit 0) (.var 7996))
   (.nz (.var 7997)
   (.nz (.var 7998)
   (.lett 8044 .num (.lget (.var 2177) (.lit 0))
   (.req 3 [(.var 0), (.var 7850), (.var 8044)]
   (.lett 8092 .num (.app 3 0 [(.var 0), (.var 7850), (.var 8044)])
   (.lett 8093 (.int .i64) (.app 3 1 [(.var 0), (.var 7850), (.var 8044)])
   (.split 4
    (.lett 8572 .bit (.cmp .eql (.var 2517) (.lit 0))
    (.split 8572
     (.lett 8812 .bit (.eqs [((.limb 2516 0), (.limb 3188 0)), ((.limb 2516 1), (.limb 3188 1)), ((.limb 2516 2), (.limb 3188 2)), ((.limb 2516 3), (.limb 3188 3)), ((.limb 2516 4), (.limb 3188 4)), ((.limb 2516 5), (.limb 3188 5))])
     (.split 8812
      (.lett 9052 .bit (.eqs [((.limb 3764 0), (.limb 5012 0)), ((.limb 3764 1), (.limb 5012 1)), ((.limb 3764 2), (.limb 5012 2)), ((.limb 3764 3), (.limb 5012 3)), ((.limb 3764 4), (.limb 5012 4)), ((.limb 3764 5), (.limb 5012 5))])
      (.split 9052
       (.lett 9292 .bit (.eqs [((.limb 6260 0), (.limb 7268 0)), ((.limb 6260 1), (.limb 7268 1)), ((.limb 6260 2), (.limb 7268 2)), ((.limb 6260 3), (.limb 7268 3)), ((.limb 6260 4), (.limb 7268 4)), ((.limb 6260 5), (.limb 7268 5))])
       (.split 9292
        (.lett 9532 (.int .i64) (.llen (.var 2177))
        (.lett 9533 .bit (.cmp .leq (.lit 0) (.lit 0))
        (.lett 9534 .bit (.cmp .lss (.lit 0) (.var 9532))
        (.nz (.var 9533)
        (.nz (.var 9534)
        (.lett 9580 .num (.lget (.var 2177) (.lit 0))
        (.lett 9628 .bit (.eqs [((.limb 7510 0), (.limb 9580 0)), ((.limb 7510 1), (.limb 9580 1)), ((.limb 7510 2), (.limb 9580 2)), ((.limb 7510 3), (.limb 9580 3)), ((.limb 7510 4), (.limb 9580 4)), ((.limb 7510 5), (.limb 9580 5))])
        (.split 9628
         (.lett 9820 .bit (.cmp .eql (.var 7851) (.lit 6))
         (.lett 9916 (.int .i64) (.llen (.var 2177))
         (.lett 9917 .bit (.cmp .leq (.lit 0) (.lit 0))
         (.lett 9918 .bit (.cmp .lss (.lit 0) (.var 9916))
         (.nz (.var 9917)
         (.nz (.var 9918)
         (.lett 9964 .num (.lget (.var 2177) (.lit 0))
         (.lett 10060 .bit (.eqs [((.limb 9964 0), (.lit 0)), ((.limb 9964 1), (.lit 0)), ((.limb 9964 2), (.lit 0)), ((.limb 9964 3), (.lit 0)), ((.limb 9964 4), (.lit 0)), ((.limb 9964 5), (.lit 0))])
         (.lett 10108 .bit (.cmp .eql (.var 9820) (.var 10060))
         (.split 10108
          (.lett 10300 .bit (.cmp .neq (.var 7851) (.lit 0))
          (.split 10300
           (.ret [(.lit 1)])
           (.req 7 [(.lit 1)]
           (.lett 10444 .num (.app 7 0 [(.lit 1)])
           (.lett 10492 .bit (.eqs [((.limb 8092 0), (.limb 10444 0)), ((.limb 8092 1), (.limb 10444 1)), ((.limb 8092 2), (.limb 10444 2)), ((.limb 8092 3), (.limb 10444 3)), ((.limb 8092 4), (.limb 10444 4)), ((.limb 8092 5), (.limb 10444 5))])
           (.ret [(.var 10492)]))))))
          (.ret [(.lit 0)])))))))))))
         (.ret [(.lit 0)])))))))))
        (.ret [(.lit 0)])))
       (.ret [(.lit 0)])))
      (.ret [(.lit 0)])))
     (.ret [(.lit 0)])))
    (.ret [(.lit 0)]))))))))))))))))))))))))))))))))))))))))))))))))))))))))))))))))))))))))))))))))))))))))))))))))))))))))))))))))))))))))))))))))))))))))))))))))))))))))))))))))))))))))))
def kFieldLaw (f : FuncId) : K := { fn := f, ext := false, ins := [iI, iN, iN, iN], outs := [oB], pre := fun _ => True, sem := fun _ => [1] }
noncomputable def TField (fs : Nat → FuncId) : List K := [kAwake (fs 0), kSOrder (fs 1), kDivide (fs 2), kS2 (fs 3) (· * ·), kS2 (fs 4) (· + ·), kS2 (fs 5) (· - ·), kSInv (fs 6), kOf (fs 7)]
theorem dv_rest {a b : Int} (h : 3 ≤ b) : ((kDivide 0).sem [a, b]).getD 1 0 = a % b := by
  simp only [kDivide]; rw [if_neg (by omega)]; rfl
theorem s2_r {op : Int → Int → Int} {s a b r : Int} (hr : rOf s = r) (h : isS s) (ha : a < r) (hb : b < r) : (sem2 op [s, a, b]).getD 0 0 = op a b % r := by
  subst hr; exact (s2_yes ⟨h, ha, hb⟩).1
theorem s2_e {op : Int → Int → Int} {s a b r : Int} (hr : rOf s = r) (h : isS s) (ha : a < r) (hb : b < r) : (sem2 op [s, a, b]).getD 1 0 = 0 := by
  subst hr; exact (s2_yes ⟨h, ha, hb⟩).2
theorem inv_v {s a r : Int} (hr : rOf s = r) (hF : FermatAll) (h : isS s) (ha : a < r) (hz : ¬ a = 0) (h1 : 0 ≤ a ∧ a < N384) : ((kSInv 0).sem [s, a]).getD 0 0 = a ^ (r - 2).toNat % r := by
  subst hr; exact (si_yes hF h ha hz h1).1
theorem inv_e {s a r : Int} (hr : rOf s = r) (hF : FermatAll) (h : isS s) (ha : a < r) (hz : ¬ a = 0) (h1 : 0 ≤ a ∧ a < N384) : ((kSInv 0).sem [s, a]).getD 1 0 = 0 := by
  subst hr; exact (si_yes hF h ha hz h1).2
theorem llen0 {e : Nat → Int} {T : List K} : D.ev T e (.llen (.lit 0)) = 0 := by simp [D.ev, A.ev, dec_zero]
theorem llen_of {e : Nat → Int} {T : List K} {n : Nat} {l : List Int} (h : dec (e n) = l) : D.ev T e (.llen (.var n)) = (l.length : Int) := by simp [D.ev, A.ev, h]
theorem lget_of {e : Nat → Int} {T : List K} {n : Nat} {l : List Int} {i v : Int} (h : dec (e n) = l) (hv : l.getD i.toNat 0 = v) : D.ev T e (.lget (.var n) (.lit i)) = v := by simp only [D.ev, A.ev, h, hv]
theorem lapp_of {e : Nat → Int} {T : List K} {v y : Int} {x : A} {n : Nat} {l : List Int} (h : v = D.ev T e (.lapp x [.var n])) (hx : dec (x.ev e) = l) (hy : e n = y) : dec v = l ++ [y] := by
  rw [h]; show dec (enc (dec (x.ev e) ++ [e n])) = _
  rw [dec_enc, hx, hy]
theorem f_inv {s a r : Int} (hr : rOf s = r) (hF : FermatAll) (h : isS s) (h0 : 0 < a) (ha : a < r) : (a ^ (r - 2).toNat % r) * a % r = 1 := by
  subst hr; rw [Int.mul_comm]; exact hF s a h h0 ha
theorem inv_x {s a r : Int} (hr : rOf s = r) (hF : FermatAll) (h : isS s) (ha : a < r) (hz : ¬ a = 0) (h1 : 0 ≤ a ∧ a < N384) (hp : 0 < r) : ∃ X, ((kSInv 0).sem [s, a]).getD 0 0 = X ∧ X * a % r = 1 ∧ ((kSInv 0).sem [s, a]).getD 1 0 = 0 ∧ X < r :=
  ⟨_, inv_v hr hF h ha hz h1, f_inv hr hF h (by omega) ha, inv_e hr hF h ha hz h1, (md_lt hp).2⟩
theorem em1 {a b r : Int} : a % r * b % r = a * b % r := by rw [Int.mul_emod, Int.emod_emod, ← Int.mul_emod]
theorem em2 {a b r : Int} : a * (b % r) % r = a * b % r := by rw [Int.mul_emod, Int.emod_emod, ← Int.mul_emod]
theorem f_assoc {a b c r : Int} : ((a * b) % r * c) % r = (a * ((b * c) % r)) % r := by
  rw [em1, em2, Int.mul_assoc]
theorem f_dist {a b c r : Int} : ((a + b) % r * c) % r = ((a * c) % r + (b * c) % r) % r := by
  rw [em1, ← Int.add_emod, Int.add_mul]
theorem f_sub {a b r : Int} (h0 : 0 ≤ a) (h : a < r) : ((a + b) % r - b) % r = a := by
  rw [Int.emod_sub_emod, Int.add_sub_cancel]; exact Int.emod_eq_of_lt h0 h
theorem field_z (hF : FermatAll) (fs : Nat → FuncId) (e : Nat → Int) (his : isS (e 0)) {A B C r : Int} (hr : rOf (e 0) = r) (hA : e 1 % r = A) (hB : e 2 % r = B) (hC : e 3 % r = C) (hz : A = 0) : tField11.says (TField fs) ⟨fun ys => ys = [1], []⟩ e := by
  have hr1 := rOf_ok his
  rw [hr] at hr1
  have hr0 : 3 ≤ r := hr1.2.1
  have rpos : 0 < r := by omega
  have lt : ∀ x : Int, x % r < r := fun x => (md_lt rpos).2
  have bA : A < r := by rw [← hA]; exact lt _
  have bA0 : 0 ≤ A := by rw [← hA]; exact (md_lt rpos).1
  have bB : B < r := by rw [← hB]; exact lt _
  have bC : C < r := by rw [← hC]; exact lt _
  have hrN : r < N384 := by have := hr1.2.2; rw [p382] at this; unfold N384; omega
  have b1 : 0 ≤ A ∧ A < N384 := ⟨bA0, by omega⟩
  have is2 : 0 ≤ e 0 ∧ e 0 ≤ 2 := his
  unfold tField11
  refine ⟨trivial, ?_⟩
  intro a4 k4
  have v4 : e 4 = 1 := a4
  intro a5 k5
  have b5 := c_lt a5
  simp only [ev_lit, ev_var] at b5
  refine ⟨fun h => by omega, fun _ => ?_⟩
  intro a6 k6
  have b6 := c_gt a6
  simp only [ev_lit, ev_var] at b6
  refine ⟨fun h => by omega, fun _ => ?_⟩
  refine ⟨trivial, ?_⟩
  intro a7 k7
  have v7 : e 7 = r := (a7.trans (so_yes his).1).trans hr
  intro a8 k8
  refine ⟨trivial, ?_⟩
  intro a249 k249
  intro a250 k250
  have v250 : e 250 = A := by
    have q : e 250 = ((kDivide 0).sem [e 1, e 7]).getD 1 0 := a250
    rw [q, v7, dv_rest hr0]; exact hA
  intro a251 k251
  intro a729 k729
  have l729 : e 729 = 0 := a729.trans llen0
  intro a730 k730
  have z730 : e 730 ≠ 0 := by have := c_lt a730; simp only [ev_lit, ev_var] at this; omega
  refine ⟨z730, ?_⟩
  intro a731 k731
  have d731 : dec (e 731) = [A] := lapp_of a731 dec_zero v250
  refine ⟨trivial, ?_⟩
  intro a972 k972
  intro a973 k973
  have v973 : e 973 = B := by
    have q : e 973 = ((kDivide 0).sem [e 2, e 7]).getD 1 0 := a973
    rw [q, v7, dv_rest hr0]; exact hB
  intro a974 k974
  intro a1452 k1452
  have l1452 : e 1452 = 1 := a1452.trans (llen_of d731)
  intro a1453 k1453
  have z1453 : e 1453 ≠ 0 := by have := c_lt a1453; simp only [ev_lit, ev_var] at this; omega
  refine ⟨z1453, ?_⟩
  intro a1454 k1454
  have d1454 : dec (e 1454) = [A, B] := lapp_of a1454 d731 v973
  refine ⟨trivial, ?_⟩
  intro a1695 k1695
  intro a1696 k1696
  have v1696 : e 1696 = C := by
    have q : e 1696 = ((kDivide 0).sem [e 3, e 7]).getD 1 0 := a1696
    rw [q, v7, dv_rest hr0]; exact hC
  intro a1697 k1697
  intro a2175 k2175
  have l2175 : e 2175 = 2 := a2175.trans (llen_of d1454)
  intro a2176 k2176
  have z2176 : e 2176 ≠ 0 := by have := c_lt a2176; simp only [ev_lit, ev_var] at this; omega
  refine ⟨z2176, ?_⟩
  intro a2177 k2177
  have d2177 : dec (e 2177) = [A, B, C] := lapp_of a2177 d1454 v1696
  intro a2178 k2178
  have l2178 : e 2178 = 3 := a2178.trans (llen_of d2177)
  intro a2179 k2179
  have v2179 : e 2179 = 0 := by have := c_ne a2179; simp only [ev_lit, ev_var] at this; omega
  refine ⟨fun h => absurd v2179 h, fun _ => ?_⟩
  intro a2276 k2276
  have l2276 : e 2276 = 3 := a2276.trans (llen_of d2177)
  intro a2277 k2277
  have z2277 : e 2277 ≠ 0 := by have := c_le a2277; simp only [ev_lit, ev_var] at this; omega
  intro a2278 k2278
  have z2278 : e 2278 ≠ 0 := by have := c_lt a2278; simp only [ev_lit, ev_var] at this; omega
  refine ⟨z2277, ?_⟩
  refine ⟨z2278, ?_⟩
  intro a2324 k2324
  have v2324 : e 2324 = A := a2324.trans (lget_of d2177 rfl)
  intro a2420 k2420
  have l2420 : e 2420 = 3 := a2420.trans (llen_of d2177)
  intro a2421 k2421
  have z2421 : e 2421 ≠ 0 := by have := c_le a2421; simp only [ev_lit, ev_var] at this; omega
  intro a2422 k2422
  have z2422 : e 2422 ≠ 0 := by have := c_lt a2422; simp only [ev_lit, ev_var] at this; omega
  refine ⟨z2421, ?_⟩
  refine ⟨z2422, ?_⟩
  intro a2468 k2468
  have v2468 : e 2468 = B := a2468.trans (lget_of d2177 rfl)
  refine ⟨trivial, ?_⟩
  intro a2516 k2516
  have v2516 : e 2516 = (A * B) % r := by
    have q : e 2516 = (sem2 (· * ·) [e 0, e 2324, e 2468]).getD 0 0 := a2516
    rw [q, v2324, v2468]
    exact s2_r hr his (bA) (bB)
  intro a2517 k2517
  have v2517 : e 2517 = 0 := by
    have q : e 2517 = (sem2 (· * ·) [e 0, e 2324, e 2468]).getD 1 0 := a2517
    rw [q, v2324, v2468]
    exact s2_e hr his (bA) (bB)
  intro a2948 k2948
  have l2948 : e 2948 = 3 := a2948.trans (llen_of d2177)
  intro a2949 k2949
  have z2949 : e 2949 ≠ 0 := by have := c_le a2949; simp only [ev_lit, ev_var] at this; omega
  intro a2950 k2950
  have z2950 : e 2950 ≠ 0 := by have := c_lt a2950; simp only [ev_lit, ev_var] at this; omega
  refine ⟨z2949, ?_⟩
  refine ⟨z2950, ?_⟩
  intro a2996 k2996
  have v2996 : e 2996 = B := a2996.trans (lget_of d2177 rfl)
  intro a3092 k3092
  have l3092 : e 3092 = 3 := a3092.trans (llen_of d2177)
  intro a3093 k3093
  have z3093 : e 3093 ≠ 0 := by have := c_le a3093; simp only [ev_lit, ev_var] at this; omega
  intro a3094 k3094
  have z3094 : e 3094 ≠ 0 := by have := c_lt a3094; simp only [ev_lit, ev_var] at this; omega
  refine ⟨z3093, ?_⟩
  refine ⟨z3094, ?_⟩
  intro a3140 k3140
  have v3140 : e 3140 = A := a3140.trans (lget_of d2177 rfl)
  refine ⟨trivial, ?_⟩
  intro a3188 k3188
  have v3188 : e 3188 = (B * A) % r := by
    have q : e 3188 = (sem2 (· * ·) [e 0, e 2996, e 3140]).getD 0 0 := a3188
    rw [q, v2996, v3140]
    exact s2_r hr his (bB) (bA)
  intro a3189 k3189
  intro a3668 k3668
  have l3668 : e 3668 = 3 := a3668.trans (llen_of d2177)
  intro a3669 k3669
  have z3669 : e 3669 ≠ 0 := by have := c_le a3669; simp only [ev_lit, ev_var] at this; omega
  intro a3670 k3670
  have z3670 : e 3670 ≠ 0 := by have := c_lt a3670; simp only [ev_lit, ev_var] at this; omega
  refine ⟨z3669, ?_⟩
  refine ⟨z3670, ?_⟩
  intro a3716 k3716
  have v3716 : e 3716 = C := a3716.trans (lget_of d2177 rfl)
  refine ⟨trivial, ?_⟩
  intro a3764 k3764
  have v3764 : e 3764 = (((A * B) % r) * C) % r := by
    have q : e 3764 = (sem2 (· * ·) [e 0, e 2516, e 3716]).getD 0 0 := a3764
    rw [q, v2516, v3716]
    exact s2_r hr his (lt _) (bC)
  intro a3765 k3765
  intro a4196 k4196
  have l4196 : e 4196 = 3 := a4196.trans (llen_of d2177)
  intro a4197 k4197
  have z4197 : e 4197 ≠ 0 := by have := c_le a4197; simp only [ev_lit, ev_var] at this; omega
  intro a4198 k4198
  have z4198 : e 4198 ≠ 0 := by have := c_lt a4198; simp only [ev_lit, ev_var] at this; omega
  refine ⟨z4197, ?_⟩
  refine ⟨z4198, ?_⟩
  intro a4244 k4244
  have v4244 : e 4244 = B := a4244.trans (lget_of d2177 rfl)
  intro a4340 k4340
  have l4340 : e 4340 = 3 := a4340.trans (llen_of d2177)
  intro a4341 k4341
  have z4341 : e 4341 ≠ 0 := by have := c_le a4341; simp only [ev_lit, ev_var] at this; omega
  intro a4342 k4342
  have z4342 : e 4342 ≠ 0 := by have := c_lt a4342; simp only [ev_lit, ev_var] at this; omega
  refine ⟨z4341, ?_⟩
  refine ⟨z4342, ?_⟩
  intro a4388 k4388
  have v4388 : e 4388 = C := a4388.trans (lget_of d2177 rfl)
  refine ⟨trivial, ?_⟩
  intro a4436 k4436
  have v4436 : e 4436 = (B * C) % r := by
    have q : e 4436 = (sem2 (· * ·) [e 0, e 4244, e 4388]).getD 0 0 := a4436
    rw [q, v4244, v4388]
    exact s2_r hr his (bB) (bC)
  intro a4437 k4437
  intro a4868 k4868
  have l4868 : e 4868 = 3 := a4868.trans (llen_of d2177)
  intro a4869 k4869
  have z4869 : e 4869 ≠ 0 := by have := c_le a4869; simp only [ev_lit, ev_var] at this; omega
  intro a4870 k4870
  have z4870 : e 4870 ≠ 0 := by have := c_lt a4870; simp only [ev_lit, ev_var] at this; omega
  refine ⟨z4869, ?_⟩
  refine ⟨z4870, ?_⟩
  intro a4916 k4916
  have v4916 : e 4916 = A := a4916.trans (lget_of d2177 rfl)
  refine ⟨trivial, ?_⟩
  intro a5012 k5012
  have v5012 : e 5012 = (A * ((B * C) % r)) % r := by
    have q : e 5012 = (sem2 (· * ·) [e 0, e 4916, e 4436]).getD 0 0 := a5012
    rw [q, v4916, v4436]
    exact s2_r hr his (bA) (lt _)
  intro a5013 k5013
  intro a5444 k5444
  have l5444 : e 5444 = 3 := a5444.trans (llen_of d2177)
  intro a5445 k5445
  have z5445 : e 5445 ≠ 0 := by have := c_le a5445; simp only [ev_lit, ev_var] at this; omega
  intro a5446 k5446
  have z5446 : e 5446 ≠ 0 := by have := c_lt a5446; simp only [ev_lit, ev_var] at this; omega
  refine ⟨z5445, ?_⟩
  refine ⟨z5446, ?_⟩
  intro a5492 k5492
  have v5492 : e 5492 = A := a5492.trans (lget_of d2177 rfl)
  intro a5588 k5588
  have l5588 : e 5588 = 3 := a5588.trans (llen_of d2177)
  intro a5589 k5589
  have z5589 : e 5589 ≠ 0 := by have := c_le a5589; simp only [ev_lit, ev_var] at this; omega
  intro a5590 k5590
  have z5590 : e 5590 ≠ 0 := by have := c_lt a5590; simp only [ev_lit, ev_var] at this; omega
  refine ⟨z5589, ?_⟩
  refine ⟨z5590, ?_⟩
  intro a5636 k5636
  have v5636 : e 5636 = B := a5636.trans (lget_of d2177 rfl)
  refine ⟨trivial, ?_⟩
  intro a5684 k5684
  have v5684 : e 5684 = (A + B) % r := by
    have q : e 5684 = (sem2 (· + ·) [e 0, e 5492, e 5636]).getD 0 0 := a5684
    rw [q, v5492, v5636]
    exact s2_r hr his (bA) (bB)
  intro a5685 k5685
  intro a6164 k6164
  have l6164 : e 6164 = 3 := a6164.trans (llen_of d2177)
  intro a6165 k6165
  have z6165 : e 6165 ≠ 0 := by have := c_le a6165; simp only [ev_lit, ev_var] at this; omega
  intro a6166 k6166
  have z6166 : e 6166 ≠ 0 := by have := c_lt a6166; simp only [ev_lit, ev_var] at this; omega
  refine ⟨z6165, ?_⟩
  refine ⟨z6166, ?_⟩
  intro a6212 k6212
  have v6212 : e 6212 = C := a6212.trans (lget_of d2177 rfl)
  refine ⟨trivial, ?_⟩
  intro a6260 k6260
  have v6260 : e 6260 = (((A + B) % r) * C) % r := by
    have q : e 6260 = (sem2 (· * ·) [e 0, e 5684, e 6212]).getD 0 0 := a6260
    rw [q, v5684, v6212]
    exact s2_r hr his (lt _) (bC)
  intro a6261 k6261
  intro a6692 k6692
  have l6692 : e 6692 = 3 := a6692.trans (llen_of d2177)
  intro a6693 k6693
  have z6693 : e 6693 ≠ 0 := by have := c_le a6693; simp only [ev_lit, ev_var] at this; omega
  intro a6694 k6694
  have z6694 : e 6694 ≠ 0 := by have := c_lt a6694; simp only [ev_lit, ev_var] at this; omega
  refine ⟨z6693, ?_⟩
  refine ⟨z6694, ?_⟩
  intro a6740 k6740
  have v6740 : e 6740 = A := a6740.trans (lget_of d2177 rfl)
  intro a6836 k6836
  have l6836 : e 6836 = 3 := a6836.trans (llen_of d2177)
  intro a6837 k6837
  have z6837 : e 6837 ≠ 0 := by have := c_le a6837; simp only [ev_lit, ev_var] at this; omega
  intro a6838 k6838
  have z6838 : e 6838 ≠ 0 := by have := c_lt a6838; simp only [ev_lit, ev_var] at this; omega
  refine ⟨z6837, ?_⟩
  refine ⟨z6838, ?_⟩
  intro a6884 k6884
  have v6884 : e 6884 = C := a6884.trans (lget_of d2177 rfl)
  refine ⟨trivial, ?_⟩
  intro a6932 k6932
  have v6932 : e 6932 = (A * C) % r := by
    have q : e 6932 = (sem2 (· * ·) [e 0, e 6740, e 6884]).getD 0 0 := a6932
    rw [q, v6740, v6884]
    exact s2_r hr his (bA) (bC)
  intro a6933 k6933
  refine ⟨trivial, ?_⟩
  intro a7268 k7268
  have v7268 : e 7268 = (((A * C) % r) + ((B * C) % r)) % r := by
    have q : e 7268 = (sem2 (· + ·) [e 0, e 6932, e 4436]).getD 0 0 := a7268
    rw [q, v6932, v4436]
    exact s2_r hr his (lt _) (lt _)
  intro a7269 k7269
  intro a7414 k7414
  have l7414 : e 7414 = 3 := a7414.trans (llen_of d2177)
  intro a7415 k7415
  have z7415 : e 7415 ≠ 0 := by have := c_le a7415; simp only [ev_lit, ev_var] at this; omega
  intro a7416 k7416
  have z7416 : e 7416 ≠ 0 := by have := c_lt a7416; simp only [ev_lit, ev_var] at this; omega
  refine ⟨z7415, ?_⟩
  refine ⟨z7416, ?_⟩
  intro a7462 k7462
  have v7462 : e 7462 = B := a7462.trans (lget_of d2177 rfl)
  refine ⟨trivial, ?_⟩
  intro a7510 k7510
  have v7510 : e 7510 = (((A + B) % r) - B) % r := by
    have q : e 7510 = (sem2 (· - ·) [e 0, e 5684, e 7462]).getD 0 0 := a7510
    rw [q, v5684, v7462]
    exact s2_r hr his (lt _) (bB)
  intro a7511 k7511
  intro a7846 k7846
  have l7846 : e 7846 = 3 := a7846.trans (llen_of d2177)
  intro a7847 k7847
  have z7847 : e 7847 ≠ 0 := by have := c_le a7847; simp only [ev_lit, ev_var] at this; omega
  intro a7848 k7848
  have z7848 : e 7848 ≠ 0 := by have := c_lt a7848; simp only [ev_lit, ev_var] at this; omega
  refine ⟨z7847, ?_⟩
  refine ⟨z7848, ?_⟩
  intro a7849 k7849
  have v7849 : e 7849 = A := a7849.trans (lget_of d2177 rfl)
  refine ⟨trivial, ?_⟩
  intro a7850 k7850
  have v7850 : e 7850 = 0 := by
    have q : e 7850 = ((kSInv 0).sem [e 0, e 7849]).getD 0 0 := a7850
    rw [q, v7849]
    exact (si_zero his hz).1
  intro a7851 k7851
  have v7851 : e 7851 = 6 := by
    have q : e 7851 = ((kSInv 0).sem [e 0, e 7849]).getD 1 0 := a7851
    rw [q, v7849]
    exact (si_zero his hz).2
  intro a7996 k7996
  have l7996 : e 7996 = 3 := a7996.trans (llen_of d2177)
  intro a7997 k7997
  have z7997 : e 7997 ≠ 0 := by have := c_le a7997; simp only [ev_lit, ev_var] at this; omega
  intro a7998 k7998
  have z7998 : e 7998 ≠ 0 := by have := c_lt a7998; simp only [ev_lit, ev_var] at this; omega
  refine ⟨z7997, ?_⟩
  refine ⟨z7998, ?_⟩
  intro a8044 k8044
  have v8044 : e 8044 = A := a8044.trans (lget_of d2177 rfl)
  refine ⟨trivial, ?_⟩
  intro a8092 k8092
  have v8092 : e 8092 = (0 * A) % r := by
    have q : e 8092 = (sem2 (· * ·) [e 0, e 7850, e 8044]).getD 0 0 := a8092
    rw [q, v7850, v8044]
    exact s2_r hr his (rpos) (bA)
  intro a8093 k8093
  refine ⟨fun _ => ?_, fun h => absurd (v4.symm.trans h) (by decide)⟩
  intro a8572 k8572
  have v8572 : e 8572 = 1 := by have := c_eq a8572; simp only [ev_lit, ev_var] at this; omega
  refine ⟨fun _ => ?_, fun h => absurd (v8572.symm.trans h) (by decide)⟩
  intro a8812 k8812
  have v8812 : e 8812 = 1 := cn_1 (c_num a8812 k2516 k3188) ((v2516.trans (congrArg (· % r) (Int.mul_comm A B))).trans v3188.symm)
  refine ⟨fun _ => ?_, fun h => absurd (v8812.symm.trans h) (by decide)⟩
  intro a9052 k9052
  have v9052 : e 9052 = 1 := cn_1 (c_num a9052 k3764 k5012) ((v3764.trans (f_assoc)).trans v5012.symm)
  refine ⟨fun _ => ?_, fun h => absurd (v9052.symm.trans h) (by decide)⟩
  intro a9292 k9292
  have v9292 : e 9292 = 1 := cn_1 (c_num a9292 k6260 k7268) ((v6260.trans (f_dist)).trans v7268.symm)
  refine ⟨fun _ => ?_, fun h => absurd (v9292.symm.trans h) (by decide)⟩
  intro a9532 k9532
  have l9532 : e 9532 = 3 := a9532.trans (llen_of d2177)
  intro a9533 k9533
  have z9533 : e 9533 ≠ 0 := by have := c_le a9533; simp only [ev_lit, ev_var] at this; omega
  intro a9534 k9534
  have z9534 : e 9534 ≠ 0 := by have := c_lt a9534; simp only [ev_lit, ev_var] at this; omega
  refine ⟨z9533, ?_⟩
  refine ⟨z9534, ?_⟩
  intro a9580 k9580
  have v9580 : e 9580 = A := a9580.trans (lget_of d2177 rfl)
  intro a9628 k9628
  have v9628 : e 9628 = 1 := cn_1 (c_num a9628 k7510 k9580) ((v7510.trans (f_sub bA0 bA)).trans v9580.symm)
  refine ⟨fun _ => ?_, fun h => absurd (v9628.symm.trans h) (by decide)⟩
  intro a9820 k9820
  have v9820 : e 9820 = 1 := by have := c_eq a9820; simp only [ev_lit, ev_var] at this; omega
  intro a9916 k9916
  have l9916 : e 9916 = 3 := a9916.trans (llen_of d2177)
  intro a9917 k9917
  have z9917 : e 9917 ≠ 0 := by have := c_le a9917; simp only [ev_lit, ev_var] at this; omega
  intro a9918 k9918
  have z9918 : e 9918 ≠ 0 := by have := c_lt a9918; simp only [ev_lit, ev_var] at this; omega
  refine ⟨z9917, ?_⟩
  refine ⟨z9918, ?_⟩
  intro a9964 k9964
  have v9964 : e 9964 = A := a9964.trans (lget_of d2177 rfl)
  intro a10060 k10060
  have v10060 : e 10060 = 1 := cn_1 (c_num0 a10060 k9964) (by rw [v9964]; exact hz)
  intro a10108 k10108
  have v10108 : e 10108 = 1 := by have := c_eq a10108; simp only [ev_lit, ev_var] at this; omega
  refine ⟨fun _ => ?_, fun h => absurd (v10108.symm.trans h) (by decide)⟩
  intro a10300 k10300
  have v10300 : e 10300 = 1 := by have := c_ne a10300; simp only [ev_lit, ev_var] at this; omega
  refine ⟨fun _ => ?_, fun h => absurd (v10300.symm.trans h) (by decide)⟩
  exact rfl
theorem field_n (hF : FermatAll) (fs : Nat → FuncId) (e : Nat → Int) (his : isS (e 0)) {A B C r : Int} (hr : rOf (e 0) = r) (hA : e 1 % r = A) (hB : e 2 % r = B) (hC : e 3 % r = C) (hz : ¬ A = 0) : tField11.says (TField fs) ⟨fun ys => ys = [1], []⟩ e := by
  have hr1 := rOf_ok his
  rw [hr] at hr1
  have hr0 : 3 ≤ r := hr1.2.1
  have rpos : 0 < r := by omega
  have lt : ∀ x : Int, x % r < r := fun x => (md_lt rpos).2
  have bA : A < r := by rw [← hA]; exact lt _
  have bA0 : 0 ≤ A := by rw [← hA]; exact (md_lt rpos).1
  have bB : B < r := by rw [← hB]; exact lt _
  have bC : C < r := by rw [← hC]; exact lt _
  have hrN : r < N384 := by have := hr1.2.2; rw [p382] at this; unfold N384; omega
  have b1 : 0 ≤ A ∧ A < N384 := ⟨bA0, by omega⟩
  have is2 : 0 ≤ e 0 ∧ e 0 ≤ 2 := his
  obtain ⟨X, x1, x2, x3, x4⟩ := inv_x hr hF his bA hz b1 rpos
  unfold tField11
  refine ⟨trivial, ?_⟩
  intro a4 k4
  have v4 : e 4 = 1 := a4
  intro a5 k5
  have b5 := c_lt a5
  simp only [ev_lit, ev_var] at b5
  refine ⟨fun h => by omega, fun _ => ?_⟩
  intro a6 k6
  have b6 := c_gt a6
  simp only [ev_lit, ev_var] at b6
  refine ⟨fun h => by omega, fun _ => ?_⟩
  refine ⟨trivial, ?_⟩
  intro a7 k7
  have v7 : e 7 = r := (a7.trans (so_yes his).1).trans hr
  intro a8 k8
  refine ⟨trivial, ?_⟩
  intro a249 k249
  intro a250 k250
  have v250 : e 250 = A := by
    have q : e 250 = ((kDivide 0).sem [e 1, e 7]).getD 1 0 := a250
    rw [q, v7, dv_rest hr0]; exact hA
  intro a251 k251
  intro a729 k729
  have l729 : e 729 = 0 := a729.trans llen0
  intro a730 k730
  have z730 : e 730 ≠ 0 := by have := c_lt a730; simp only [ev_lit, ev_var] at this; omega
  refine ⟨z730, ?_⟩
  intro a731 k731
  have d731 : dec (e 731) = [A] := lapp_of a731 dec_zero v250
  refine ⟨trivial, ?_⟩
  intro a972 k972
  intro a973 k973
  have v973 : e 973 = B := by
    have q : e 973 = ((kDivide 0).sem [e 2, e 7]).getD 1 0 := a973
    rw [q, v7, dv_rest hr0]; exact hB
  intro a974 k974
  intro a1452 k1452
  have l1452 : e 1452 = 1 := a1452.trans (llen_of d731)
  intro a1453 k1453
  have z1453 : e 1453 ≠ 0 := by have := c_lt a1453; simp only [ev_lit, ev_var] at this; omega
  refine ⟨z1453, ?_⟩
  intro a1454 k1454
  have d1454 : dec (e 1454) = [A, B] := lapp_of a1454 d731 v973
  refine ⟨trivial, ?_⟩
  intro a1695 k1695
  intro a1696 k1696
  have v1696 : e 1696 = C := by
    have q : e 1696 = ((kDivide 0).sem [e 3, e 7]).getD 1 0 := a1696
    rw [q, v7, dv_rest hr0]; exact hC
  intro a1697 k1697
  intro a2175 k2175
  have l2175 : e 2175 = 2 := a2175.trans (llen_of d1454)
  intro a2176 k2176
  have z2176 : e 2176 ≠ 0 := by have := c_lt a2176; simp only [ev_lit, ev_var] at this; omega
  refine ⟨z2176, ?_⟩
  intro a2177 k2177
  have d2177 : dec (e 2177) = [A, B, C] := lapp_of a2177 d1454 v1696
  intro a2178 k2178
  have l2178 : e 2178 = 3 := a2178.trans (llen_of d2177)
  intro a2179 k2179
  have v2179 : e 2179 = 0 := by have := c_ne a2179; simp only [ev_lit, ev_var] at this; omega
  refine ⟨fun h => absurd v2179 h, fun _ => ?_⟩
  intro a2276 k2276
  have l2276 : e 2276 = 3 := a2276.trans (llen_of d2177)
  intro a2277 k2277
  have z2277 : e 2277 ≠ 0 := by have := c_le a2277; simp only [ev_lit, ev_var] at this; omega
  intro a2278 k2278
  have z2278 : e 2278 ≠ 0 := by have := c_lt a2278; simp only [ev_lit, ev_var] at this; omega
  refine ⟨z2277, ?_⟩
  refine ⟨z2278, ?_⟩
  intro a2324 k2324
  have v2324 : e 2324 = A := a2324.trans (lget_of d2177 rfl)
  intro a2420 k2420
  have l2420 : e 2420 = 3 := a2420.trans (llen_of d2177)
  intro a2421 k2421
  have z2421 : e 2421 ≠ 0 := by have := c_le a2421; simp only [ev_lit, ev_var] at this; omega
  intro a2422 k2422
  have z2422 : e 2422 ≠ 0 := by have := c_lt a2422; simp only [ev_lit, ev_var] at this; omega
  refine ⟨z2421, ?_⟩
  refine ⟨z2422, ?_⟩
  intro a2468 k2468
  have v2468 : e 2468 = B := a2468.trans (lget_of d2177 rfl)
  refine ⟨trivial, ?_⟩
  intro a2516 k2516
  have v2516 : e 2516 = (A * B) % r := by
    have q : e 2516 = (sem2 (· * ·) [e 0, e 2324, e 2468]).getD 0 0 := a2516
    rw [q, v2324, v2468]
    exact s2_r hr his (bA) (bB)
  intro a2517 k2517
  have v2517 : e 2517 = 0 := by
    have q : e 2517 = (sem2 (· * ·) [e 0, e 2324, e 2468]).getD 1 0 := a2517
    rw [q, v2324, v2468]
    exact s2_e hr his (bA) (bB)
  intro a2948 k2948
  have l2948 : e 2948 = 3 := a2948.trans (llen_of d2177)
  intro a2949 k2949
  have z2949 : e 2949 ≠ 0 := by have := c_le a2949; simp only [ev_lit, ev_var] at this; omega
  intro a2950 k2950
  have z2950 : e 2950 ≠ 0 := by have := c_lt a2950; simp only [ev_lit, ev_var] at this; omega
  refine ⟨z2949, ?_⟩
  refine ⟨z2950, ?_⟩
  intro a2996 k2996
  have v2996 : e 2996 = B := a2996.trans (lget_of d2177 rfl)
  intro a3092 k3092
  have l3092 : e 3092 = 3 := a3092.trans (llen_of d2177)
  intro a3093 k3093
  have z3093 : e 3093 ≠ 0 := by have := c_le a3093; simp only [ev_lit, ev_var] at this; omega
  intro a3094 k3094
  have z3094 : e 3094 ≠ 0 := by have := c_lt a3094; simp only [ev_lit, ev_var] at this; omega
  refine ⟨z3093, ?_⟩
  refine ⟨z3094, ?_⟩
  intro a3140 k3140
  have v3140 : e 3140 = A := a3140.trans (lget_of d2177 rfl)
  refine ⟨trivial, ?_⟩
  intro a3188 k3188
  have v3188 : e 3188 = (B * A) % r := by
    have q : e 3188 = (sem2 (· * ·) [e 0, e 2996, e 3140]).getD 0 0 := a3188
    rw [q, v2996, v3140]
    exact s2_r hr his (bB) (bA)
  intro a3189 k3189
  intro a3668 k3668
  have l3668 : e 3668 = 3 := a3668.trans (llen_of d2177)
  intro a3669 k3669
  have z3669 : e 3669 ≠ 0 := by have := c_le a3669; simp only [ev_lit, ev_var] at this; omega
  intro a3670 k3670
  have z3670 : e 3670 ≠ 0 := by have := c_lt a3670; simp only [ev_lit, ev_var] at this; omega
  refine ⟨z3669, ?_⟩
  refine ⟨z3670, ?_⟩
  intro a3716 k3716
  have v3716 : e 3716 = C := a3716.trans (lget_of d2177 rfl)
  refine ⟨trivial, ?_⟩
  intro a3764 k3764
  have v3764 : e 3764 = (((A * B) % r) * C) % r := by
    have q : e 3764 = (sem2 (· * ·) [e 0, e 2516, e 3716]).getD 0 0 := a3764
    rw [q, v2516, v3716]
    exact s2_r hr his (lt _) (bC)
  intro a3765 k3765
  intro a4196 k4196
  have l4196 : e 4196 = 3 := a4196.trans (llen_of d2177)
  intro a4197 k4197
  have z4197 : e 4197 ≠ 0 := by have := c_le a4197; simp only [ev_lit, ev_var] at this; omega
  intro a4198 k4198
  have z4198 : e 4198 ≠ 0 := by have := c_lt a4198; simp only [ev_lit, ev_var] at this; omega
  refine ⟨z4197, ?_⟩
  refine ⟨z4198, ?_⟩
  intro a4244 k4244
  have v4244 : e 4244 = B := a4244.trans (lget_of d2177 rfl)
  intro a4340 k4340
  have l4340 : e 4340 = 3 := a4340.trans (llen_of d2177)
  intro a4341 k4341
  have z4341 : e 4341 ≠ 0 := by have := c_le a4341; simp only [ev_lit, ev_var] at this; omega
  intro a4342 k4342
  have z4342 : e 4342 ≠ 0 := by have := c_lt a4342; simp only [ev_lit, ev_var] at this; omega
  refine ⟨z4341, ?_⟩
  refine ⟨z4342, ?_⟩
  intro a4388 k4388
  have v4388 : e 4388 = C := a4388.trans (lget_of d2177 rfl)
  refine ⟨trivial, ?_⟩
  intro a4436 k4436
  have v4436 : e 4436 = (B * C) % r := by
    have q : e 4436 = (sem2 (· * ·) [e 0, e 4244, e 4388]).getD 0 0 := a4436
    rw [q, v4244, v4388]
    exact s2_r hr his (bB) (bC)
  intro a4437 k4437
  intro a4868 k4868
  have l4868 : e 4868 = 3 := a4868.trans (llen_of d2177)
  intro a4869 k4869
  have z4869 : e 4869 ≠ 0 := by have := c_le a4869; simp only [ev_lit, ev_var] at this; omega
  intro a4870 k4870
  have z4870 : e 4870 ≠ 0 := by have := c_lt a4870; simp only [ev_lit, ev_var] at this; omega
  refine ⟨z4869, ?_⟩
  refine ⟨z4870, ?_⟩
  intro a4916 k4916
  have v4916 : e 4916 = A := a4916.trans (lget_of d2177 rfl)
  refine ⟨trivial, ?_⟩
  intro a5012 k5012
  have v5012 : e 5012 = (A * ((B * C) % r)) % r := by
    have q : e 5012 = (sem2 (· * ·) [e 0, e 4916, e 4436]).getD 0 0 := a5012
    rw [q, v4916, v4436]
    exact s2_r hr his (bA) (lt _)
  intro a5013 k5013
  intro a5444 k5444
  have l5444 : e 5444 = 3 := a5444.trans (llen_of d2177)
  intro a5445 k5445
  have z5445 : e 5445 ≠ 0 := by have := c_le a5445; simp only [ev_lit, ev_var] at this; omega
  intro a5446 k5446
  have z5446 : e 5446 ≠ 0 := by have := c_lt a5446; simp only [ev_lit, ev_var] at this; omega
  refine ⟨z5445, ?_⟩
  refine ⟨z5446, ?_⟩
  intro a5492 k5492
  have v5492 : e 5492 = A := a5492.trans (lget_of d2177 rfl)
  intro a5588 k5588
  have l5588 : e 5588 = 3 := a5588.trans (llen_of d2177)
  intro a5589 k5589
  have z5589 : e 5589 ≠ 0 := by have := c_le a5589; simp only [ev_lit, ev_var] at this; omega
  intro a5590 k5590
  have z5590 : e 5590 ≠ 0 := by have := c_lt a5590; simp only [ev_lit, ev_var] at this; omega
  refine ⟨z5589, ?_⟩
  refine ⟨z5590, ?_⟩
  intro a5636 k5636
  have v5636 : e 5636 = B := a5636.trans (lget_of d2177 rfl)
  refine ⟨trivial, ?_⟩
  intro a5684 k5684
  have v5684 : e 5684 = (A + B) % r := by
    have q : e 5684 = (sem2 (· + ·) [e 0, e 5492, e 5636]).getD 0 0 := a5684
    rw [q, v5492, v5636]
    exact s2_r hr his (bA) (bB)
  intro a5685 k5685
  intro a6164 k6164
  have l6164 : e 6164 = 3 := a6164.trans (llen_of d2177)
  intro a6165 k6165
  have z6165 : e 6165 ≠ 0 := by have := c_le a6165; simp only [ev_lit, ev_var] at this; omega
  intro a6166 k6166
  have z6166 : e 6166 ≠ 0 := by have := c_lt a6166; simp only [ev_lit, ev_var] at this; omega
  refine ⟨z6165, ?_⟩
  refine ⟨z6166, ?_⟩
  intro a6212 k6212
  have v6212 : e 6212 = C := a6212.trans (lget_of d2177 rfl)
  refine ⟨trivial, ?_⟩
  intro a6260 k6260
  have v6260 : e 6260 = (((A + B) % r) * C) % r := by
    have q : e 6260 = (sem2 (· * ·) [e 0, e 5684, e 6212]).getD 0 0 := a6260
    rw [q, v5684, v6212]
    exact s2_r hr his (lt _) (bC)
  intro a6261 k6261
  intro a6692 k6692
  have l6692 : e 6692 = 3 := a6692.trans (llen_of d2177)
  intro a6693 k6693
  have z6693 : e 6693 ≠ 0 := by have := c_le a6693; simp only [ev_lit, ev_var] at this; omega
  intro a6694 k6694
  have z6694 : e 6694 ≠ 0 := by have := c_lt a6694; simp only [ev_lit, ev_var] at this; omega
  refine ⟨z6693, ?_⟩
  refine ⟨z6694, ?_⟩
  intro a6740 k6740
  have v6740 : e 6740 = A := a6740.trans (lget_of d2177 rfl)
  intro a6836 k6836
  have l6836 : e 6836 = 3 := a6836.trans (llen_of d2177)
  intro a6837 k6837
  have z6837 : e 6837 ≠ 0 := by have := c_le a6837; simp only [ev_lit, ev_var] at this; omega
  intro a6838 k6838
  have z6838 : e 6838 ≠ 0 := by have := c_lt a6838; simp only [ev_lit, ev_var] at this; omega
  refine ⟨z6837, ?_⟩
  refine ⟨z6838, ?_⟩
  intro a6884 k6884
  have v6884 : e 6884 = C := a6884.trans (lget_of d2177 rfl)
  refine ⟨trivial, ?_⟩
  intro a6932 k6932
  have v6932 : e 6932 = (A * C) % r := by
    have q : e 6932 = (sem2 (· * ·) [e 0, e 6740, e 6884]).getD 0 0 := a6932
    rw [q, v6740, v6884]
    exact s2_r hr his (bA) (bC)
  intro a6933 k6933
  refine ⟨trivial, ?_⟩
  intro a7268 k7268
  have v7268 : e 7268 = (((A * C) % r) + ((B * C) % r)) % r := by
    have q : e 7268 = (sem2 (· + ·) [e 0, e 6932, e 4436]).getD 0 0 := a7268
    rw [q, v6932, v4436]
    exact s2_r hr his (lt _) (lt _)
  intro a7269 k7269
  intro a7414 k7414
  have l7414 : e 7414 = 3 := a7414.trans (llen_of d2177)
  intro a7415 k7415
  have z7415 : e 7415 ≠ 0 := by have := c_le a7415; simp only [ev_lit, ev_var] at this; omega
  intro a7416 k7416
  have z7416 : e 7416 ≠ 0 := by have := c_lt a7416; simp only [ev_lit, ev_var] at this; omega
  refine ⟨z7415, ?_⟩
  refine ⟨z7416, ?_⟩
  intro a7462 k7462
  have v7462 : e 7462 = B := a7462.trans (lget_of d2177 rfl)
  refine ⟨trivial, ?_⟩
  intro a7510 k7510
  have v7510 : e 7510 = (((A + B) % r) - B) % r := by
    have q : e 7510 = (sem2 (· - ·) [e 0, e 5684, e 7462]).getD 0 0 := a7510
    rw [q, v5684, v7462]
    exact s2_r hr his (lt _) (bB)
  intro a7511 k7511
  intro a7846 k7846
  have l7846 : e 7846 = 3 := a7846.trans (llen_of d2177)
  intro a7847 k7847
  have z7847 : e 7847 ≠ 0 := by have := c_le a7847; simp only [ev_lit, ev_var] at this; omega
  intro a7848 k7848
  have z7848 : e 7848 ≠ 0 := by have := c_lt a7848; simp only [ev_lit, ev_var] at this; omega
  refine ⟨z7847, ?_⟩
  refine ⟨z7848, ?_⟩
  intro a7849 k7849
  have v7849 : e 7849 = A := a7849.trans (lget_of d2177 rfl)
  refine ⟨trivial, ?_⟩
  intro a7850 k7850
  have v7850 : e 7850 = X := by
    have q : e 7850 = ((kSInv 0).sem [e 0, e 7849]).getD 0 0 := a7850
    rw [q, v7849]
    exact x1
  intro a7851 k7851
  have v7851 : e 7851 = 0 := by
    have q : e 7851 = ((kSInv 0).sem [e 0, e 7849]).getD 1 0 := a7851
    rw [q, v7849]
    exact x3
  intro a7996 k7996
  have l7996 : e 7996 = 3 := a7996.trans (llen_of d2177)
  intro a7997 k7997
  have z7997 : e 7997 ≠ 0 := by have := c_le a7997; simp only [ev_lit, ev_var] at this; omega
  intro a7998 k7998
  have z7998 : e 7998 ≠ 0 := by have := c_lt a7998; simp only [ev_lit, ev_var] at this; omega
  refine ⟨z7997, ?_⟩
  refine ⟨z7998, ?_⟩
  intro a8044 k8044
  have v8044 : e 8044 = A := a8044.trans (lget_of d2177 rfl)
  refine ⟨trivial, ?_⟩
  intro a8092 k8092
  have v8092 : e 8092 = (X * A) % r := by
    have q : e 8092 = (sem2 (· * ·) [e 0, e 7850, e 8044]).getD 0 0 := a8092
    rw [q, v7850, v8044]
    exact s2_r hr his (x4) (bA)
  intro a8093 k8093
  refine ⟨fun _ => ?_, fun h => absurd (v4.symm.trans h) (by decide)⟩
  intro a8572 k8572
  have v8572 : e 8572 = 1 := by have := c_eq a8572; simp only [ev_lit, ev_var] at this; omega
  refine ⟨fun _ => ?_, fun h => absurd (v8572.symm.trans h) (by decide)⟩
  intro a8812 k8812
  have v8812 : e 8812 = 1 := cn_1 (c_num a8812 k2516 k3188) ((v2516.trans (congrArg (· % r) (Int.mul_comm A B))).trans v3188.symm)
  refine ⟨fun _ => ?_, fun h => absurd (v8812.symm.trans h) (by decide)⟩
  intro a9052 k9052
  have v9052 : e 9052 = 1 := cn_1 (c_num a9052 k3764 k5012) ((v3764.trans (f_assoc)).trans v5012.symm)
  refine ⟨fun _ => ?_, fun h => absurd (v9052.symm.trans h) (by decide)⟩
  intro a9292 k9292
  have v9292 : e 9292 = 1 := cn_1 (c_num a9292 k6260 k7268) ((v6260.trans (f_dist)).trans v7268.symm)
  refine ⟨fun _ => ?_, fun h => absurd (v9292.symm.trans h) (by decide)⟩
  intro a9532 k9532
  have l9532 : e 9532 = 3 := a9532.trans (llen_of d2177)
  intro a9533 k9533
  have z9533 : e 9533 ≠ 0 := by have := c_le a9533; simp only [ev_lit, ev_var] at this; omega
  intro a9534 k9534
  have z9534 : e 9534 ≠ 0 := by have := c_lt a9534; simp only [ev_lit, ev_var] at this; omega
  refine ⟨z9533, ?_⟩
  refine ⟨z9534, ?_⟩
  intro a9580 k9580
  have v9580 : e 9580 = A := a9580.trans (lget_of d2177 rfl)
  intro a9628 k9628
  have v9628 : e 9628 = 1 := cn_1 (c_num a9628 k7510 k9580) ((v7510.trans (f_sub bA0 bA)).trans v9580.symm)
  refine ⟨fun _ => ?_, fun h => absurd (v9628.symm.trans h) (by decide)⟩
  intro a9820 k9820
  have v9820 : e 9820 = 0 := by have := c_eq a9820; simp only [ev_lit, ev_var] at this; omega
  intro a9916 k9916
  have l9916 : e 9916 = 3 := a9916.trans (llen_of d2177)
  intro a9917 k9917
  have z9917 : e 9917 ≠ 0 := by have := c_le a9917; simp only [ev_lit, ev_var] at this; omega
  intro a9918 k9918
  have z9918 : e 9918 ≠ 0 := by have := c_lt a9918; simp only [ev_lit, ev_var] at this; omega
  refine ⟨z9917, ?_⟩
  refine ⟨z9918, ?_⟩
  intro a9964 k9964
  have v9964 : e 9964 = A := a9964.trans (lget_of d2177 rfl)
  intro a10060 k10060
  have v10060 : e 10060 = 0 := cn_0 (c_num0 a10060 k9964) (by rw [v9964]; exact hz)
  intro a10108 k10108
  have v10108 : e 10108 = 1 := by have := c_eq a10108; simp only [ev_lit, ev_var] at this; omega
  refine ⟨fun _ => ?_, fun h => absurd (v10108.symm.trans h) (by decide)⟩
  intro a10300 k10300
  have v10300 : e 10300 = 0 := by have := c_ne a10300; simp only [ev_lit, ev_var] at this; omega
  refine ⟨fun h => absurd v10300 h, fun _ => ?_⟩
  refine ⟨trivial, ?_⟩
  intro a10444 k10444
  have v10444 : e 10444 = 1 := a10444
  intro a10492 k10492
  have v10492 : e 10492 = 1 := cn_1 (c_num a10492 k8092 k10444) ((v8092.trans (x2)).trans v10444.symm)
  exact congrArg (fun x => [x]) v10492
theorem law_field11 (hF : FermatAll) (fs : Nat → FuncId) (f : FuncId) (e : Nat → Int) : tField11.says (TField fs) ⟨fun ys => ys = (kFieldLaw f).sem [e 0, e 1, e 2, e 3], []⟩ e := by
  show tField11.says (TField fs) ⟨fun ys => ys = [1], []⟩ e
  by_cases his : isS (e 0)
  · by_cases hz : e 1 % rOf (e 0) = 0
    · exact field_z hF fs e his rfl rfl rfl rfl hz
    · exact field_n hF fs e his rfl rfl rfl rfl hz
  · unfold tField11
    refine ⟨trivial, fun a4 _ a5 _ => ?_⟩
    have v4 : e 4 = 1 := a4
    have b5 := c_lt a5
    simp only [ev_lit, ev_var] at b5
    refine ⟨fun _ => congrArg (fun x => [x]) v4, fun h5 => ?_⟩
    intro a6 _
    have b6 := c_gt a6
    simp only [ev_lit, ev_var] at b6
    refine ⟨fun _ => congrArg (fun x => [x]) v4, fun h6 => ?_⟩
    exact absurd (show isS (e 0) from ⟨by omega, by omega⟩) his
end Go.Sx
