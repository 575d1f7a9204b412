/- What is left of a number to the order less two is its inverse. -/
import Derived.Test.YtcnllpepiglffaaLd
import Derived.Test.YtcnllpepiglffaaNp
namespace Go.Sx
open Go Go.RowKit
theorem fermat_int {p : Nat} (hp : Np.isP p) {a : Int} (h0 : 0 < a) (h1 : a < p) : a * (a ^ ((p : Int) - 2).toNat % p) % p = 1 := by
  obtain ⟨x, rfl⟩ := Int.eq_ofNat_of_zero_le (Int.le_of_lt h0)
  have h2 := hp.1
  have hx : ¬ p ∣ x := fun h => by have := Nat.le_of_dvd (by omega) h; omega
  have hf := Np.fermat hp hx
  rw [show ((p : Int) - 2).toNat = p - 2 by omega]
  have e : x * (x ^ (p - 2) % p) % p = 1 := by rw [Nat.mul_mod_mod, ← Nat.pow_succ', show (p - 2).succ = p - 1 by omega]; exact hf
  have : ((x * (x ^ (p - 2) % p) % p : Nat) : Int) = 1 := by rw [e]; rfl
  rw [← this, Int.natCast_emod, Int.natCast_mul, Int.natCast_emod, Int.natCast_pow]
theorem fermatAll : FermatAll := by
  intro s a hs h0 h1
  have hcase : s = 0 ∨ s = 1 ∨ s = 2 := by unfold isS at hs; omega
  rcases hcase with h | h | h <;> subst h
  · exact fermat_int Np.p_great h0 h1
  · exact fermat_int Np.p_little h0 h1
  · exact fermat_int Np.p_middle h0 h1
end Go.Sx

namespace Go.Sx
open Go Go.Proofs
set_option linter.unusedVariables false
/-- The contract of the fast field's maker, with no call allowed: the branch that calls it is never taken here. -/
def kNewFast (f : FuncId) : K := { fn := f, ext := false, ins := [iN], outs := [.agg [.num, .int .u64, .num]], pre := fun _ => False, sem := fun _ => [] }
theorem ok_newFast (P : Program) (f : FuncId) : (kNewFast f).ok P := by
  intro w xs args hin hpre
  exact hpre.elim
def tField2 : Tree := (.lett 1 .bit (.cmp .eql (.var 0) (.lit 0))
(.split 1
 (.ret [(.lit 52435875175126190479447740508185965837690552500527637822603658699938581184513), (.lit 18446744069414584319), (.lit 49829253988540319354550742249276084460127446355315915089527227471280320770991)])
 (.req 0 [(.var 0)]
 (.lett 2 .num (.app 0 0 [(.var 0)])
 (.req 1 [(.var 2)]
 (.lett 3 .num (.app 1 0 [(.var 2)])
 (.lett 4 (.int .u64) (.app 1 1 [(.var 2)])
 (.lett 5 .num (.app 1 2 [(.var 2)])
 (.ret [(.var 3), (.var 4), (.var 5)])))))))))
theorem law_field2 (f1 f2 f : FuncId) (e : Nat → Int) (hp : (kField f).pre [e 0]) : tField2.says [kOrder f1, kNewFast f2] ⟨fun ys => ys = (kField f).sem [e 0], []⟩ e := by
  have h0 : e 0 = 0 := hp
  simp only [tField2, kField, kOrder, kNewFast, Tree.says, List.getElem?_cons_zero, List.getElem?_cons_succ, List.map, ev_lit, ev_var, ev_limb, D.ev, List.getD_cons_zero, List.getD_cons_succ]
  intro a1 _
  have b1 := c_eq a1
  refine ⟨fun n => ?_, fun n => by omega⟩
  rw [show wideOf rGreat = 49829253988540319354550742249276084460127446355315915089527227471280320770991 by decide +kernel]
  rfl
end Go.Sx
