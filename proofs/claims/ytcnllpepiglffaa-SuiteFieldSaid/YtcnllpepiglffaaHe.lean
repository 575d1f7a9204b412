/- What is left of a number to the order less two is its inverse. -/
import Derived.Test.YtcnllpepiglffaaHd
import Derived.Test.YtcnllpepiglffaaHp
namespace Go.Sx
open Go Go.RowKit
theorem fermat_int {p : Nat} (hp : Np.isP p) {a : Int} (h0 : 0 < a) (h1 : a < p) : a * (a ^ ((p : Int) - 2).toNat % p) % p = 1 := by
  obtain ⟨x, rfl⟩ := Int.eq_ofNat_of_zero_le (Int.le_of_lt h0)
  have h2 := hp.1
  have hx : ¬ p ∣ x := fun h => by have := Nat.le_of_dvd (by omega) h; omega
  have hf := Np.fermat hp hx
  rw [show ((p : Int) - 2).toNat = p - 2 by omega]
  have e : x * (x ^ (p - 2) % p) % p = 1 := by rw [Nat.mul_mod_mod, ← Nat.pow_succ', show (p - 2).succ = p - 1 by omega]; exact hf
  have : ((x * (x ^ (p - 2) % p) % p : Nat) : Int) = 1 := by rw [e]; rfl
  rw [← this, Int.natCast_emod, Int.natCast_mul, Int.natCast_emod, Int.natCast_pow]
theorem fermatAll : FermatAll := by
  intro s a hs h0 h1
  have hcase : s = 0 ∨ s = 1 ∨ s = 2 := by unfold isS at hs; omega
  rcases hcase with h | h | h <;> subst h
  · exact fermat_int Np.p_great h0 h1
  · exact fermat_int Np.p_little h0 h1
  · exact fermat_int Np.p_middle h0 h1
end Go.Sx
