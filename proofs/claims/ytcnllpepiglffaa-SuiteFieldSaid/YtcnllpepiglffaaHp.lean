/- Plain numbers: Fermat's little law; how a great prime is known. -/

namespace Np
def isP (p : Nat) : Prop := 2 ≤ p ∧ ∀ d, d ∣ p → d = 1 ∨ d = p
theorem cop {p a : Nat} (hp : isP p) (h : ¬ p ∣ a) : Nat.Coprime p a := by
  rcases hp.2 _ (Nat.gcd_dvd_left p a) with h1 | h1
  · exact h1
  · exact absurd (h1 ▸ Nat.gcd_dvd_right p a) h
theorem euclid {p a b : Nat} (hp : isP p) (h : p ∣ a * b) : p ∣ a ∨ p ∣ b := by
  by_cases ha : p ∣ a
  · exact .inl ha
  · exact .inr ((cop hp ha).dvd_of_dvd_mul_left h)
/-! ### binomials -/
def ch : Nat → Nat → Nat
  | _, 0 => 1
  | 0, _ + 1 => 0
  | n + 1, k + 1 => ch n k + ch n (k + 1)
theorem ch_0 (n : Nat) : ch n 0 = 1 := by cases n <;> rfl
theorem ch_absorb : ∀ n k : Nat, (k + 1) * ch (n + 1) (k + 1) = (n + 1) * ch n k
  | 0, 0 => rfl
  | 0, k + 1 => by simp [ch]
  | n + 1, 0 => by
    have := ch_absorb n 0
    simp only [ch_0] at this
    show (0 + 1) * (ch (n + 1) 0 + ch (n + 1) (0 + 1)) = (n + 1 + 1) * ch (n + 1) 0
    simp only [ch_0]; omega
  | n + 1, k + 1 => by
    have h1 := ch_absorb n k
    have h2 := ch_absorb n (k + 1)
    show (k + 1 + 1) * (ch (n + 1) (k + 1) + ch (n + 1) (k + 1 + 1)) = (n + 1 + 1) * ch (n + 1) (k + 1)
    have h3 : ch (n + 1) (k + 1) = ch n k + ch n (k + 1) := rfl
    rw [Nat.mul_add, h2, Nat.add_mul (k + 1) 1, h1]
    have h4 : (n + 1) * ch n k + (n + 1) * ch n (k + 1) = (n + 1) * ch (n + 1) (k + 1) := by rw [← Nat.mul_add, h3]
    have h5 : (n + 1 + 1) * ch (n + 1) (k + 1) = (n + 1) * ch (n + 1) (k + 1) + ch (n + 1) (k + 1) := by rw [Nat.add_mul (n + 1) 1, Nat.one_mul]
    omega
theorem ch_gt : ∀ n k : Nat, n < k → ch n k = 0
  | 0, k + 1, _ => rfl
  | n + 1, k + 1, h => by
    show ch n k + ch n (k + 1) = 0
    rw [ch_gt n k (by omega), ch_gt n (k + 1) (by omega)]
theorem ch_self : ∀ n : Nat, ch n n = 1
  | 0 => rfl
  | n + 1 => by
    show ch n n + ch n (n + 1) = 1
    rw [ch_self n, ch_gt n (n + 1) (by omega)]
def bs (x n : Nat) : Nat → Nat
  | 0 => 0
  | m + 1 => bs x n m + ch n m * x ^ m
theorem bs_step (x n : Nat) : ∀ m, bs x (n + 1) (m + 1) = bs x n (m + 1) + x * bs x n m
  | 0 => by simp [bs, ch_0]
  | m + 1 => by
    have h := bs_step x n m
    have h3 : ch (n + 1) (m + 1) = ch n m + ch n (m + 1) := rfl
    show bs x (n + 1) (m + 1) + ch (n + 1) (m + 1) * x ^ (m + 1) = bs x n (m + 1) + ch n (m + 1) * x ^ (m + 1) + x * (bs x n m + ch n m * x ^ m)
    rw [h, h3, Nat.add_mul, Nat.mul_add, show x * (ch n m * x ^ m) = ch n m * x ^ (m + 1) by rw [Nat.pow_succ, Nat.mul_left_comm, Nat.mul_comm x]]
    omega
theorem binom (x : Nat) : ∀ n, (x + 1) ^ n = bs x n (n + 1)
  | 0 => by simp [bs, ch_0]
  | n + 1 => by
    have h : bs x n (n + 2) = bs x n (n + 1) := by show bs x n (n + 1) + ch n (n + 1) * x ^ (n + 1) = _; rw [ch_gt n (n + 1) (by omega)]; simp
    rw [bs_step, h, ← binom x n, Nat.pow_succ, Nat.mul_add, Nat.mul_one, Nat.mul_comm x]
    omega
theorem dvd_ch {p k : Nat} (hp : isP p) (h0 : 0 < k) (h1 : k < p) : p ∣ ch p k := by
  obtain ⟨n, rfl⟩ : ∃ n, p = n + 1 := ⟨p - 1, by have := hp.1; omega⟩
  obtain ⟨j, rfl⟩ : ∃ j, k = j + 1 := ⟨k - 1, by omega⟩
  have h := ch_absorb n j
  have : n + 1 ∣ (j + 1) * ch (n + 1) (j + 1) := ⟨ch n j, h⟩
  rcases euclid hp this with h2 | h2
  · exact absurd (Nat.le_of_dvd (by omega) h2) (by omega)
  · exact h2
theorem bs_mod {p : Nat} (hp : isP p) (x : Nat) : ∀ m, m + 1 ≤ p → bs x p (m + 1) % p = 1 % p
  | 0, _ => by simp [bs, ch_0]
  | m + 1, h => by
    show (bs x p (m + 1) + ch p (m + 1) * x ^ (m + 1)) % p = 1 % p
    obtain ⟨c, hc⟩ := dvd_ch hp (show 0 < m + 1 by omega) (by omega)
    rw [hc, Nat.mul_assoc, Nat.add_mul_mod_self_left]
    exact bs_mod hp x m (by omega)
theorem dream {p : Nat} (hp : isP p) (x : Nat) : (x + 1) ^ p % p = (x ^ p + 1) % p := by
  rw [binom]
  show (bs x p p + ch p p * x ^ p) % p = _
  rw [ch_self, Nat.one_mul]
  obtain ⟨n, hn⟩ : ∃ n, p = n + 1 := ⟨p - 1, by have := hp.1; omega⟩
  have h := bs_mod hp x n (by omega)
  rw [← hn] at h
  rw [Nat.add_comm, Nat.add_mod, h, ← Nat.add_mod]
theorem fermat0 {p : Nat} (hp : isP p) : ∀ x, x ^ p % p = x % p
  | 0 => by rw [Nat.zero_pow (by have := hp.1; omega)]
  | x + 1 => by rw [dream hp, Nat.add_mod, fermat0 hp x, ← Nat.add_mod]
theorem fermat {p x : Nat} (hp : isP p) (hx : ¬ p ∣ x) : x ^ (p - 1) % p = 1 := by
  have h2 := hp.1
  obtain ⟨n, hn⟩ : ∃ n, p = n + 1 := ⟨p - 1, by omega⟩
  have h := fermat0 hp x
  have h0 : 0 < x := Nat.pos_of_ne_zero fun h => hx (h ▸ Nat.dvd_zero p)
  have hle : 1 ≤ x ^ (p - 1) := Nat.pow_pos h0
  have hs : p ∣ x ^ p - x := Nat.dvd_of_mod_eq_zero (Nat.sub_mod_eq_zero_of_mod_eq h)
  have he : x ^ p - x = x * (x ^ (p - 1) - 1) := by
    rw [Nat.mul_sub, Nat.mul_one, show x * x ^ (p - 1) = x ^ p by rw [← Nat.pow_succ']; congr 1; omega]
  rw [he] at hs
  rcases euclid hp hs with h3 | h3
  · exact absurd h3 hx
  · obtain ⟨c, hc⟩ := h3
    rw [show x ^ (p - 1) = 1 + p * c by omega, Nat.add_mul_mod_self_left, Nat.mod_eq_of_lt (by omega)]
/-! ### prime factors -/
theorem small {n k : Nat} (h2 : 2 ≤ n) (hk : n < k * k) (h : ∀ d, d < k → 2 ≤ d → n % d ≠ 0) : isP n := by
  refine ⟨h2, fun d hd => ?_⟩
  obtain ⟨m, hm⟩ := hd
  by_cases h1 : d = 1
  · exact .inl h1
  by_cases h3 : m = 1
  · right; rw [hm, h3, Nat.mul_one]
  exfalso
  have hd0 : d ≠ 0 := fun h => by rw [h, Nat.zero_mul] at hm; omega
  have hm0 : m ≠ 0 := fun h => by rw [h, Nat.mul_zero] at hm; omega
  by_cases hdk : d < k
  · exact h d hdk (by omega) (by rw [hm]; exact Nat.mul_mod_right d m)
  · have hmk : m < k := by
      by_cases hc : m < k
      · exact hc
      · have := Nat.mul_le_mul (show k ≤ d by omega) (show k ≤ m by omega); omega
    exact h m hmk (by omega) (by rw [hm]; exact Nat.mul_mod_left d m)
theorem has_p : ∀ N n : Nat, n ≤ N → 2 ≤ n → ∃ q, isP q ∧ q ∣ n := by
  intro N
  induction N with
  | zero => intro n h1 h2; omega
  | succ N ih =>
    intro n h1 h2
    by_cases hp : isP n
    · exact ⟨n, hp, Nat.dvd_refl n⟩
    · have : ∃ d, d ∣ n ∧ d ≠ 1 ∧ d ≠ n := by
        apply Classical.byContradiction
        intro hc
        refine hp ⟨h2, fun d hd => ?_⟩
        by_cases h1 : d = 1
        · exact .inl h1
        · by_cases h3 : d = n
          · exact .inr h3
          · exact absurd ⟨d, hd, h1, h3⟩ hc
      obtain ⟨d, hd, d1, d2⟩ := this
      have hle := Nat.le_of_dvd (by omega) hd
      have hd0 : d ≠ 0 := fun h => by subst h; obtain ⟨c, hc⟩ := hd; omega
      obtain ⟨q, hq, hqd⟩ := ih d (by omega) (by omega)
      exact ⟨q, hq, Nat.dvd_trans hqd hd⟩
theorem least {n : Nat} (h2 : 2 ≤ n) (hp : ¬ isP n) : ∃ q, isP q ∧ q ∣ n ∧ q * q ≤ n := by
  have : ∃ d, d ∣ n ∧ d ≠ 1 ∧ d ≠ n := by
    apply Classical.byContradiction
    intro hc
    refine hp ⟨h2, fun d hd => ?_⟩
    by_cases h1 : d = 1
    · exact .inl h1
    · by_cases h3 : d = n
      · exact .inr h3
      · exact absurd ⟨d, hd, h1, h3⟩ hc
  obtain ⟨d, ⟨m, hm⟩, d1, d2⟩ := this
  have hd0 : d ≠ 0 := fun h => by rw [h, Nat.zero_mul] at hm; omega
  have hm0 : m ≠ 0 := fun h => by rw [h, Nat.mul_zero] at hm; omega
  have hm1 : m ≠ 1 := fun h => by rw [h, Nat.mul_one] at hm; exact d2 hm.symm
  have go : ∀ u v : Nat, u ≠ 0 → u ≠ 1 → u ≤ v → n = u * v → ∃ q, isP q ∧ q ∣ n ∧ q * q ≤ n := fun u v h0 h1 huv huvn => by
    obtain ⟨q, hq, hqu⟩ := has_p u u (Nat.le_refl u) (by omega)
    have hle := Nat.le_of_dvd (by omega) hqu
    exact ⟨q, hq, huvn ▸ Nat.dvd_trans hqu (Nat.dvd_mul_right u v), by rw [huvn]; exact Nat.mul_le_mul hle (by omega)⟩
  by_cases hc : d ≤ m
  · exact go d m hd0 d1 hc hm
  · exact go m d hm0 hm1 (by omega) (by rw [hm, Nat.mul_comm])
/-! ### powers -/
theorem pow_one_mod {b l : Nat} (hl : 2 ≤ l) (h : b % l = 1) (k : Nat) : b ^ k % l = 1 := by
  rw [Nat.pow_mod, h, Nat.one_pow, Nat.mod_eq_of_lt (by omega)]
theorem pow_gcd {a l : Nat} (hl : 2 ≤ l) (m n : Nat) : a ^ m % l = 1 → a ^ n % l = 1 → a ^ (Nat.gcd m n) % l = 1 := by
  induction m, n using Nat.gcd.induction with
  | H0 n => intro _ h; rwa [Nat.gcd_zero_left]
  | H1 m n hm ih =>
    intro h1 h2
    rw [Nat.gcd_rec]
    refine ih ?_ h1
    have h3 := Nat.div_add_mod n m
    have h4 : a ^ n % l = a ^ (n % m) % l := by
      conv => lhs; rw [← h3, Nat.pow_add, Nat.pow_mul, Nat.mul_mod, pow_one_mod hl h1, Nat.one_mul, Nat.mod_mod]
    rw [← h4]; exact h2
theorem dpp {q d e : Nat} (hq : isP q) (h : d ∣ q ^ (e + 1)) : d = q ^ (e + 1) ∨ d ∣ q ^ e := by
  obtain ⟨m, hm⟩ := h
  have hq0 : 0 < q := by have := hq.1; omega
  by_cases hqm : q ∣ m
  · right
    obtain ⟨c, hc⟩ := hqm
    refine ⟨c, ?_⟩
    have : q * q ^ e = q * (d * c) := by rw [← Nat.pow_succ', hm, hc, Nat.mul_left_comm]
    exact Nat.eq_of_mul_eq_mul_left hq0 this
  · left
    have h1 : Nat.Coprime (q ^ (e + 1)) m := Nat.Coprime.pow_left _ (cop hq hqm)
    have h2 : m ∣ q ^ (e + 1) := ⟨d, by rw [hm, Nat.mul_comm]⟩
    have h3 := Nat.Coprime.eq_one_of_dvd h1.symm h2
    rw [h3, Nat.mul_one] at hm
    exact hm.symm
/-- a prime's power that must go into every prime factor less one -/
theorem pock {n l q a e c : Nat} (hl : isP l) (hln : l ∣ n) (hq : isP q) (hn : n - 1 = q ^ (e + 1) * c) (h1 : a ^ (n - 1) % n = 1) (hg : Nat.gcd (a ^ (q ^ e * c) % n + (n - 1)) n = 1) (hn2 : 2 ≤ n) : q ^ (e + 1) ∣ l - 1 := by
  have hl2 := hl.1
  have m1 : a ^ (n - 1) % l = 1 := by
    rw [← Nat.mod_mod_of_dvd _ hln, h1, Nat.mod_eq_of_lt (by omega)]
  have hn0 : n - 1 ≠ 0 := by omega
  have hla : ¬ l ∣ a := fun h => by
    have : l ∣ a ^ (n - 1) := Nat.dvd_trans h ⟨a ^ (n - 1 - 1), by rw [← Nat.pow_succ']; congr 1; omega⟩
    rw [Nat.mod_eq_zero_of_dvd this] at m1; cases m1
  have f1 : (a ^ c) ^ (l - 1) % l = 1 := by
    rw [← Nat.pow_mul, Nat.mul_comm, Nat.pow_mul]; exact pow_one_mod hl2 (fermat hl hla) c
  have f2 : (a ^ c) ^ (q ^ (e + 1)) % l = 1 := by rw [← Nat.pow_mul, Nat.mul_comm, ← hn]; exact m1
  have f3 := pow_gcd hl2 _ _ f2 f1
  rcases dpp hq (Nat.gcd_dvd_left (q ^ (e + 1)) (l - 1)) with h | h
  · rw [← h]; exact Nat.gcd_dvd_right _ _
  · exfalso
    obtain ⟨k, hk⟩ := h
    have f4 : (a ^ c) ^ (q ^ e) % l = 1 := by rw [hk, Nat.pow_mul]; exact pow_one_mod hl2 f3 k
    rw [← Nat.pow_mul, Nat.mul_comm] at f4
    have f5 : a ^ (q ^ e * c) % n % l = 1 := by rw [Nat.mod_mod_of_dvd _ hln]; exact f4
    obtain ⟨t, ht⟩ := hln
    have f6 : l ∣ a ^ (q ^ e * c) % n + (n - 1) := by
      have h7 := Nat.div_add_mod (a ^ (q ^ e * c) % n) l
      rw [f5] at h7
      have ht0 : t ≠ 0 := fun h => by rw [h, Nat.mul_zero] at ht; omega
      refine ⟨a ^ (q ^ e * c) % n / l + t, ?_⟩
      rw [Nat.mul_add, ← ht]
      omega
    have : l ∣ 1 := by rw [← hg]; exact Nat.dvd_gcd f6 ⟨t, ht⟩
    have := Nat.le_of_dvd (by decide) this
    omega
theorem big {n F : Nat} (hn : 2 ≤ n) (hF : n < (F + 1) * (F + 1)) (h : ∀ l, isP l → l ∣ n → F ∣ l - 1) : isP n := by
  apply Classical.byContradiction
  intro hp
  obtain ⟨q, hq, hqn, hqq⟩ := least hn hp
  have h1 := hq.1
  have h2 := Nat.le_of_dvd (by omega) (h q hq hqn)
  have := Nat.mul_le_mul (show F + 1 ≤ q by omega) (show F + 1 ≤ q by omega)
  omega
/-! ### powers, reckoned -/
def pm (n : Nat) : Nat → Nat → Nat → Nat
  | 0, _, _ => 1 % n
  | f + 1, a, e => if e = 0 then 1 % n else if e % 2 = 1 then a * pm n f (a * a % n) (e / 2) % n else pm n f (a * a % n) (e / 2)
theorem pm_ok (n : Nat) : ∀ f a e, e < 2 ^ f → pm n f a e = a ^ e % n
  | 0, a, e, h => by have : e = 0 := by simpa using h
                     subst this; rfl
  | f + 1, a, e, h => by
    unfold pm
    by_cases h0 : e = 0
    · subst h0; rfl
    · rw [if_neg h0, pm_ok n f _ _ (by rw [Nat.pow_succ] at h; omega)]
      have hd := Nat.div_add_mod e 2
      have h2 : (a * a % n) ^ (e / 2) % n = a ^ (2 * (e / 2)) % n := by
        rw [← Nat.pow_mod, Nat.pow_mul, Nat.pow_two]
      by_cases h1 : e % 2 = 1
      · rw [if_pos h1, h2, Nat.mul_mod_mod, Nat.mul_comm, ← Nat.pow_succ]
        congr 2; omega
      · rw [if_neg h1, h2]
        congr 2; omega
theorem pock' {n l q a e c : Nat} (f : Nat) (hf : n ≤ 2 ^ f) (hl : isP l) (hln : l ∣ n) (hq : isP q) (hn : n - 1 = q ^ (e + 1) * c) (h1 : pm n f a (n - 1) = 1) (hg : Nat.gcd (pm n f a (q ^ e * c) + (n - 1)) n = 1) (hn2 : 2 ≤ n) : q ^ (e + 1) ∣ l - 1 := by
  have hlt : q ^ e * c ≤ n - 1 := by
    rw [hn, Nat.pow_succ, Nat.mul_right_comm]
    exact Nat.le_mul_of_pos_right _ (by have := hq.1; omega)
  rw [pm_ok n f a (n - 1) (by omega)] at h1
  rw [pm_ok n f a _ (by omega)] at hg
  exact pock hl hln hq hn h1 hg hn2
theorem small' {n : Nat} (k : Nat) (h2 : 2 ≤ n) (hk : n < k * k) (h : (List.range k).all (fun d => decide (d < 2) || n % d != 0) = true) : isP n :=
  small h2 hk fun d hd hd2 => by
    have := List.all_eq_true.1 h d (List.mem_range.2 hd)
    simp only [Bool.or_eq_true, decide_eq_true_eq, bne_iff_ne] at this
    omega
theorem p_little : isP 65521 := small' 256 (by decide) (by decide) (by decide +kernel)
theorem p2 : isP 2 := small' 2 (by decide) (by decide) (by decide)
theorem p3 : isP 3 := small' 2 (by decide) (by decide) (by decide)
theorem p11 : isP 11 := small' 4 (by decide) (by decide) (by decide)
theorem p13 : isP 13 := small' 4 (by decide) (by decide) (by decide)
theorem p19 : isP 19 := small' 5 (by decide) (by decide) (by decide)
theorem p10177 : isP 10177 := small' 101 (by decide) (by decide) (by decide +kernel)
theorem p125527 : isP 125527 := small' 355 (by decide) (by decide) (by decide +kernel)
theorem p859267 : isP 859267 := small' 927 (by decide) (by decide) (by decide +kernel)
theorem p906349 : isP 906349 := small' 953 (by decide) (by decide) (by decide +kernel)
theorem p2192917 : isP 2192917 := small' 1481 (by decide) (by decide) (by decide +kernel)
def nM : Nat := 72057594037927889
theorem p_middle : isP nM := by
  refine big (F := 2 ^ 4 * 13 ^ 1 * 2192917 ^ 1) (by decide +kernel) (by decide +kernel) fun l hl hln => ?_
  have a1 := pock' (n := nM) (l := l) (q := 2) (a := 3) (e := 3) (c := (nM - 1) / 2 ^ 4) 60 (by decide +kernel) hl hln p2 (by decide +kernel) (by decide +kernel) (by decide +kernel) (by decide +kernel)
  have a2 := pock' (n := nM) (l := l) (q := 13) (a := 3) (e := 0) (c := (nM - 1) / 13) 60 (by decide +kernel) hl hln p13 (by decide +kernel) (by decide +kernel) (by decide +kernel) (by decide +kernel)
  have a3 := pock' (n := nM) (l := l) (q := 2192917) (a := 3) (e := 0) (c := (nM - 1) / 2192917) 60 (by decide +kernel) hl hln p2192917 (by decide +kernel) (by decide +kernel) (by decide +kernel) (by decide +kernel)
  exact Nat.Coprime.mul_dvd_of_dvd_of_dvd (by decide +kernel) (Nat.Coprime.mul_dvd_of_dvd_of_dvd (by decide +kernel) a1 a2) a3
def nG : Nat := 52435875175126190479447740508185965837690552500527637822603658699938581184513
theorem p_great : isP nG := by
  refine big (F := 2 ^ 32 * 3 ^ 1 * 11 ^ 1 * 19 ^ 1 * 10177 ^ 1 * 125527 ^ 1 * 859267 ^ 1 * 906349 ^ 2) (by decide +kernel) (by decide +kernel) fun l hl hln => ?_
  have a1 := pock' (n := nG) (l := l) (q := 2) (a := 7) (e := 31) (c := (nG - 1) / 2 ^ 32) 256 (by decide +kernel) hl hln p2 (by decide +kernel) (by decide +kernel) (by decide +kernel) (by decide +kernel)
  have a2 := pock' (n := nG) (l := l) (q := 3) (a := 7) (e := 0) (c := (nG - 1) / 3) 256 (by decide +kernel) hl hln p3 (by decide +kernel) (by decide +kernel) (by decide +kernel) (by decide +kernel)
  have a3 := pock' (n := nG) (l := l) (q := 11) (a := 7) (e := 0) (c := (nG - 1) / 11) 256 (by decide +kernel) hl hln p11 (by decide +kernel) (by decide +kernel) (by decide +kernel) (by decide +kernel)
  have a4 := pock' (n := nG) (l := l) (q := 19) (a := 7) (e := 0) (c := (nG - 1) / 19) 256 (by decide +kernel) hl hln p19 (by decide +kernel) (by decide +kernel) (by decide +kernel) (by decide +kernel)
  have a5 := pock' (n := nG) (l := l) (q := 10177) (a := 7) (e := 0) (c := (nG - 1) / 10177) 256 (by decide +kernel) hl hln p10177 (by decide +kernel) (by decide +kernel) (by decide +kernel) (by decide +kernel)
  have a6 := pock' (n := nG) (l := l) (q := 125527) (a := 7) (e := 0) (c := (nG - 1) / 125527) 256 (by decide +kernel) hl hln p125527 (by decide +kernel) (by decide +kernel) (by decide +kernel) (by decide +kernel)
  have a7 := pock' (n := nG) (l := l) (q := 859267) (a := 7) (e := 0) (c := (nG - 1) / 859267) 256 (by decide +kernel) hl hln p859267 (by decide +kernel) (by decide +kernel) (by decide +kernel) (by decide +kernel)
  have a8 := pock' (n := nG) (l := l) (q := 906349) (a := 7) (e := 1) (c := (nG - 1) / 906349 ^ 2) 256 (by decide +kernel) hl hln p906349 (by decide +kernel) (by decide +kernel) (by decide +kernel) (by decide +kernel)
  have c2 := Nat.Coprime.mul_dvd_of_dvd_of_dvd (by decide +kernel) a1 a2
  have c3 := Nat.Coprime.mul_dvd_of_dvd_of_dvd (by decide +kernel) c2 a3
  have c4 := Nat.Coprime.mul_dvd_of_dvd_of_dvd (by decide +kernel) c3 a4
  have c5 := Nat.Coprime.mul_dvd_of_dvd_of_dvd (by decide +kernel) c4 a5
  have c6 := Nat.Coprime.mul_dvd_of_dvd_of_dvd (by decide +kernel) c5 a6
  have c7 := Nat.Coprime.mul_dvd_of_dvd_of_dvd (by decide +kernel) c6 a7
  exact Nat.Coprime.mul_dvd_of_dvd_of_dvd (by decide +kernel) c7 a8
end Np
