/- Plain law: how many digits a power of two has, by the logarithm of 2 in 64 bits. No program here. -/
import Derived.Test.YtkepjhgafpbecaaDec
namespace Go.Proofs.Ytkepjhgafpbecaa
open Go.RowKit
set_option linter.unusedVariables false
set_option linter.unusedSimpArgs false
set_option maxHeartbeats 4000000
set_option maxRecDepth 100000

/-- The logarithm of 2 lies between 8651/28738 and 12655/42039. -/
def p1 : Nat := 8651
def q1 : Nat := 28738
def p2 : Nat := 12655
def q2 : Nat := 42039
theorem pow_low : Nat.ble (10 ^ p1) (2 ^ q1) = true := by decide +kernel
theorem pow_high : Nat.ble (2 ^ q2) (10 ^ p2) = true := by decide +kernel

/-- What lies at or below the lower of two fractions, and what lies at or above the higher one: no fraction of a small denominator lies between them. -/
theorem ten_le {p q : Nat} (h : 10 ^ p ≤ 2 ^ q) (hq : 0 < q) {d n : Nat} (hd : d * q ≤ n * p) : 10 ^ d ≤ 2 ^ n := by
  rcases Nat.lt_or_ge (2 ^ n) (10 ^ d) with hlt | hge
  · exfalso
    have h1 : (2 ^ n) ^ q < (10 ^ d) ^ q := Nat.pow_lt_pow_left hlt (by omega)
    have h2 : (10 ^ d) ^ q ≤ (10 ^ p) ^ n := by
      rw [← Nat.pow_mul, ← Nat.pow_mul]
      exact Nat.pow_le_pow_right (by decide) (by rw [Nat.mul_comm p n]; exact hd)
    have h3 : (10 ^ p) ^ n ≤ (2 ^ q) ^ n := Nat.pow_le_pow_left h n
    have h4 : (2 ^ q) ^ n = (2 ^ n) ^ q := by rw [← Nat.pow_mul, ← Nat.pow_mul, Nat.mul_comm]
    omega
  · exact hge
theorem two_lt {p q : Nat} (h : 2 ^ q < 10 ^ p) (hq : 0 < q) {d n : Nat} (hn : 0 < n) (hd : n * p ≤ d * q) : 2 ^ n < 10 ^ d := by
  rcases Nat.lt_or_ge (2 ^ n) (10 ^ d) with hlt | hge
  · exact hlt
  · exfalso
    have h1 : (10 ^ d) ^ q ≤ (2 ^ n) ^ q := Nat.pow_le_pow_left hge q
    have h2 : (10 ^ p) ^ n ≤ (10 ^ d) ^ q := by
      rw [← Nat.pow_mul, ← Nat.pow_mul]
      exact Nat.pow_le_pow_right (by decide) (by rw [Nat.mul_comm p n]; exact hd)
    have h3 : (2 ^ q) ^ n < (10 ^ p) ^ n := Nat.pow_lt_pow_left h (by omega)
    have h4 : (2 ^ q) ^ n = (2 ^ n) ^ q := by rw [← Nat.pow_mul, ← Nat.pow_mul, Nat.mul_comm]
    omega
theorem low_le : 10 ^ p1 ≤ 2 ^ q1 := Nat.le_of_ble_eq_true pow_low
theorem high_lt : 2 ^ q2 < 10 ^ p2 := by
  rcases Nat.lt_or_ge (2 ^ q2) (10 ^ p2) with h | h
  · exact h
  · have h1 : 2 ^ q2 ≤ 10 ^ p2 := Nat.le_of_ble_eq_true pow_high
    have h2 : 2 ^ q2 = 10 ^ p2 := Nat.le_antisymm h1 h
    exfalso
    have h5 : ∀ k, 5 ∣ 2 ^ k → False := by
      intro k
      induction k with
      | zero => decide
      | succ k ih => rw [Nat.pow_succ]; intro h; apply ih; omega
    refine h5 q2 ?_
    have h6 : ∀ k, 0 < k → 5 ∣ 10 ^ k := by
      intro k hk
      obtain ⟨j, rfl⟩ : ∃ j, k = j + 1 := ⟨k - 1, by omega⟩
      rw [Nat.pow_succ]
      exact ⟨10 ^ j * 2, by omega⟩
    rw [h2]
    exact h6 p2 (by decide)
theorem no_between {d n : Nat} (hn : n ≤ 65536) (h1 : n * 8651 < d * 28738) (h2 : d * 42039 < n * 12655) : False := by omega
theorem two_digits (n : Nat) (hn : n ≤ 65536) : 10 ^ (n * 5553023288523357132 / 18446744073709551616) ≤ 2 ^ n ∧ 2 ^ n < 10 ^ (n * 5553023288523357132 / 18446744073709551616 + 1) := by
  by_cases h0 : n = 0
  · subst h0; decide
  constructor
  · refine ten_le low_le (by decide) ?_
    show n * 5553023288523357132 / 18446744073709551616 * 28738 ≤ n * 8651
    have hd : n * 5553023288523357132 / 18446744073709551616 * 18446744073709551616 ≤ n * 5553023288523357132 := Nat.div_mul_le_self _ _
    generalize n * 5553023288523357132 / 18446744073709551616 = d at hd ⊢
    rcases Nat.lt_or_ge (n * 8651) (d * 28738) with h | h
    · exact (no_between hn h (by omega)).elim
    · exact h
  · refine two_lt high_lt (by decide) (by omega) ?_
    show n * 12655 ≤ (n * 5553023288523357132 / 18446744073709551616 + 1) * 42039
    have hd : n * 5553023288523357132 < (n * 5553023288523357132 / 18446744073709551616 + 1) * 18446744073709551616 := by
      have := Nat.div_add_mod (n * 5553023288523357132) 18446744073709551616
      have := Nat.mod_lt (n * 5553023288523357132) (show 0 < 18446744073709551616 by decide)
      omega
    generalize n * 5553023288523357132 / 18446744073709551616 + 1 = d at hd ⊢
    rcases Nat.lt_or_ge (d * 42039) (n * 12655) with h | h
    · exact (no_between hn (by omega) h).elim
    · exact h
end Go.Proofs.Ytkepjhgafpbecaa
