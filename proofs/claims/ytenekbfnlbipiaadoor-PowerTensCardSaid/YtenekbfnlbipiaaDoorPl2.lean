/- Plain laws: products and powers of numbers as limbs. No program here. -/
import Derived.Test.YtenekbfnlbipiaaDoorPlain
namespace Go.Proofs.YtenekbfnlbipiaaDoor
open Go.RowKit
set_option linter.unusedVariables false
set_option linter.unusedSimpArgs false
set_option maxHeartbeats 4000000
set_option maxRecDepth 100000

theorem limbs_mono {x y : Nat} (h : x ≤ y) : (limbs x).length ≤ (limbs y).length := by
  rw [length_limbs_le]
  have := val_lt (sm_limbs y)
  rw [val_limbs] at this
  omega
theorem limbs_low {x : Nat} (h : x ≠ 0) : 4294967296 ^ ((limbs x).length - 1) ≤ x := by
  have := val_pos_of_last (l := limbs x) (by rw [ne_eq, limbs_eq_nil]; exact h) (last_limbs x)
  rw [val_limbs] at this; exact this
theorem limbs_pos {x : Nat} (h : x ≠ 0) : 0 < (limbs x).length := List.length_pos_iff.2 (by rw [ne_eq, limbs_eq_nil]; exact h)
theorem limbs_mul_len {x y : Nat} (hx : x ≠ 0) (hy : y ≠ 0) : (limbs x).length + (limbs y).length ≤ (limbs (x * y)).length + 1 := by
  have h1 := limbs_low hx
  have h2 := limbs_low hy
  have p1 := limbs_pos hx
  have p2 := limbs_pos hy
  have h3 := Nat.mul_le_mul h1 h2
  rw [← Nat.pow_add] at h3
  rcases Nat.lt_or_ge ((limbs (x * y)).length + 1) ((limbs x).length + (limbs y).length) with h | h
  · exfalso
    have h4 : (limbs (x * y)).length ≤ (limbs x).length - 1 + ((limbs y).length - 1) := by omega
    rw [length_limbs_le] at h4
    omega
  · exact h
theorem limbs_mul_le (x y : Nat) : (limbs (x * y)).length ≤ (limbs x).length + (limbs y).length := by
  rw [length_limbs_le, Nat.pow_add]
  have h1 := val_lt (sm_limbs x)
  have h2 := val_lt (sm_limbs y)
  rw [val_limbs] at h1 h2
  exact Nat.mul_lt_mul'' h1 h2
theorem mulS_limbs {x y : Nat} (hx : (limbs x).length ≤ 16384) (hy : (limbs y).length ≤ 16384) : mulS (limbs x) (limbs y) = fitS (x * y) := by
  unfold mulS
  have h1 : chk2 (limbs x) (limbs y) = 0 := by unfold chk2; rw [if_pos (chk_limbs_of hx)]; exact chk_limbs_of hy
  rw [if_pos h1, val_limbs, val_limbs]
  by_cases h2 : 16385 < (limbs x).length + (limbs y).length
  · rw [if_pos h2]
    have hx0 : x ≠ 0 := by rintro rfl; simp [limbs_zero] at h2; omega
    have hy0 : y ≠ 0 := by rintro rfl; simp [limbs_zero] at h2; omega
    have := limbs_mul_len hx0 hy0
    unfold fitS
    rw [if_pos (by omega)]
  · rw [if_neg h2]
theorem fitS_ok {x : Nat} (h : (limbs x).length ≤ 16384) : fitS x = (limbs x, 0) := by unfold fitS; rw [if_neg (by omega)]
theorem fitS_many {x : Nat} (h : 16384 < (limbs x).length) : fitS x = ([], 4) := by unfold fitS; rw [if_pos h]
/-- A base to a power, or the fault. -/
def powS (b : Nat) (n : Int) : List Nat × Int :=
  if n < 0 then ([], 2) else if n = 0 then (limbs 1, 0) else if b < 2 then (limbs b, 0) else if 524288 < n then ([], 4) else fitS (b ^ n.toNat)
theorem le_of_pow {x y k N : Nat} (hx : 0 < x) (hy : 0 < y) (hk : 1 ≤ k) (h : x * y ^ k = N) : x * y ≤ N := by
  rw [← h]
  refine Nat.mul_le_mul_left _ ?_
  calc y = y ^ 1 := (Nat.pow_one y).symm
    _ ≤ y ^ k := Nat.pow_le_pow_right hy hk
theorem sq_le_of_pow {x y k N : Nat} (hx : 0 < x) (hy : 0 < y) (hk : 2 ≤ k) (h : x * y ^ k = N) : y * y ≤ N := by
  rw [← h]
  have h1 : y * y = y ^ 2 := by rw [Nat.pow_two]
  have h2 : y ^ 2 ≤ y ^ k := Nat.pow_le_pow_right hy hk
  have h3 : 1 * y ^ k ≤ x * y ^ k := Nat.mul_le_mul_right _ hx
  omega
theorem pow_odd {x y k N : Nat} (hk : k % 2 = 1) (h : x * y ^ k = N) : (x * y) * (y * y) ^ (k / 2) = N := by
  rw [← h, Nat.mul_assoc]
  congr 1
  have e : k = 2 * (k / 2) + 1 := by omega
  conv => rhs; rw [e, Nat.pow_succ, Nat.pow_mul, Nat.pow_two]
  exact Nat.mul_comm _ _
theorem pow_even {x y k N : Nat} (hk : k % 2 = 0) (h : x * y ^ k = N) : x * (y * y) ^ (k / 2) = N := by
  rw [← h]
  congr 1
  have e : k = 2 * (k / 2) := by omega
  conv => rhs; rw [e, Nat.pow_mul, Nat.pow_two]
end Go.Proofs.YtenekbfnlbipiaaDoor
