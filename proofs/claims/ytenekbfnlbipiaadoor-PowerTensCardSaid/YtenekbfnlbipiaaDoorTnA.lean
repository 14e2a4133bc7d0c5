/- Plain: powers of ten as 128 bits; no program here. -/
import Derived.Test.YtenekbfnlbipiaaDoorPl2
import Derived.Laws.MathBits
namespace Go.Proofs.YtenekbfnlbipiaaDoor
open Go.RowKit
set_option linter.unusedVariables false
set_option linter.unusedSimpArgs false
set_option maxHeartbeats 4000000
set_option maxRecDepth 100000

/-- How many bits 5 to the power of |k| has. -/
def tS (k : Int) : Nat := bitLen (5 ^ k.natAbs)
/-- The 128 bits. -/
def tenN (k : Int) : Nat := if k < 0 then 2 ^ (tS k + 127) / 5 ^ k.natAbs else if tS k ≤ 128 then 5 ^ k.natAbs * 2 ^ (128 - tS k) else 5 ^ k.natAbs / 2 ^ (tS k - 128)
def tenE (k : Int) : Int := if k < 0 then k - ((tS k : Int) + 127) else k + (tS k : Int) - 128
def tenX (k : Int) : Bool := !decide (k < 0) && decide (tS k ≤ 128)
def farB (k : Int) : Bool := decide (k < -400) || decide (400 < k)
theorem bits_lo : ∀ j : Fin 401, 2 ^ 127 ≤ tenN (j.val : Int) ∧ tenN (j.val : Int) < 2 ^ 128 ∧ 2 ^ 127 ≤ tenN (-((j.val + 1 : Nat) : Int)) ∧ tenN (-((j.val + 1 : Nat) : Int)) < 2 ^ 128 ∧ tS (j.val : Int) ≤ 930 := by decide +kernel
theorem tS_neg (j : Nat) : tS (-(j : Int)) = tS (j : Int) := by unfold tS; rw [Int.natAbs_neg]
theorem ten_cases {k : Int} (h : farB k = false) : (∃ j : Nat, j ≤ 400 ∧ k = (j : Int)) ∨ ∃ j : Nat, 1 ≤ j ∧ j ≤ 400 ∧ k = -(j : Int) := by
  simp only [farB, Bool.or_eq_false_iff, decide_eq_false_iff_not] at h
  by_cases h0 : 0 ≤ k
  · exact .inl ⟨k.toNat, by omega, by omega⟩
  · exact .inr ⟨(-k).toNat, by omega, by omega, by omega⟩
theorem tenN_bd {k : Int} (h : farB k = false) : 2 ^ 127 ≤ tenN k ∧ tenN k < 2 ^ 128 := by
  rcases ten_cases h with ⟨j, hj, rfl⟩ | ⟨j, h1, hj, rfl⟩
  · have := bits_lo ⟨j, by omega⟩
    exact ⟨this.1, this.2.1⟩
  · have := bits_lo ⟨j - 1, by omega⟩
    simp only at this
    rw [show j - 1 + 1 = j by omega] at this
    exact ⟨this.2.2.1, this.2.2.2.1⟩
theorem tS_le {k : Int} (h : farB k = false) : tS k ≤ 930 := by
  rcases ten_cases h with ⟨j, hj, rfl⟩ | ⟨j, h1, hj, rfl⟩
  · exact (bits_lo ⟨j, by omega⟩).2.2.2.2
  · rw [tS_neg]; exact (bits_lo ⟨j, by omega⟩).2.2.2.2
/-! ### the document's way -/
theorem ref_neg : ∀ j : Fin 401, 2 ^ (bitLen (10 ^ j.val) + 127) / 10 ^ j.val = 2 ^ (bitLen (5 ^ j.val) + 127) / 5 ^ j.val ∧ bitLen (10 ^ j.val) = bitLen (5 ^ j.val) + j.val := by decide +kernel
theorem ref_low : ∀ j : Fin 401, bitLen (10 ^ j.val) ≤ 128 → 10 ^ j.val * 2 ^ (128 - bitLen (10 ^ j.val)) = tenN (j.val : Int) ∧ tenX (j.val : Int) = true := by decide +kernel
theorem ref_high : ∀ j : Fin 401, ¬ bitLen (10 ^ j.val) ≤ 128 → 10 ^ j.val / 2 ^ (bitLen (10 ^ j.val) - 128) = tenN (j.val : Int) ∧ tenX (j.val : Int) = decide (10 ^ j.val / 2 ^ (bitLen (10 ^ j.val) - 128) * 2 ^ (bitLen (10 ^ j.val) - 128) = 10 ^ j.val) := by decide +kernel
theorem len10 : ∀ j : Fin 401, 10 ^ j.val < 4294967296 ^ 42 := by decide +kernel
theorem len5 : ∀ j : Fin 401, 5 ^ j.val < 4294967296 ^ 30 := by decide +kernel
theorem bl10 : ∀ j : Fin 401, bitLen (10 ^ j.val) ≤ 1330 := by decide +kernel
end Go.Proofs.YtenekbfnlbipiaaDoor
