/- Plain laws on decimal digits, the lowest first. No program here. -/
import Derived.Test.YtenekbfnlbipiaaDoorPlain
namespace Go.Proofs.YtenekbfnlbipiaaDoor
open Go.RowKit
set_option linter.unusedVariables false
set_option linter.unusedSimpArgs false
set_option maxHeartbeats 4000000
set_option maxRecDepth 100000

def dval : List Nat → Nat
  | [] => 0
  | x :: l => x + 10 * dval l
def digsF : Nat → Nat → List Nat
  | 0, _ => []
  | k + 1, n => if n = 0 then [] else n % 10 :: digsF k (n / 10)
/-- The digits of a number, the lowest first; nought has none. -/
def digs (n : Nat) : List Nat := digsF n n
def Dg (l : List Nat) : Prop := ∀ x ∈ l, x < 10
theorem Dg.nil : Dg [] := by intro x h; cases h
theorem Dg.cons {x : Nat} {l : List Nat} (hx : x < 10) (h : Dg l) : Dg (x :: l) := by
  intro y hy; rcases List.mem_cons.1 hy with rfl | hy
  · exact hx
  · exact h y hy
theorem Dg.tail {x : Nat} {l : List Nat} (h : Dg (x :: l)) : Dg l := fun y hy => h y (List.mem_cons_of_mem _ hy)
theorem Dg.head {x : Nat} {l : List Nat} (h : Dg (x :: l)) : x < 10 := h x List.mem_cons_self
theorem Dg.append {a b : List Nat} (ha : Dg a) (hb : Dg b) : Dg (a ++ b) := by
  intro y hy; rcases List.mem_append.1 hy with h | h
  · exact ha y h
  · exact hb y h
theorem dval_append (a b : List Nat) : dval (a ++ b) = dval a + 10 ^ a.length * dval b := by
  induction a with
  | nil => simp [dval]
  | cons x a ih => simp only [List.cons_append, dval, ih, List.length_cons, Nat.pow_succ]; grind
theorem dval_lt {l : List Nat} (h : Dg l) : dval l < 10 ^ l.length := by
  induction l with
  | nil => simp [dval]
  | cons x l ih =>
    have := ih h.tail
    have hx := h.head
    simp only [dval, List.length_cons, Nat.pow_succ]
    omega
theorem digsF_val : ∀ k n : Nat, n ≤ k → dval (digsF k n) = n
  | 0, n, h => by obtain rfl : n = 0 := by omega
                  rfl
  | k + 1, n, h => by
    unfold digsF
    by_cases h0 : n = 0
    · rw [if_pos h0, h0]; rfl
    · rw [if_neg h0]
      simp only [dval]
      rw [digsF_val k (n / 10) (by omega)]
      omega
theorem digsF_dg : ∀ k n : Nat, Dg (digsF k n)
  | 0, n => Dg.nil
  | k + 1, n => by
    unfold digsF
    by_cases h0 : n = 0
    · rw [if_pos h0]; exact Dg.nil
    · rw [if_neg h0]; exact Dg.cons (by omega) (digsF_dg k _)
theorem digsF_low : ∀ k n : Nat, n ≤ k → n ≠ 0 → 10 ^ ((digsF k n).length - 1) ≤ n
  | 0, n, h, h0 => by omega
  | k + 1, n, h, h0 => by
    unfold digsF
    rw [if_neg h0]
    by_cases h1 : n / 10 = 0
    · have : digsF k (n / 10) = [] := by
        rw [h1]; cases k <;> simp [digsF]
      rw [this]; simp; omega
    · have ih := digsF_low k (n / 10) (by omega) h1
      have hl : digsF k (n / 10) ≠ [] := by
        intro e
        have := digsF_val k (n / 10) (by omega)
        rw [e] at this
        exact h1 this.symm
      have hp : 0 < (digsF k (n / 10)).length := List.length_pos_iff.2 hl
      rw [List.length_cons, Nat.add_sub_cancel]
      have e : 10 ^ (digsF k (n / 10)).length = 10 ^ ((digsF k (n / 10)).length - 1) * 10 := by
        rw [← Nat.pow_succ]; congr 1; omega
      rw [e]
      omega
@[simp] theorem dval_digs (n : Nat) : dval (digs n) = n := digsF_val n n (Nat.le_refl n)
theorem dg_digs (n : Nat) : Dg (digs n) := digsF_dg n n
theorem digs_low {n : Nat} (h : n ≠ 0) : 10 ^ ((digs n).length - 1) ≤ n := digsF_low n n (Nat.le_refl n) h
theorem digs_lt (n : Nat) : n < 10 ^ (digs n).length := by
  have := dval_lt (dg_digs n); rw [dval_digs] at this; exact this
theorem dval_inj : ∀ {a b : List Nat}, a.length = b.length → Dg a → Dg b → dval a = dval b → a = b
  | [], [], _, _, _, _ => rfl
  | x :: s, y :: t, hl, ga, gb, h => by
    have hx := ga.head
    have hy := gb.head
    simp only [dval] at h
    have h1 : x = y := by omega
    have h2 : dval s = dval t := by omega
    rw [h1, dval_inj (by simpa using hl) ga.tail gb.tail h2]
theorem pow10_lt {a b n : Nat} (ha : 10 ^ (a - 1) ≤ n) (hb : n < 10 ^ b) : a ≤ b := by
  rcases Nat.lt_or_ge b a with h | h
  · have : 10 ^ b ≤ 10 ^ (a - 1) := Nat.pow_le_pow_right (by decide) (by omega)
    omega
  · exact h
/-- The one list of digits. -/
theorem digs_of {l : List Nat} (h : Dg l) (hl : l = [] ∨ 10 ^ (l.length - 1) ≤ dval l) : digs (dval l) = l := by
  rcases hl with rfl | hl
  · rfl
  · have h1 := dval_lt h
    have h0 : dval l ≠ 0 := by have : 0 < 10 ^ (l.length - 1) := Nat.pow_pos (by decide); omega
    have h2 := digs_low h0
    have h3 := digs_lt (dval l)
    exact dval_inj (Nat.le_antisymm (pow10_lt h2 h1) (pow10_lt hl h3)) (dg_digs _) h (dval_digs _)
theorem digs_nil {n : Nat} : digs n = [] ↔ n = 0 := by
  constructor
  · intro h; have := dval_digs n; rw [h] at this; exact this.symm
  · intro h; rw [h]; rfl
/-- How many digits: the one number so that the power of ten one below is not above it. -/
theorem digs_length {n k : Nat} (h1 : 10 ^ (k - 1) ≤ n) (h2 : n < 10 ^ k) : (digs n).length = k := by
  have h0 : n ≠ 0 := by have : 0 < 10 ^ (k - 1) := Nat.pow_pos (by decide); omega
  exact Nat.le_antisymm (pow10_lt (digs_low h0) h2) (pow10_lt h1 (digs_lt n))
/-- The bytes of a number's text. -/
def textL (n : Nat) : List Nat := if n = 0 then [48] else ((digs n).map (48 + ·)).reverse
theorem textL_zero : textL 0 = [48] := rfl
theorem textL_pos {n : Nat} (h : n ≠ 0) : textL n = ((digs n).map (48 + ·)).reverse := by unfold textL; rw [if_neg h]
theorem textL_length {n k : Nat} (h1 : 10 ^ (k - 1) ≤ n) (h2 : n < 10 ^ k) : (textL n).length = k := by
  have h0 : n ≠ 0 := by have : 0 < 10 ^ (k - 1) := Nat.pow_pos (by decide); omega
  rw [textL_pos h0]; simp [digs_length h1 h2]
theorem digs_bound {n b : Nat} (h : n < 2 ^ b) : (digs n).length ≤ b + 1 := by
  by_cases h0 : n = 0
  · rw [h0]; simp [digs, digsF]
  · have h1 := digs_low h0
    have h2 : 2 ^ ((digs n).length - 1) ≤ 10 ^ ((digs n).length - 1) := Nat.pow_le_pow_left (by decide) _
    rcases Nat.lt_or_ge b ((digs n).length - 1) with h3 | h3
    · have : 2 ^ b ≤ 2 ^ ((digs n).length - 1) := Nat.pow_le_pow_right (by decide) (by omega)
      omega
    · omega
theorem low_bound {n b k : Nat} (h : n < 2 ^ b) (hk : 10 ^ (k - 1) ≤ n) : k ≤ b + 1 := by
  have h2 : 2 ^ (k - 1) ≤ 10 ^ (k - 1) := Nat.pow_le_pow_left (by decide) _
  rcases Nat.lt_or_ge b (k - 1) with h3 | h3
  · have : 2 ^ b ≤ 2 ^ (k - 1) := Nat.pow_le_pow_right (by decide) (by omega)
    omega
  · omega
/-- One digit more of a number: what is left, R, gives its last one. -/
theorem digit_step {N R : Nat} {ds : List Nat} (h : N = dval ds + 10 ^ ds.length * R) : N = dval (ds ++ [R % 10]) + 10 ^ (ds ++ [R % 10]).length * (R / 10) := by
  rw [dval_append, List.length_append]
  simp only [List.length_singleton, dval, Nat.pow_succ]
  have := Nat.mod_add_div R 10
  generalize R % 10 = a at *
  generalize R / 10 = b at *
  grind
theorem digit_low {N R : Nat} {ds : List Nat} (h : N = dval ds + 10 ^ ds.length * R) (hR : 0 < R) (d : Nat) : 10 ^ ((ds ++ [d]).length - 1) ≤ N := by
  rw [List.length_append, List.length_singleton, Nat.add_sub_cancel, h]
  have : 10 ^ ds.length * 1 ≤ 10 ^ ds.length * R := Nat.mul_le_mul_left _ hR
  omega
end Go.Proofs.YtenekbfnlbipiaaDoor
