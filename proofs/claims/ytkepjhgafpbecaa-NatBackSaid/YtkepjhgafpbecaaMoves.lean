/- What NatMoves asks of plain numbers; small. -/
import Derived.Test.YtkepjhgafpbecaaSq
import Derived.Test.YtkepjhgafpbecaaDown
import Derived.Test.YtkepjhgafpbecaaLow
import Derived.Test.YtkepjhgafpbecaaSm
import Derived.Test.YtkepjhgafpbecaaM
import Derived.Test.YtkepjhgafpbecaaOpen
namespace Go.Proofs.Ytkepjhgafpbecaa
open Go.RowKit
set_option linter.unusedVariables false
set_option linter.unusedSimpArgs false
set_option maxHeartbeats 4000000
set_option maxRecDepth 100000

theorem own_cap {w : World} {t : TypeId} {B c : Nat} {A : Option Addr} {l : List Nat} (h : Own w t B A c l) : l.length ≤ c := by
  rcases h.2.2 with ⟨_, rfl, _⟩ | ⟨_, _, _, _, _, h, _⟩
  · exact Nat.zero_le _
  · exact h
theorem small_any (A : Option Addr) (l : List Nat) (n c : Nat) (hn : n = l.length) (K : Int) (hK : 0 ≤ K) (w : World) (h : Rd w A l) :
    Calls Try.prog 45 #[.agg #[.slice A n c], .int .i64 K] w (Says w (.bool (decide (chk l = 0 ∧ ((l.length : Nat) : Int) ≤ K)))) := by
  have h1 := h.alloc (Obj.cells #[Value.slice A n c] 35)
  by_cases hc : chk l = 0
  · have HC := Lib.hid hc
    by_cases hk : ((l.length : Nat) : Int) ≤ K
    · rw [decide_eq_true ⟨hc, hk⟩]
      have hk2 : decide ((n : Int) ≤ K) = true := by rw [decide_eq_true_iff, hn]; exact hk
      have hk3 : (n : Int) ≤ K := by rw [hn]; exact hk
      have HN := Lib.hid hn
      clear hc hk hn
      go_enter Try.func45, Try.ntmps45
      go_wp2_with fail
      refine (nat_Check A l n c HN.out _ h1).mono ?_
      rintro e w1 ⟨rfl, hb1⟩
      rw [HC.out]
      obtain ⟨hc1, hf1⟩ := bcell hb1
      have hbw1 : Below w.heap.size w w1 := Below.trans (b := _) (by repeat' (first | (with_reducible assumption) | (with_reducible exact Below.refl _ _) | (with_reducible refine bdn ?_ _) | (with_reducible refine Below.drew ?_) | (with_reducible refine Below.setCell ?_ ?_ _) | (with_reducible refine Below.alloc ?_ ?_ _) | go_size)) (hb1.mono (by go_size))
      have hz1_0 : w.heap.size < w1.heap.size := by have := hb1.size; simp at this; omega
      go_wp2
      go_ret
      exact ⟨rfl, (by repeat' (first | (with_reducible assumption) | (with_reducible exact Below.refl _ _) | (with_reducible refine bdn ?_ _) | (with_reducible refine Below.drew ?_) | (with_reducible refine Below.setCell ?_ ?_ _) | (with_reducible refine Below.alloc ?_ ?_ _) | go_size))⟩
    · rw [decide_eq_false (fun h => hk h.2)]
      have hk2 : decide ((n : Int) ≤ K) = false := by rw [decide_eq_false_iff_not, hn]; exact hk
      have hk3 : ¬ (n : Int) ≤ K := by rw [hn]; exact hk
      have HN := Lib.hid hn
      clear hc hk hn
      go_enter Try.func45, Try.ntmps45
      go_wp2_with fail
      refine (nat_Check A l n c HN.out _ h1).mono ?_
      rintro e w1 ⟨rfl, hb1⟩
      rw [HC.out]
      obtain ⟨hc1, hf1⟩ := bcell hb1
      have hbw1 : Below w.heap.size w w1 := Below.trans (b := _) (by repeat' (first | (with_reducible assumption) | (with_reducible exact Below.refl _ _) | (with_reducible refine bdn ?_ _) | (with_reducible refine Below.drew ?_) | (with_reducible refine Below.setCell ?_ ?_ _) | (with_reducible refine Below.alloc ?_ ?_ _) | go_size)) (hb1.mono (by go_size))
      have hz1_0 : w.heap.size < w1.heap.size := by have := hb1.size; simp at this; omega
      go_wp2
      go_ret
      exact ⟨rfl, (by repeat' (first | (with_reducible assumption) | (with_reducible exact Below.refl _ _) | (with_reducible refine bdn ?_ _) | (with_reducible refine Below.drew ?_) | (with_reducible refine Below.setCell ?_ ?_ _) | (with_reducible refine Below.alloc ?_ ?_ _) | go_size))⟩
  · rw [decide_eq_false (fun h => hc h.1)]
    have hne : (chk l == 0) = false := by rw [beq_eq_false_iff_ne]; exact hc
    have HN := Lib.hid hn
    clear hc hn
    go_enter Try.func45, Try.ntmps45
    go_wp2_with fail
    refine (nat_Check A l n c HN.out _ h1).mono ?_
    rintro e w1 ⟨rfl, hb1⟩
    obtain ⟨hc1, hf1⟩ := bcell hb1
    have hbw1 : Below w.heap.size w w1 := Below.trans (b := _) (by repeat' (first | (with_reducible assumption) | (with_reducible exact Below.refl _ _) | (with_reducible refine bdn ?_ _) | (with_reducible refine Below.drew ?_) | (with_reducible refine Below.setCell ?_ ?_ _) | (with_reducible refine Below.alloc ?_ ?_ _) | go_size)) (hb1.mono (by go_size))
    have hz1_0 : w.heap.size < w1.heap.size := by have := hb1.size; simp at this; omega
    go_wp2
    go_ret
    exact ⟨rfl, (by repeat' (first | (with_reducible assumption) | (with_reducible exact Below.refl _ _) | (with_reducible refine bdn ?_ _) | (with_reducible refine Below.drew ?_) | (with_reducible refine Below.setCell ?_ ?_ _) | (with_reducible refine Below.alloc ?_ ?_ _) | go_size))⟩
theorem chk_lm {x : Nat} (h : (limbs x).length ≤ 16384) : chk (limbs x) = 0 := by
  unfold chk; rw [if_neg (by omega), if_neg (last_limbs x)]
theorem chk2_lm {x y : Nat} (hx : (limbs x).length ≤ 16384) (hy : (limbs y).length ≤ 16384) : chk2 (limbs x) (limbs y) = 0 := by
  unfold chk2; rw [if_pos (chk_lm hx)]; exact chk_lm hy
theorem pow_len {k e : Nat} (h : k < 32 * e) : (limbs (2 ^ k)).length ≤ e := by
  rw [length_limbs_le, show (4294967296 : Nat) = 2 ^ 32 from by decide, ← Nat.pow_mul]
  exact Nat.pow_lt_pow_right (by decide) h
theorem pow_many {k e : Nat} (h : 32 * e ≤ k) : e < (limbs (2 ^ k)).length := by
  have h1 := length_limbs_le (2 ^ k) e
  rw [show (4294967296 : Nat) = 2 ^ 32 from by decide, ← Nat.pow_mul] at h1
  rcases Nat.lt_or_ge e (limbs (2 ^ k)).length with h2 | h2
  · exact h2
  · have h3 := h1.1 h2
    have h4 := (Nat.pow_lt_pow_iff_right (a := 2) (by decide)).1 h3
    omega
theorem two_len {k : Nat} (h : k ≤ 5000) : (limbs (2 ^ k)).length ≤ 157 := pow_len (by omega)
theorem bitLen_shift {x k : Nat} (h : x ≠ 0) : bitLen (x * 2 ^ k) = bitLen x + k := by
  unfold bitLen
  rw [if_neg h, if_neg (Nat.mul_ne_zero h (Nat.ne_of_gt (Nat.two_pow_pos k)))]
  have h1 := Nat.log2_self_le h
  have h2 := Nat.lt_log2_self (n := x)
  have hp := Nat.two_pow_pos k
  have e : (x * 2 ^ k).log2 = x.log2 + k := by
    rw [Nat.log2_eq_iff (Nat.mul_ne_zero h (Nat.ne_of_gt hp))]
    constructor
    · rw [Nat.pow_add]; exact Nat.mul_le_mul_right _ h1
    · rw [show x.log2 + k + 1 = x.log2 + 1 + k from by omega, Nat.pow_add]
      exact Nat.mul_lt_mul_of_pos_right h2 hp
  rw [e]; omega
theorem moves_plain {a : List Nat} (hs : Sm a) (hc : chk a = 0) (hl : a.length ≤ 4000) {k : Nat} (hk : k ≤ 5000) (i : Nat) :
    powS 2 (k : Int) = (limbs (2 ^ k), 0) ∧ upS a (k : Int) = (limbs (val a * 2 ^ k), 0) ∧ mulS a (limbs (2 ^ k)) = (limbs (val a * 2 ^ k), 0) ∧ downS a (k : Int) = (limbs (val a / 2 ^ k), 0) ∧
    divS a (limbs (2 ^ k)) = (limbs (val a / 2 ^ k), limbs (val a % 2 ^ k), 0) ∧ downS (limbs (val a * 2 ^ k)) (k : Int) = (a, 0) ∧
    bitS (limbs (val a * 2 ^ k)) ((i : Int) + (k : Int)) = ((val a).testBit i, 0) ∧ bitS a (i : Int) = ((val a).testBit i, 0) ∧
    (bitsS a = (((bitLen (val a) : Nat) : Int), 0) ∧ bitsS (limbs (val a * 2 ^ k)) = (((bitLen (val a * 2 ^ k) : Nat) : Int), 0) ∧
      ((bitLen (val a) = 0 ∧ bitLen (val a * 2 ^ k) = 0) ∨ bitLen (val a * 2 ^ k) = bitLen (val a) + k) ∧ bitLen (val a) ≤ 128000) := by
  have hca := limbs_of hs (chk_zero hc).2
  have hbl : bitLen (val a) ≤ 128000 := by
    have h1 := val_lt hs
    have h2 : val a < 2 ^ (32 * a.length) := by rw [Nat.pow_mul]; exact h1
    exact Nat.le_trans (bitLen_le h2) (by omega)
  generalize val a = x at *
  subst hca
  have h2l := two_len hk
  have hlu : (limbs (x * 2 ^ k)).length ≤ 16384 := Nat.le_trans (limbs_mul_le _ _) (by omega)
  have hp := Nat.two_pow_pos k
  refine ⟨?_, ?_, ?_, ?_, ?_, ?_, ?_, ?_, ?_, ?_, ?_, hbl⟩
  · unfold powS
    by_cases h0 : k = 0
    · subst h0; rfl
    · rw [if_neg (by omega), if_neg (by omega), if_neg (by decide), if_neg (by omega), Int.toNat_natCast, fitS_ok (by omega)]
  · unfold upS
    rw [if_pos hc, if_neg (by omega)]
    by_cases h0 : limbs x = []
    · rw [if_pos h0]
      rw [limbs_eq_nil] at h0
      subst h0; rw [Nat.zero_mul]; rfl
    · rw [if_neg h0, val_limbs, if_neg (by omega), Int.toNat_natCast]
  · rw [mulS_limbs (by omega) (by omega), fitS_ok hlu]
  · unfold downS; rw [if_pos hc, if_neg (by omega), val_limbs, Int.toNat_natCast]
  · unfold divS; rw [if_pos (chk2_lm (by omega) (by omega)), val_limbs, val_limbs, if_neg (by omega)]
  · unfold downS; rw [if_pos (chk_lm hlu), if_neg (by omega), val_limbs, Int.toNat_natCast, Nat.mul_div_cancel _ hp]
  · unfold bitS
    rw [if_pos (chk_lm hlu), if_neg (by omega), val_limbs, show ((i : Int) + (k : Int)).toNat = k + i from by omega, Nat.mul_comm x, Nat.testBit_two_pow_mul, decide_eq_true (by omega), Bool.true_and, Nat.add_sub_cancel_left]
  · unfold bitS; rw [if_pos hc, if_neg (by omega), val_limbs, Int.toNat_natCast]
  · unfold bitsS; rw [if_pos hc, val_limbs]
  · unfold bitsS; rw [if_pos (chk_lm hlu), val_limbs]
  · by_cases h0 : x = 0
    · subst h0; left; rw [Nat.zero_mul]; exact ⟨rfl, rfl⟩
    · exact .inr (bitLen_shift h0)
end Go.Proofs.Ytkepjhgafpbecaa
