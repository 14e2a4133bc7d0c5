/- Plain law: how many digits a power of two has, by the logarithm of 2 in 64 bits. No program here. -/
import Derived.Test.YtenekbfnlbipiaaDoorApp
import Derived.Test.YtenekbfnlbipiaaDoorE
import Derived.Test.YtenekbfnlbipiaaDoorSuAC
namespace Go.Proofs.YtenekbfnlbipiaaDoor
open Go.RowKit
set_option linter.unusedVariables false
set_option linter.unusedSimpArgs false
set_option maxHeartbeats 4000000
set_option maxRecDepth 100000

/-- The logarithm of 2 lies between 8651/28738 and 12655/42039. -/
def p1 : Nat := 8651
def q1 : Nat := 28738
def p2 : Nat := 12655
def q2 : Nat := 42039
theorem pow_low : Nat.ble (10 ^ p1) (2 ^ q1) = true := by decide +kernel
theorem pow_high : Nat.ble (2 ^ q2) (10 ^ p2) = true := by decide +kernel

/-- What lies at or below the lower of two fractions, and what lies at or above the higher one: no fraction of a small denominator lies between them. -/
theorem ten_le {p q : Nat} (h : 10 ^ p ≤ 2 ^ q) (hq : 0 < q) {d n : Nat} (hd : d * q ≤ n * p) : 10 ^ d ≤ 2 ^ n := by
  rcases Nat.lt_or_ge (2 ^ n) (10 ^ d) with hlt | hge
  · exfalso
    have h1 : (2 ^ n) ^ q < (10 ^ d) ^ q := Nat.pow_lt_pow_left hlt (by omega)
    have h2 : (10 ^ d) ^ q ≤ (10 ^ p) ^ n := by
      rw [← Nat.pow_mul, ← Nat.pow_mul]
      exact Nat.pow_le_pow_right (by decide) (by rw [Nat.mul_comm p n]; exact hd)
    have h3 : (10 ^ p) ^ n ≤ (2 ^ q) ^ n := Nat.pow_le_pow_left h n
    have h4 : (2 ^ q) ^ n = (2 ^ n) ^ q := by rw [← Nat.pow_mul, ← Nat.pow_mul, Nat.mul_comm]
    omega
  · exact hge
theorem two_lt {p q : Nat} (h : 2 ^ q < 10 ^ p) (hq : 0 < q) {d n : Nat} (hn : 0 < n) (hd : n * p ≤ d * q) : 2 ^ n < 10 ^ d := by
  rcases Nat.lt_or_ge (2 ^ n) (10 ^ d) with hlt | hge
  · exact hlt
  · exfalso
    have h1 : (10 ^ d) ^ q ≤ (2 ^ n) ^ q := Nat.pow_le_pow_left hge q
    have h2 : (10 ^ p) ^ n ≤ (10 ^ d) ^ q := by
      rw [← Nat.pow_mul, ← Nat.pow_mul]
      exact Nat.pow_le_pow_right (by decide) (by rw [Nat.mul_comm p n]; exact hd)
    have h3 : (2 ^ q) ^ n < (10 ^ p) ^ n := Nat.pow_lt_pow_left h (by omega)
    have h4 : (2 ^ q) ^ n = (2 ^ n) ^ q := by rw [← Nat.pow_mul, ← Nat.pow_mul, Nat.mul_comm]
    omega
theorem low_le : 10 ^ p1 ≤ 2 ^ q1 := Nat.le_of_ble_eq_true pow_low
theorem high_lt : 2 ^ q2 < 10 ^ p2 := by
  rcases Nat.lt_or_ge (2 ^ q2) (10 ^ p2) with h | h
  · exact h
  · have h1 : 2 ^ q2 ≤ 10 ^ p2 := Nat.le_of_ble_eq_true pow_high
    have h2 : 2 ^ q2 = 10 ^ p2 := Nat.le_antisymm h1 h
    exfalso
    have h5 : ∀ k, 5 ∣ 2 ^ k → False := by
      intro k
      induction k with
      | zero => decide
      | succ k ih => rw [Nat.pow_succ]; intro h; apply ih; omega
    refine h5 q2 ?_
    have h6 : ∀ k, 0 < k → 5 ∣ 10 ^ k := by
      intro k hk
      obtain ⟨j, rfl⟩ : ∃ j, k = j + 1 := ⟨k - 1, by omega⟩
      rw [Nat.pow_succ]
      exact ⟨10 ^ j * 2, by omega⟩
    rw [h2]
    exact h6 p2 (by decide)
theorem no_between {d n : Nat} (hn : n ≤ 65536) (h1 : n * 8651 < d * 28738) (h2 : d * 42039 < n * 12655) : False := by omega
theorem two_digits (n : Nat) (hn : n ≤ 65536) : 10 ^ (n * 5553023288523357132 / 18446744073709551616) ≤ 2 ^ n ∧ 2 ^ n < 10 ^ (n * 5553023288523357132 / 18446744073709551616 + 1) := by
  by_cases h0 : n = 0
  · subst h0; decide
  constructor
  · refine ten_le low_le (by decide) ?_
    show n * 5553023288523357132 / 18446744073709551616 * 28738 ≤ n * 8651
    have hd : n * 5553023288523357132 / 18446744073709551616 * 18446744073709551616 ≤ n * 5553023288523357132 := Nat.div_mul_le_self _ _
    generalize n * 5553023288523357132 / 18446744073709551616 = d at hd ⊢
    rcases Nat.lt_or_ge (n * 8651) (d * 28738) with h | h
    · exact (no_between hn h (by omega)).elim
    · exact h
  · refine two_lt high_lt (by decide) (by omega) ?_
    show n * 12655 ≤ (n * 5553023288523357132 / 18446744073709551616 + 1) * 42039
    have hd : n * 5553023288523357132 < (n * 5553023288523357132 / 18446744073709551616 + 1) * 18446744073709551616 := by
      have := Nat.div_add_mod (n * 5553023288523357132) 18446744073709551616
      have := Nat.mod_lt (n * 5553023288523357132) (show 0 < 18446744073709551616 by decide)
      omega
    generalize n * 5553023288523357132 / 18446744073709551616 + 1 = d at hd ⊢
    rcases Nat.lt_or_ge (d * 42039) (n * 12655) with h | h
    · exact (no_between hn (by omega) h).elim
    · exact h
end Go.Proofs.YtenekbfnlbipiaaDoor
namespace Go.Proofs.YtenekbfnlbipiaaDoor
open Go.RowKit
set_option linter.unusedVariables false
set_option linter.unusedSimpArgs false
set_option maxHeartbeats 4000000
set_option maxRecDepth 100000

/-- How many digits a number has. -/
def nd (n : Nat) : Nat := (textL n).length
theorem nd_small {n : Nat} (h : n ≤ 9) : nd n = 1 := by
  unfold nd
  by_cases h0 : n = 0
  · subst h0; rfl
  · exact textL_length (k := 1) (by simp; omega) (by simp; omega)
theorem digs_step {n : Nat} (h : n ≠ 0) : (digs n).length = 1 + (digs (n / 10)).length := by
  by_cases h1 : n / 10 = 0
  · have e : (digs n).length = 1 := digs_length (by simp; omega) (by simp; omega)
    rw [e, h1]; rfl
  · have h2 := digs_low h1
    have h3 := digs_lt (n / 10)
    have hp : 0 < (digs (n / 10)).length := by
      rcases Nat.eq_zero_or_pos (digs (n / 10)).length with h | h
      · exfalso; apply h1; exact digs_nil.1 (List.eq_nil_of_length_eq_zero h)
      · exact h
    refine digs_length ?_ ?_
    · rw [Nat.add_sub_cancel_left]
      have e : 10 ^ (digs (n / 10)).length = 10 ^ ((digs (n / 10)).length - 1) * 10 := by rw [← Nat.pow_succ]; congr 1; omega
      rw [e]; omega
    · rw [Nat.add_comm, Nat.pow_succ]; omega
theorem nd_step {n : Nat} (h : 9 < n) : nd n = 1 + nd (n / 10) := by
  unfold nd
  rw [textL_pos (by omega), textL_pos (by omega)]
  simp only [List.length_reverse, List.length_map]
  exact digs_step (by omega)

theorem nd_bound {n : Nat} (h : n < 18446744073709551616) : nd n ≤ 70 := by
  unfold nd
  by_cases h0 : n = 0
  · subst h0; decide
  · rw [textL_pos h0]
    have := digs_bound (n := n) (b := 64) h
    simp; omega
theorem limbs_len2 {n : Nat} (h : n < 18446744073709551616) : (limbs n).length ≤ 2 := by
  rw [length_limbs_le]; exact h
theorem limbs_pow_len' (m : Nat) : (limbs (2 ^ m)).length ≤ m / 32 + 1 := by
  rw [length_limbs_le]
  have e : 4294967296 ^ (m / 32 + 1) = 2 ^ (32 * (m / 32 + 1)) := by rw [Nat.pow_mul]
  rw [e]
  exact Nat.pow_lt_pow_right (by decide) (by omega)
theorem limbs_pow_len {m : Nat} (h : m ≤ 65536) : (limbs (2 ^ m)).length ≤ 2049 := by
  have := limbs_pow_len' m; omega
theorem textS_limbs {n : Nat} (h : (limbs n).length ≤ 16384) : textS (limbs n) = (bstr (textL n), 0) := by
  unfold textS
  rw [if_pos (chk_limbs_of h), val_limbs]
theorem upS_one {m : Nat} (h : m ≤ 65536) : upS (limbs 1) (m : Int) = (limbs (2 ^ m), 0) := by
  unfold upS
  have h1 : chk (limbs 1) = 0 := chk_limbs_of (by rw [limbs_small (by omega) (by omega)]; simp)
  have h2 : ¬ limbs 1 = [] := by rw [limbs_eq_nil]; omega
  have h3 : bitLen (val (limbs 1)) = 1 := by rw [val_limbs, bitLen_half (by omega)]; rfl
  rw [if_pos h1, if_neg (by omega), if_neg h2, h3, if_neg (by omega), val_limbs, Nat.one_mul, Int.toNat_natCast]
theorem nd_pow {m : Nat} (h : m ≤ 65536) : nd (2 ^ m) = m * 5553023288523357132 / 18446744073709551616 + 1 := by
  have := two_digits m h
  unfold nd
  generalize m * 5553023288523357132 / 18446744073709551616 = d at this ⊢
  exact textL_length (by rw [Nat.add_sub_cancel]; exact this.1) this.2

theorem power_Digits (N : Int) (n : Nat) (hN : N = (n : Int)) (hn : n < 18446744073709551616) (w : World) :
    Calls Tryd.prog 21 #[.int .u64 N] w fun e w' => e = .returned (.int .i64 (nd n : Nat)) ∧ w = w' := by
  subst hN
  go_enter Tryd.func21, Tryd.ntmps21
  go_wp2
  go_loop [0, 3] (fun v d => ∃ (x k : Nat), x ≤ n ∧ v = .int .u64 (x : Int) ∧ d = .int .i64 (k : Int) ∧ 1 ≤ k ∧ (k : Nat) + nd x = 1 + nd n ∧ k ≤ n + 1 - x + 1) (fun v _ => (intOf v).toNat)
  case atStart => exact ⟨n, 1, Nat.le_refl _, rfl, rfl, by omega, rfl, by omega⟩
  case round =>
    obtain ⟨x, k, hx, rfl, rfl, hk, hs, hkn⟩ := hrel
    have HS := Lib.hid hs
    clear hs
    by_cases h9 : 9 < x
    · have H2 := Lib.hid (nd_step h9)
      have hk64 : k < 1000 := by have := HS.out; have := nd_bound hn; omega
      go_wp2
      go_round
      case rel => exact ⟨x / 10, k + 1, by omega, vi (by omega), by go_num, by omega, by have := HS.out; have := H2.out; omega, by omega⟩
      case measure => first | (simp [intOf]; done) | (simp [intOf]; omega)
    · have H2 := Lib.hid (nd_small (n := x) (by omega))
      go_wp2
      go_ret
      exact ⟨ret_int (by have := HS.out; have := H2.out; omega), rfl⟩

/-- What both packages' Two answer. -/
def twoS (m : Int) : Int × Int := if m < 0 ∨ 65536 < m then (0, 2) else (((nd (2 ^ m.toNat) : Nat) : Int), 0)

end Go.Proofs.YtenekbfnlbipiaaDoor
namespace Go.Proofs.YtenekbfnlbipiaaDoor
open Go.RowKit
set_option linter.unusedVariables false
set_option linter.unusedSimpArgs false
set_option maxHeartbeats 4000000
set_option maxRecDepth 100000

theorem nd_bd {N : Nat} (h0 : N ≠ 0) (h : N < 9007199254740992) : 10 ^ (nd N - 1) ≤ N ∧ N < 10 ^ nd N ∧ 1 ≤ nd N ∧ nd N ≤ 16 := by
  have e : nd N = (digs N).length := by unfold nd; rw [textL_pos h0, List.length_reverse, List.length_map]
  have h1 := digs_low h0
  have h2 := digs_lt N
  have h3 : (digs N).length ≤ 16 := pow10_lt h1 (Nat.lt_trans h (by decide))
  have h4 : (digs N).length ≠ 0 := by
    intro hz
    exact h0 (digs_nil.1 (List.length_eq_zero_iff.1 hz))
  rw [e]
  exact ⟨h1, h2, by omega, h3⟩
theorem nd_zero : nd 0 = 1 := rfl
/-- Its bits, taken apart. -/
structure WholeF (N L M b : Nat) : Prop where
  hL : L ≤ 52
  hM : M = N * 2 ^ (52 - L)
  m1 : 4503599627370496 ≤ M
  m2 : M < 9007199254740992
  hb : b = (L + 1022) * 4503599627370496 + M
  eq : floatOfInt .f64 (N : Int) = b
theorem whole_f {N : Nat} (h0 : N ≠ 0) (h : N < 9007199254740992) : ∃ L M b, WholeF N L M b := by
  have h1 := Nat.log2_self_le h0
  have h2 : N < 2 ^ (N.log2 + 1) := Nat.lt_log2_self
  have h52 : N.log2 ≤ 52 := by
    apply Nat.le_of_not_lt
    intro hc
    have : 2 ^ 53 ≤ 2 ^ N.log2 := Nat.pow_le_pow_right (by decide) hc
    have e : (2 : Nat) ^ 53 = 9007199254740992 := rfl
    omega
  refine ⟨N.log2, N * 2 ^ (52 - N.log2), _, h52, rfl, ?_, ?_, rfl, float_of N N.log2 h1 h2 h52⟩
  · have := Nat.mul_le_mul_right (2 ^ (52 - N.log2)) h1
    rw [← Nat.pow_add, show N.log2 + (52 - N.log2) = 52 by omega] at this
    exact this
  · have := (Nat.mul_lt_mul_right (Nat.two_pow_pos (52 - N.log2))).2 h2
    rw [← Nat.pow_add, show N.log2 + 1 + (52 - N.log2) = 53 by omega] at this
    exact this
namespace WholeF
variable {N L M b : Nat}
theorem split (h : WholeF N L M b) : Fo.splitF 11 52 b = (false, L + 1023, M - 4503599627370496) := by
  obtain ⟨h1, _, h2, h3, h4, _⟩ := h
  show ((((b / 9223372036854775808 % 2 : Nat) : Int) != 0, b / 4503599627370496 % 2048, b % 4503599627370496)) = _
  have e1 : b / 9223372036854775808 % 2 = 0 := by omega
  have e2 : b / 4503599627370496 % 2048 = L + 1023 := by omega
  have e3 : b % 4503599627370496 = M - 4503599627370496 := by omega
  rw [e1, e2, e3]; rfl
theorem m_eq (h : WholeF N L M b) : mF 52 (L + 1023) (M - 4503599627370496) = M := by
  have := h.m1
  have e : (2 : Nat) ^ 52 = 4503599627370496 := rfl
  unfold mF
  rw [if_neg (by omega), e]; omega
theorem q_eq (_ : WholeF N L M b) : qF 11 52 (L + 1023) = (L : Int) - 52 := by
  have e : (2 : Nat) ^ (11 - 1) = 1024 := rfl
  unfold qF
  rw [if_neg (by omega), e]; omega
theorem under (h : WholeF N L M b) (k : Nat) : underB M ((L : Int) - 52) (k : Int) = decide (N < 10 ^ k) := by
  have hL := h.hL
  unfold underB
  have e1 : ((L : Int) - 52).toNat = 0 := by omega
  have e2 : (-(k : Int)).toNat = 0 := by omega
  have e3 : (-((L : Int) - 52)).toNat = 52 - L := by omega
  rw [e1, e2, e3, Int.toNat_natCast, Nat.pow_zero, Nat.mul_one, Nat.mul_one, h.hM]
  exact decide_eq_decide.2 (Nat.mul_lt_mul_right (Nat.two_pow_pos _))
theorem four (h : WholeF N L M b) : 4 * M = N * 2 ^ (2 - ((L : Int) - 52)).toNat := by
  have hL := h.hL
  have e : (2 - ((L : Int) - 52)).toNat = 2 + (52 - L) := by omega
  rw [e, Nat.pow_add, h.hM]
  rw [show (2 : Nat) ^ 2 = 4 from rfl]; ac_rfl
end WholeF
/-- An answer that is sure. -/
def sureV (ng : Bool) (s : ByteArray) (x : Int) : Value := .tuple #[.agg #[.bool ng, .string s, .int .i64 x], .bool true, .int .i64 0]
theorem whole_digits {N : Nat} (h : N < 9007199254740992) : ∃ ng s x, ∀ W, Tab5 W → TabU W → Calls Tryd.prog 16 #[.agg #[.int .i64 11, .int .i64 52], .int .u64 ((floatOfInt .f64 (N : Int) : Nat) : Int)] W (Says W (sureV ng s x)) := by
  by_cases h0 : N = 0
  · subst h0
    exact ⟨false, _, _, fun W _ _ => digits_no 11 52 0 false false 0 0 false 0 (fun W => open_nought (E := 11) (F := 52) (b := 0) (ng := false) (by decide) (by decide) (by decide) (by decide) (by decide +kernel) (by decide +kernel) W) W⟩
  · obtain ⟨L, M, b, hw⟩ := whole_f h0 h
    obtain ⟨n1, n2, n3, n4⟩ := nd_bd h0 h
    have hL := hw.hL
    have m1 := hw.m1
    have m2 := hw.m2
    have hP : IsFirst (mF 52 (L + 1023) (M - 4503599627370496)) (qF 11 52 (L + 1023)) ((nd N - 1 : Nat) : Int) := by
      rw [hw.m_eq, hw.q_eq]
      refine ⟨?_, ?_⟩
      · rw [hw.under, decide_eq_false_iff_not]; omega
      · rw [show ((nd N - 1 : Nat) : Int) + 1 = ((nd N : Nat) : Int) by omega, hw.under, decide_eq_true_eq]; exact n2
    have hd := fun W hT hU => dig_num (E := 11) (F := 52) (b := b) (by decide) (by decide) (by decide) (by decide) (by have := hw.hb; have e : (2 : Nat) ^ (1 + 11 + 52) = 18446744073709551616 := rfl; omega) hw.split (by show L + 1023 + 1 ≠ 2048; omega) (by omega) hP (by omega) (by omega) (by rw [hw.q_eq]; omega) W hT hU
    rw [hw.m_eq, hw.q_eq] at hd
    obtain ⟨⟨x, s⟩, hr⟩ := whole_dig (x := N) (m := M) (J := 2 ^ (2 - ((L : Int) - 52)).toNat) (q := (L : Int) - 52) (P := ((nd N - 1 : Nat) : Int)) (inn := decide (M % 2 = 0)) (lo := if stF (L + 1023) (M - 4503599627370496) = true then 4 * M - 1 else 4 * M - 2) (by omega) m2 (by omega) rfl hw.four (by split; exact .inr rfl; exact .inl rfl) (by omega) (by omega)
    rw [hr] at hd
    rw [hw.eq]
    exact ⟨_, _, _, hd⟩
theorem whole_somes {N : Nat} (h : N < 9007199254740992) {D : Nat} (h1 : nd N ≤ D) (h2 : D ≤ 17) : ∃ ng s x, ∀ W, Tab5 W → TabU W → Calls Tryd.prog 19 #[.agg #[.int .i64 11, .int .i64 52], .int .u64 ((floatOfInt .f64 (N : Int) : Nat) : Int), .int .i64 (D : Int)] W (Says W (sureV ng s x)) := by
  by_cases h0 : N = 0
  · subst h0
    rw [nd_zero] at h1
    exact ⟨false, _, _, fun W _ _ => some_no 11 52 0 false false 0 0 false (D : Int) (by omega) (fun W => open_nought (E := 11) (F := 52) (b := 0) (ng := false) (by decide) (by decide) (by decide) (by decide) (by decide +kernel) (by decide +kernel) W) W⟩
  · obtain ⟨L, M, b, hw⟩ := whole_f h0 h
    obtain ⟨n1, n2, n3, n4⟩ := nd_bd h0 h
    have hL := hw.hL
    have m1 := hw.m1
    have m2 := hw.m2
    have hP : IsFirst (mF 52 (L + 1023) (M - 4503599627370496)) (qF 11 52 (L + 1023)) ((nd N - 1 : Nat) : Int) := by
      rw [hw.m_eq, hw.q_eq]
      refine ⟨?_, ?_⟩
      · rw [hw.under, decide_eq_false_iff_not]; omega
      · rw [show ((nd N - 1 : Nat) : Int) + 1 = ((nd N : Nat) : Int) by omega, hw.under, decide_eq_true_eq]; exact n2
    have hd := fun W hT hU => some_num (E := 11) (F := 52) (b := b) (by decide) (by decide) (by decide) (by decide) (by have := hw.hb; have e : (2 : Nat) ^ (1 + 11 + 52) = 18446744073709551616 := rfl; omega) hw.split (by show L + 1023 + 1 ≠ 2048; omega) (by omega) hP (by omega) (by omega) (by rw [hw.q_eq]; omega) (n := D) (by omega) h2 W hT hU
    rw [hw.m_eq, hw.q_eq] at hd
    obtain ⟨x, hr⟩ := whole_some (m := M) (q := (L : Int) - 52) (P := ((nd N - 1 : Nat) : Int)) (n := D) (by omega) (by omega)
    rw [hr] at hd
    rw [hw.eq]
    exact ⟨_, _, _, hd⟩
end Go.Proofs.YtenekbfnlbipiaaDoor
