/- Walks: power's and the document's Digits and Two; the law PowerDigits. -/
import Derived.Test.YtkepjhgafpbecaaF
import Derived.Test.YtkepjhgafpbecaaG
import Derived.Test.YtkepjhgafpbecaaPD
namespace Go.Proofs.Ytkepjhgafpbecaa
open Go.RowKit
set_option linter.unusedVariables false
set_option linter.unusedSimpArgs false
set_option maxHeartbeats 4000000
set_option maxRecDepth 100000

/-- How many digits a number has. -/
def nd (n : Nat) : Nat := (textL n).length
theorem nd_small {n : Nat} (h : n ≤ 9) : nd n = 1 := by
  unfold nd
  by_cases h0 : n = 0
  · subst h0; rfl
  · exact textL_length (k := 1) (by simp; omega) (by simp; omega)
theorem digs_step {n : Nat} (h : n ≠ 0) : (digs n).length = 1 + (digs (n / 10)).length := by
  by_cases h1 : n / 10 = 0
  · have e : (digs n).length = 1 := digs_length (by simp; omega) (by simp; omega)
    rw [e, h1]; rfl
  · have h2 := digs_low h1
    have h3 := digs_lt (n / 10)
    have hp : 0 < (digs (n / 10)).length := by
      rcases Nat.eq_zero_or_pos (digs (n / 10)).length with h | h
      · exfalso; apply h1; exact digs_nil.1 (List.eq_nil_of_length_eq_zero h)
      · exact h
    refine digs_length ?_ ?_
    · rw [Nat.add_sub_cancel_left]
      have e : 10 ^ (digs (n / 10)).length = 10 ^ ((digs (n / 10)).length - 1) * 10 := by rw [← Nat.pow_succ]; congr 1; omega
      rw [e]; omega
    · rw [Nat.add_comm, Nat.pow_succ]; omega
theorem nd_step {n : Nat} (h : 9 < n) : nd n = 1 + nd (n / 10) := by
  unfold nd
  rw [textL_pos (by omega), textL_pos (by omega)]
  simp only [List.length_reverse, List.length_map]
  exact digs_step (by omega)

theorem nd_bound {n : Nat} (h : n < 18446744073709551616) : nd n ≤ 70 := by
  unfold nd
  by_cases h0 : n = 0
  · subst h0; decide
  · rw [textL_pos h0]
    have := digs_bound (n := n) (b := 64) h
    simp; omega
theorem limbs_len2 {n : Nat} (h : n < 18446744073709551616) : (limbs n).length ≤ 2 := by
  rw [length_limbs_le]; exact h
theorem limbs_pow_len' (m : Nat) : (limbs (2 ^ m)).length ≤ m / 32 + 1 := by
  rw [length_limbs_le]
  have e : 4294967296 ^ (m / 32 + 1) = 2 ^ (32 * (m / 32 + 1)) := by rw [Nat.pow_mul]
  rw [e]
  exact Nat.pow_lt_pow_right (by decide) (by omega)
theorem limbs_pow_len {m : Nat} (h : m ≤ 65536) : (limbs (2 ^ m)).length ≤ 2049 := by
  have := limbs_pow_len' m; omega
theorem textS_limbs {n : Nat} (h : (limbs n).length ≤ 16384) : textS (limbs n) = (bstr (textL n), 0) := by
  unfold textS
  rw [if_pos (chk_limbs_of h), val_limbs]
theorem upS_one {m : Nat} (h : m ≤ 65536) : upS (limbs 1) (m : Int) = (limbs (2 ^ m), 0) := by
  unfold upS
  have h1 : chk (limbs 1) = 0 := chk_limbs_of (by rw [limbs_small (by omega) (by omega)]; simp)
  have h2 : ¬ limbs 1 = [] := by rw [limbs_eq_nil]; omega
  have h3 : bitLen (val (limbs 1)) = 1 := by rw [val_limbs, bitLen_half (by omega)]; rfl
  rw [if_pos h1, if_neg (by omega), if_neg h2, h3, if_neg (by omega), val_limbs, Nat.one_mul, Int.toNat_natCast]
theorem nd_pow {m : Nat} (h : m ≤ 65536) : nd (2 ^ m) = m * 5553023288523357132 / 18446744073709551616 + 1 := by
  have := two_digits m h
  unfold nd
  generalize m * 5553023288523357132 / 18446744073709551616 = d at this ⊢
  exact textL_length (by rw [Nat.add_sub_cancel]; exact this.1) this.2

theorem power_Digits (N : Int) (n : Nat) (hN : N = (n : Int)) (hn : n < 18446744073709551616) (w : World) :
    Calls Try.prog 16 #[.int .u64 N] w fun e w' => e = .returned (.int .i64 (nd n : Nat)) ∧ w = w' := by
  subst hN
  go_enter Try.func16, Try.ntmps16
  go_wp2
  go_loop [0, 3] (fun v d => ∃ (x k : Nat), x ≤ n ∧ v = .int .u64 (x : Int) ∧ d = .int .i64 (k : Int) ∧ 1 ≤ k ∧ (k : Nat) + nd x = 1 + nd n ∧ k ≤ n + 1 - x + 1) (fun v _ => (intOf v).toNat)
  case atStart => exact ⟨n, 1, Nat.le_refl _, rfl, rfl, by omega, rfl, by omega⟩
  case round =>
    obtain ⟨x, k, hx, rfl, rfl, hk, hs, hkn⟩ := hrel
    have HS := Lib.hid hs
    clear hs
    by_cases h9 : 9 < x
    · have H2 := Lib.hid (nd_step h9)
      have hk64 : k < 1000 := by have := HS.out; have := nd_bound hn; omega
      go_wp2
      go_round
      case rel => exact ⟨x / 10, k + 1, by omega, vi (by omega), by go_num, by omega, by have := HS.out; have := H2.out; omega, by omega⟩
      case measure => first | (simp [intOf]; done) | (simp [intOf]; omega)
    · have H2 := Lib.hid (nd_small (n := x) (by omega))
      go_wp2
      go_ret
      exact ⟨ret_int (by have := HS.out; have := H2.out; omega), rfl⟩

/-- What both packages' Two answer. -/
def twoS (m : Int) : Int × Int := if m < 0 ∨ 65536 < m then (0, 2) else (((nd (2 ^ m.toNat) : Nat) : Int), 0)

theorem power_Two (m : Int) (hm1 : -9223372036854775808 ≤ m) (hm2 : m ≤ 9223372036854775807) (w : World) :
    Calls Try.prog 14 #[.int .i64 m] w fun e w' => e = .returned (.tuple #[.int .i64 (twoS m).1, .int .i64 (twoS m).2]) ∧ w = w' := by
  by_cases h0 : m < 0
  · have e : twoS m = (0, 2) := by unfold twoS; rw [if_pos (.inl h0)]
    rw [e]
    have hB : decide (m < 0) = true := by simpa using h0
    go_enter Try.func14, Try.ntmps14
    go_wp2
    go_ret2
    exact ⟨rfl, rfl⟩
  · by_cases h1 : 65536 < m
    · have e : twoS m = (0, 2) := by unfold twoS; rw [if_pos (.inr h1)]
      rw [e]
      have hB : decide (m < 0) = false := by simpa using h0
      have hB2 : decide (65536 < m) = true := by simpa using h1
      go_enter Try.func14, Try.ntmps14
      go_wp2
      go_ret2
      exact ⟨rfl, rfl⟩
    · obtain ⟨m, rfl⟩ : ∃ k : Nat, m = (k : Int) := ⟨m.toNat, by omega⟩
      have e : twoS (m : Int) = (((nd (2 ^ m) : Nat) : Int), 0) := by unfold twoS; rw [if_neg (by omega), Int.toNat_natCast]
      rw [e, nd_pow (by omega)]
      have hB : decide ((m : Int) < 0) = false := by simp
      have hB2 : decide ((65536 : Int) < (m : Int)) = false := by simpa using h1
      obtain ⟨q, hq2⟩ : ∃ q, q = m * 5553023288523357132 / 18446744073709551616 := ⟨_, rfl⟩
      have hq : q ≤ 65536 := by omega
      rw [← hq2]
      have HQ := Lib.hid hq2
      clear hq2
      go_enter Try.func14, Try.ntmps14
      go_wp2_with fail
      refine (bits_Mul64 _ _ m 5553023288523357132 rfl rfl (by omega) (by decide) _).mono ?_
      rintro e w' ⟨rfl, rfl⟩
      rw [← HQ.out]
      go_wp2
      go_ret2
      exact ⟨ret_pair (by omega) rfl, rfl⟩

theorem ref_Digits (N : Int) (n : Nat) (hN : N = (n : Int)) (hn : n < 18446744073709551616) (w : World) :
    Calls Try.prog 17 #[.int .u64 N] w fun e w' => e = .returned (.int .i64 (nd n : Nat)) ∧ Below w.heap.size w w' := by
  subst hN
  have hsz : (bstr (textL n)).size = nd n := bstr_size _
  have hnb := nd_bound hn
  have hts := Lib.hid (textS_limbs (n := n) (by have := limbs_len2 hn; omega))
  go_enter Try.func17, Try.ntmps17
  go_wp2_with fail
  refine (ref_Of _ n rfl hn _).mono ?_
  rintro e w1 ⟨A, c, rfl, ho, hb1⟩
  go_wp2_with fail
  refine (ref_Text A (limbs n) _ c rfl _ ho.rd).mono ?_
  rintro e w2 ⟨rfl, hb2⟩
  rw [hts.out]
  go_wp2
  go_ret
  exact ⟨rfl, hb1.trans (hb2.mono hb1.size)⟩

theorem ref_Two (m : Int) (hm1 : -9223372036854775808 ≤ m) (hm2 : m ≤ 9223372036854775807) (w : World) :
    Calls Try.prog 15 #[.int .i64 m] w fun e w' => e = .returned (.tuple #[.int .i64 (twoS m).1, .int .i64 (twoS m).2]) ∧ Below w.heap.size w w' := by
  by_cases h0 : m < 0
  · have e : twoS m = (0, 2) := by unfold twoS; rw [if_pos (.inl h0)]
    rw [e]
    have hB : decide (m < 0) = true := by simpa using h0
    go_enter Try.func15, Try.ntmps15
    go_wp2
    go_ret2
    exact ⟨rfl, Below.refl _ _⟩
  · by_cases h1 : 65536 < m
    · have e : twoS m = (0, 2) := by unfold twoS; rw [if_pos (.inr h1)]
      rw [e]
      have hB : decide (m < 0) = false := by simpa using h0
      have hB2 : decide (65536 < m) = true := by simpa using h1
      go_enter Try.func15, Try.ntmps15
      go_wp2
      go_ret2
      exact ⟨rfl, Below.refl _ _⟩
    · obtain ⟨m, rfl⟩ : ∃ k : Nat, m = (k : Int) := ⟨m.toNat, by omega⟩
      have e : twoS (m : Int) = (((nd (2 ^ m) : Nat) : Int), 0) := by unfold twoS; rw [if_neg (by omega), Int.toNat_natCast]
      rw [e]
      have hB : decide ((m : Int) < 0) = false := by simp
      have hB2 : decide ((65536 : Int) < (m : Int)) = false := by simpa using h1
      have hsz : (bstr (textL (2 ^ m))).size = nd (2 ^ m) := bstr_size _
      have hts := Lib.hid (textS_limbs (n := 2 ^ m) (by have := limbs_pow_len (m := m) (by omega); omega))
      have hus := Lib.hid (upS_one (m := m) (by omega))
      have hnb : nd (2 ^ m) ≤ 65537 := by rw [nd_pow (by omega)]; omega
      go_enter Try.func15, Try.ntmps15
      go_wp2_with fail
      refine (ref_Of 1 1 rfl (by decide) _).mono ?_
      rintro e w1 ⟨A, c, rfl, ho, hb1⟩
      go_wp2_with fail
      refine (ref_Up A (limbs 1) _ c rfl (m : Int) (by omega) (by omega) _ ho.rd).mono ?_
      rintro e w2 ⟨A2, c2, rfl, ho2, hb2⟩
      rw [hus.out] at ho2 ⊢
      go_wp2_with fail
      refine (ref_Text A2 (limbs (2 ^ m)) _ c2 rfl _ (ho2.rd.alloc _)).mono ?_
      rintro e w3 ⟨rfl, hb3⟩
      rw [hts.out]
      go_wp2
      go_ret2
      exact ⟨rfl, (hb1.trans (hb2.mono hb1.size)).trans (((Below.refl _ _).alloc (Nat.le_trans hb1.size hb2.size) _).trans (hb3.mono (by have := hb1.size; have := hb2.size; simp; omega)))⟩
end Go.Proofs.Ytkepjhgafpbecaa
