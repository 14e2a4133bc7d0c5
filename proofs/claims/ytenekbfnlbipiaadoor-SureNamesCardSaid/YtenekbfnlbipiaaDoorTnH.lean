/- Walks: the program's Ten, Whole, Times; PowerTens. -/
import Derived.Test.YtenekbfnlbipiaaDoorTnG
import Derived.Test.YtenekbfnlbipiaaDoorBits
import Derived.Laws.Externs
import Derived.Laws.Rows
namespace Go.Proofs.YtenekbfnlbipiaaDoor
open Go.RowKit
set_option linter.unusedVariables false
set_option linter.unusedSimpArgs false
set_option maxHeartbeats 4000000
set_option maxRecDepth 100000

theorem power_Ten (k : Int) (w : World) (hT : Tab5 w) : Calls Tryd.prog 11 #[.int .i64 k] w (Says w (.tuple #[.int .u64 ((tenHi k : Nat) : Int), .int .u64 ((tenLo k : Nat) : Int), .int .i64 (tenEx k), .int .i64 (tenEr k)])) := by
  have h := fun W hT => power_ten k W hT
  unfold TenP at h
  generalize tenHi k = H at h ⊢
  generalize tenLo k = L at h ⊢
  generalize tenEx k = X at h ⊢
  generalize tenEr k = R at h ⊢
  generalize wholeB k = B at h
  go_enter Tryd.func11, Tryd.ntmps11
  go_wp2_with fail
  refine (h _ hT).mono ?_
  rintro e w1 ⟨rfl, hb1⟩
  go_wp2
  go_returns
  exact ⟨rfl, hb1⟩
theorem power_Whole (k : Int) (w : World) (hT : Tab5 w) : Calls Tryd.prog 6 #[.int .i64 k] w (Says w (.tuple #[.bool (wholeB k), .int .i64 (tenEr k)])) := by
  have h := fun W hT => power_ten k W hT
  unfold TenP at h
  generalize tenHi k = H at h
  generalize tenLo k = L at h
  generalize tenEx k = X at h
  generalize tenEr k = R at h ⊢
  generalize wholeB k = B at h ⊢
  go_enter Tryd.func6, Tryd.ntmps6
  go_wp2_with fail
  refine (h _ hT).mono ?_
  rintro e w1 ⟨rfl, hb1⟩
  go_wp2
  go_ret2
  exact ⟨rfl, hb1⟩
theorem run_add64T (x y : Nat) (w : World) : (callFunc 26 #[.int .u64 (x : Int), .int .u64 (y : Int), .int .u64 0]).run Tryd.prog w = .ok (.value (.tuple #[.int .u64 (((x + y) % 18446744073709551616 : Nat) : Int), .int .u64 (((x + y) / 18446744073709551616 : Nat) : Int)])) w := by
  rw [run_callFunc_extern (fn := Tryd.f26) (by kernel_rfl) (by kernel_rfl) (by kernel_rfl) (by kernel_rfl) (e := add64Entry) (by kernel_rfl), run_add64 (x : Int) (y : Int) 0 (by omega) (by omega) (by omega) (by omega)]
  simp
theorem tim_arith {a b m : Nat} (ha : a < 18446744073709551616) (hb : b < 18446744073709551616) (hm : m < 18446744073709551616) :
    (a * 18446744073709551616 + b) * m / 18446744073709551616 / 18446744073709551616 = m * a / 18446744073709551616 + (m * a % 18446744073709551616 + m * b / 18446744073709551616) / 18446744073709551616 ∧
    (a * 18446744073709551616 + b) * m / 18446744073709551616 % 18446744073709551616 = (m * a % 18446744073709551616 + m * b / 18446744073709551616) % 18446744073709551616 ∧
    (a * 18446744073709551616 + b) * m % 18446744073709551616 = m * b % 18446744073709551616 ∧
    m * a / 18446744073709551616 + (m * a % 18446744073709551616 + m * b / 18446744073709551616) / 18446744073709551616 < 18446744073709551616 := by
  have e : (a * 18446744073709551616 + b) * m = m * a * 18446744073709551616 + m * b := by rw [Nat.add_mul, Nat.mul_right_comm, Nat.mul_comm a m, Nat.mul_comm b m]
  rw [e]
  have h1 : m * a ≤ 18446744073709551615 * 18446744073709551615 := Nat.mul_le_mul (by omega) (by omega)
  have h2 : m * b ≤ 18446744073709551615 * 18446744073709551615 := Nat.mul_le_mul (by omega) (by omega)
  generalize m * a = p at h1 ⊢
  generalize m * b = q at h2 ⊢
  omega
theorem power_Times (m : Nat) (hm : m < 18446744073709551616) (k : Int) (w : World) (hT : Tab5 w) :
    Calls Tryd.prog 8 #[.int .u64 (m : Int), .int .i64 k] w (Says w (.tuple #[.int .u64 ((timH m k : Nat) : Int), .int .u64 ((timL m k : Nat) : Int), .bool (timM m k), .int .i64 (tenEr k)])) := by
  have h := fun W hT => power_Ten k W hT
  cases hf : farB k
  · have e : timH m k = tenN k * m / 2 ^ 64 / 2 ^ 64 ∧ timL m k = tenN k * m / 2 ^ 64 % 2 ^ 64 ∧ timM m k = decide (tenN k * m % 2 ^ 64 ≠ 0) ∧ tenEr k = 0 := by
      unfold timH timL timM tenEr; rw [hf]; exact ⟨rfl, rfl, rfl, rfl⟩
    have e2 : (tenHi k = tenN k / 2 ^ 64) ∧ (tenLo k = tenN k % 2 ^ 64) ∧ tenEr k = 0 := by
      unfold tenHi tenLo tenEr; rw [hf]; exact ⟨rfl, rfl, rfl⟩
    rw [e2.1, e2.2.1, e2.2.2] at h
    rw [e.1, e.2.1, e.2.2.1, e.2.2.2]
    have hV := (tenN_bd hf).2
    clear e e2 hf
    generalize tenEx k = X at h
    generalize tenN k = V at h hV ⊢
    have h64 : (2 : Nat) ^ 64 = 18446744073709551616 := rfl
    rw [h64] at h ⊢
    have hA : V / 18446744073709551616 < 18446744073709551616 := by
      rw [Nat.div_lt_iff_lt_mul (by decide)]
      exact Nat.lt_of_lt_of_le hV (by decide)
    have hB := Nat.mod_lt V (show 18446744073709551616 > 0 by decide)
    have hVe := Nat.div_add_mod V 18446744073709551616
    rw [Nat.mul_comm] at hVe
    obtain ⟨a, ha⟩ : ∃ a, a = V / 18446744073709551616 := ⟨_, rfl⟩
    obtain ⟨b, hb⟩ : ∃ b, b = V % 18446744073709551616 := ⟨_, rfl⟩
    rw [← ha] at h hA hVe
    rw [← hb] at h hB hVe
    rw [← hVe]
    obtain ⟨t1, t2, t3, t4⟩ := tim_arith hA hB hm
    rw [t1, t2, t3]
    have hM1 := fun W => bits_Mul64 (m : Int) (a : Int) m a rfl rfl hm hA W
    have hM2 := fun W => bits_Mul64 (m : Int) (b : Int) m b rfl rfl hm hB W
    have c1 : m * a % 18446744073709551616 < 18446744073709551616 := Nat.mod_lt _ (by decide)
    have c2 : m * b % 18446744073709551616 < 18446744073709551616 := Nat.mod_lt _ (by decide)
    have c3 : m * b / 18446744073709551616 < 18446744073709551616 := by
      rw [Nat.div_lt_iff_lt_mul (by decide)]
      exact Nat.mul_lt_mul'' hm hB
    obtain ⟨p, hp⟩ : ∃ p, p = m * a / 18446744073709551616 := ⟨_, rfl⟩
    obtain ⟨q, hq⟩ : ∃ q, q = m * a % 18446744073709551616 := ⟨_, rfl⟩
    obtain ⟨r, hr⟩ : ∃ r, r = m * b / 18446744073709551616 := ⟨_, rfl⟩
    obtain ⟨s, hs⟩ : ∃ s, s = m * b % 18446744073709551616 := ⟨_, rfl⟩
    rw [← hp, ← hq] at hM1
    rw [← hr, ← hs] at hM2
    rw [← hp, ← hq, ← hr] at t4
    rw [← hp, ← hq, ← hr, ← hs]
    have hAd := fun W => run_add64T q r W
    obtain ⟨u, hu⟩ : ∃ u, u = (q + r) % 18446744073709551616 := ⟨_, rfl⟩
    obtain ⟨cy, hcy⟩ : ∃ cy, cy = (q + r) / 18446744073709551616 := ⟨_, rfl⟩
    rw [← hu, ← hcy] at hAd
    rw [← hcy] at t4
    rw [← hu, ← hcy]
    have hw : IntKind.u64.wrap ((p : Int) + (cy : Int)) = ((p + cy : Nat) : Int) := by rw [IntKind.wrap_u64]; omega
    have hs0 : ((s : Int) != 0) = decide (s ≠ 0) := by
      by_cases h0 : s = 0
      · rw [h0]; rfl
      · rw [decide_eq_true h0, bne_iff_ne]; omega
    have HW := Lib.hid hw
    have HS := Lib.hid hs0
    obtain ⟨M, hM⟩ : ∃ M, M = decide (s ≠ 0) := ⟨_, rfl⟩
    rw [← hM] at hs0 ⊢
    have hpc : p + cy < 18446744073709551616 := t4
    clear t1 t2 t3 t4 c1 c2 c3 hp hq hr hs hu hcy hw hVe ha hb hA hB hV h64 HS
    go_enter Tryd.func8, Tryd.ntmps8
    go_wp2_with fail
    refine (h _ hT).mono ?_
    rintro e w1 ⟨rfl, hb1⟩
    go_wp2_with fail
    refine (hM1 _).mono ?_
    rintro e w2 ⟨rfl, rfl⟩
    go_wp2_with fail
    refine (hM2 _).mono ?_
    rintro e w2 ⟨rfl, rfl⟩
    go_wp2_with (simp only [hAd])
    go_returns
    refine ⟨?_, hb1⟩
    have hd : (!decide (s = 0)) = M := by
      rw [hM]; by_cases h0 : s = 0 <;> simp [h0]
    rw [hd, Int.natCast_add]
  · have e : timH m k = 0 ∧ timL m k = 0 ∧ timM m k = false ∧ tenEr k = 130 := by
      unfold timH timL timM tenEr; rw [hf]; exact ⟨rfl, rfl, rfl, rfl⟩
    have e2 : (tenHi k = 0) ∧ (tenLo k = 0) ∧ tenEr k = 130 := by
      unfold tenHi tenLo tenEr; rw [hf]; exact ⟨rfl, rfl, rfl⟩
    rw [e2.1, e2.2.1, e2.2.2] at h
    rw [e.1, e.2.1, e.2.2.1, e.2.2.2]
    generalize tenEx k = X at h
    clear e e2 hf
    go_enter Tryd.func8, Tryd.ntmps8
    go_wp2_with fail
    refine (h _ hT).mono ?_
    rintro e w1 ⟨rfl, hb1⟩
    go_wp2
    go_returns
    exact ⟨rfl, hb1⟩
end Go.Proofs.YtenekbfnlbipiaaDoor
namespace Go.Proofs.YtenekbfnlbipiaaDoor
open Go.RowKit
set_option linter.unusedVariables false
set_option linter.unusedSimpArgs false
set_option maxHeartbeats 4000000
set_option maxRecDepth 100000
theorem law13_of (a b x e : Int) (w : World) : Calls Tryd.prog 10 #[.int .u64 a, .int .u64 b, .int .i64 x, .int .i64 e] w (Says w (.agg #[.int .u64 a, .int .u64 b, .int .i64 x, .int .i64 e])) := by
  go_enter Tryd.func10, Tryd.ntmps10
  go_wp2
  refine bodyPost_ret (v := .agg #[.int .u64 a, .int .u64 b, .int .i64 x, .int .i64 e]) ?_ rfl ⟨rfl, (Below.refl _ w).alloc (Nat.le_refl _) _⟩
  refine results_cell_row rfl _ _ w.heap.size _ _ _ _ ?_ (heap_alloc_new _ _) Tryd.underlying29 rfl (by kernel_rfl)
  rfl
theorem tens_walk (k : Int) (m : Nat) (hm : m < 18446744073709551616) (w : World) (hT : Tab5 w) :
    Calls Tryd.prog 3 #[.int .i64 k, .int .u64 (m : Int)] w fun e w' => e = .returned (.bool true) ∧ Below w.heap.size w w' := by
  have hW := power_Whole k
  have hR := ref_Whole k
  have hPT := power_Times m hm k
  have hRT := ref_Times m hm k
  have hP := power_Ten k
  have hRf := ref_Ten k
  generalize tenHi k = H at *
  generalize tenLo k = L at *
  generalize tenEx k = X at *
  generalize tenEr k = R at *
  generalize wholeB k = B at *
  generalize timH m k = TH at *
  generalize timL m k = TL at *
  generalize timM m k = TM at *
  go_enter Tryd.func3, Tryd.ntmps3
  go_wp2_with fail
  refine (hW _ hT).mono ?_
  rintro e w1 ⟨rfl, hb1⟩
  go_wp2_with fail
  refine (hR _).mono ?_
  rintro e w2 ⟨rfl, hb2⟩
  have hb := hb1.trans (hb2.mono hb1.size)
  go_wp2_with fail
  refine (hPT _ (hT.below hb)).mono ?_
  rintro e w3 ⟨rfl, hb3⟩
  have hc := hb.trans (hb3.mono hb.size)
  go_wp2_with fail
  refine (hRT _).mono ?_
  rintro e w4 ⟨rfl, hb4⟩
  have hd := hc.trans (hb4.mono hc.size)
  go_wp2_with fail
  refine (hP _ (hT.below hd)).mono ?_
  rintro e w5 ⟨rfl, hb5⟩
  have he := hd.trans (hb5.mono hd.size)
  go_wp2_with fail
  refine (law13_of _ _ _ _ _).mono ?_
  rintro e w6 ⟨rfl, hb6⟩
  have hf := he.trans (hb6.mono he.size)
  go_wp2_with fail
  refine (hRf _).mono ?_
  rintro e w7 ⟨rfl, hb7⟩
  have hg := hf.trans (hb7.mono hf.size)
  go_wp2_with fail
  refine (law13_of _ _ _ _ _).mono ?_
  rintro e w8 ⟨rfl, hb8⟩
  have hh := hg.trans (hb8.mono hg.size)
  clear hW hR hPT hRT hP hRf hb1 hb2 hb3 hb4 hb5 hb6 hb7 hb8 hb hc hd he hf hg hT
  go_wp2
  go_ret
  exact ⟨rfl, hh⟩
end Go.Proofs.YtenekbfnlbipiaaDoor
