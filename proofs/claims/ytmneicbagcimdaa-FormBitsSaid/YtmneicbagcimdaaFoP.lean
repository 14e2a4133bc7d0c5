/- Forms: the document's Fits, Split, Class, Payload; the program's Payload. -/
import Derived.Test.YtmneicbagcimdaaFoC
import Derived.Test.YtmneicbagcimdaaFoF
namespace Go.Proofs.Ytmneicbagcimdaa
open Go.RowKit
set_option linter.unusedVariables false
set_option linter.unusedSimpArgs false
set_option maxHeartbeats 4000000
set_option maxRecDepth 100000

theorem ref_Fits (e f B : Int) (b : Nat) (hB : B = (b : Int)) (hb64 : b < 18446744073709551616) (w : World) :
    Calls Try.prog 21 #[.agg #[.int .i64 e, .int .i64 f], .int .u64 B] w (Says w (.int .i64 (fitS e f b))) := by
  subst hB
  by_cases hc : chkF e f = 0
  · obtain ⟨E, F, rfl, rfl, hE1, hE2, hF1, hF2⟩ := chk_ok hc
    have HC := Lib.hid hc
    have hj : fitS (E : Int) (F : Int) b = fitF E F b := by unfold fitS; rw [if_pos hc]; rfl
    rw [hj]
    clear hj hc
    by_cases h63 : E + F < 63
    · obtain ⟨P, hP⟩ : ∃ P, P = 2 ^ (1 + E + F) := ⟨_, rfl⟩
      have HP := Lib.hid hP
      have hd : decide ((E : Int) + (F : Int) < 63) = true := by rw [decide_eq_true_iff]; omega
      by_cases hk : P ≤ b
      · rw [show fitF E F b = 6 from by unfold fitF; rw [← hP, if_pos hk]]
        have hk2 : decide ((P : Int) ≤ (b : Int)) = true := by rw [decide_eq_true_iff]; omega
        clear hP
        go_enter Try.func21, Try.ntmps21
        go_wp2_with fail
        refine (ref_Check _ _ _).mono ?_
        rintro r w1 ⟨rfl, hb1⟩
        rw [HC.out]
        obtain ⟨hc1, hf1⟩ := bcell hb1
        have hbw1 : Below w.heap.size w w1 := Below.trans (b := _) (by repeat' (first | (with_reducible assumption) | (with_reducible exact Below.refl _ _) | (with_reducible refine bdn ?_ _) | (with_reducible refine Below.drew ?_) | (with_reducible refine Below.setCell ?_ ?_ _) | (with_reducible refine Below.alloc ?_ ?_ _) | go_size)) (hb1.mono (by go_size))
        have hz1_0 : w.heap.size < w1.heap.size := by have := hb1.size; simp at this; omega
        go_wp2_with fail
        refine (ref_Pow2 _ (1 + E + F) P (by omega) (by omega) HP.out _).mono ?_
        rintro r w2 ⟨rfl, rfl⟩
        go_wp2
        go_ret
        exact ⟨rfl, (by repeat' (first | (with_reducible assumption) | (with_reducible exact Below.refl _ _) | (with_reducible refine bdn ?_ _) | (with_reducible refine Below.drew ?_) | (with_reducible refine Below.setCell ?_ ?_ _) | (with_reducible refine Below.alloc ?_ ?_ _) | go_size))⟩
      · rw [show fitF E F b = 0 from by unfold fitF; rw [← hP, if_neg hk]]
        have hk2 : decide ((P : Int) ≤ (b : Int)) = false := by rw [decide_eq_false_iff_not]; omega
        clear hP
        go_enter Try.func21, Try.ntmps21
        go_wp2_with fail
        refine (ref_Check _ _ _).mono ?_
        rintro r w1 ⟨rfl, hb1⟩
        rw [HC.out]
        obtain ⟨hc1, hf1⟩ := bcell hb1
        have hbw1 : Below w.heap.size w w1 := Below.trans (b := _) (by repeat' (first | (with_reducible assumption) | (with_reducible exact Below.refl _ _) | (with_reducible refine bdn ?_ _) | (with_reducible refine Below.drew ?_) | (with_reducible refine Below.setCell ?_ ?_ _) | (with_reducible refine Below.alloc ?_ ?_ _) | go_size)) (hb1.mono (by go_size))
        have hz1_0 : w.heap.size < w1.heap.size := by have := hb1.size; simp at this; omega
        go_wp2_with fail
        refine (ref_Pow2 _ (1 + E + F) P (by omega) (by omega) HP.out _).mono ?_
        rintro r w2 ⟨rfl, rfl⟩
        go_wp2
        go_ret
        exact ⟨rfl, (by repeat' (first | (with_reducible assumption) | (with_reducible exact Below.refl _ _) | (with_reducible refine bdn ?_ _) | (with_reducible refine Below.drew ?_) | (with_reducible refine Below.setCell ?_ ?_ _) | (with_reducible refine Below.alloc ?_ ?_ _) | go_size))⟩
    · rw [show fitF E F b = 0 from by unfold fitF; rw [show 1 + E + F = 64 from by omega, if_neg (by omega)]]
      have hd : decide ((E : Int) + (F : Int) < 63) = false := by rw [decide_eq_false_iff_not]; omega
      go_enter Try.func21, Try.ntmps21
      go_wp2_with fail
      refine (ref_Check _ _ _).mono ?_
      rintro r w1 ⟨rfl, hb1⟩
      rw [HC.out]
      obtain ⟨hc1, hf1⟩ := bcell hb1
      have hbw1 : Below w.heap.size w w1 := Below.trans (b := _) (by repeat' (first | (with_reducible assumption) | (with_reducible exact Below.refl _ _) | (with_reducible refine bdn ?_ _) | (with_reducible refine Below.drew ?_) | (with_reducible refine Below.setCell ?_ ?_ _) | (with_reducible refine Below.alloc ?_ ?_ _) | go_size)) (hb1.mono (by go_size))
      have hz1_0 : w.heap.size < w1.heap.size := by have := hb1.size; simp at this; omega
      go_wp2
      go_ret
      exact ⟨rfl, (by repeat' (first | (with_reducible assumption) | (with_reducible exact Below.refl _ _) | (with_reducible refine bdn ?_ _) | (with_reducible refine Below.drew ?_) | (with_reducible refine Below.setCell ?_ ?_ _) | (with_reducible refine Below.alloc ?_ ?_ _) | go_size))⟩
  · rw [show fitS e f b = 5 from by unfold fitS; rw [if_neg hc, chk_no hc]]
    have HC := Lib.hid (chk_no hc)
    clear hc
    go_enter Try.func21, Try.ntmps21
    go_wp2_with fail
    refine (ref_Check _ _ _).mono ?_
    rintro r w1 ⟨rfl, hb1⟩
    rw [HC.out]
    obtain ⟨hc1, hf1⟩ := bcell hb1
    have hbw1 : Below w.heap.size w w1 := Below.trans (b := _) (by repeat' (first | (with_reducible assumption) | (with_reducible exact Below.refl _ _) | (with_reducible refine bdn ?_ _) | (with_reducible refine Below.drew ?_) | (with_reducible refine Below.setCell ?_ ?_ _) | (with_reducible refine Below.alloc ?_ ?_ _) | go_size)) (hb1.mono (by go_size))
    have hz1_0 : w.heap.size < w1.heap.size := by have := hb1.size; simp at this; omega
    go_wp2
    go_ret
    exact ⟨rfl, hbw1⟩
theorem ref_Split (e f B : Int) (b : Nat) (hB : B = (b : Int)) (hb64 : b < 18446744073709551616) (w : World) :
    Calls Try.prog 15 #[.agg #[.int .i64 e, .int .i64 f], .int .u64 B] w (Says w (.tuple #[.agg #[.bool (splitS e f b).1.1, .int .i64 (((splitS e f b).1.2.1 : Nat) : Int), .int .u64 (((splitS e f b).1.2.2 : Nat) : Int)], .int .i64 (splitS e f b).2])) := by
  subst hB
  by_cases hc : fitS e f b = 0
  · have HC := Lib.hid hc
    obtain ⟨E, F, rfl, rfl, hE1, hE2, hF1, hF2, hfit⟩ := fit_ok hc
    have hj : splitS (E : Int) (F : Int) b = (splitF E F b, 0) := by unfold splitS; rw [if_pos hc]; rfl
    rw [hj]
    obtain ⟨P, hP⟩ : ∃ P, P = 2 ^ F := ⟨_, rfl⟩
    obtain ⟨Q, hQ⟩ : ∃ Q, Q = 2 ^ E := ⟨_, rfl⟩
    have HP := Lib.hid hP
    have HQ := Lib.hid hQ
    have hP0 : 0 < P := by rw [hP]; exact Nat.two_pow_pos F
    have hQ0 : 0 < Q := by rw [hQ]; exact Nat.two_pow_pos E
    obtain ⟨R, hR⟩ : ∃ R, R = b / P := ⟨_, rfl⟩
    obtain ⟨N, hN⟩ : ∃ N, N = R / Q := ⟨_, rfl⟩
    obtain ⟨X, hX⟩ : ∃ X, X = R % Q := ⟨_, rfl⟩
    obtain ⟨Y, hY⟩ : ∃ Y, Y = b % P := ⟨_, rfl⟩
    have hN2 : N < 2 := by
      rw [hN, hR, Nat.div_div_eq_div_mul, hP, hQ, ← Nat.pow_add]
      refine Nat.div_lt_of_lt_mul ?_
      rw [← Nat.pow_succ, show (F + E).succ = 1 + E + F from by omega]; exact hfit
    obtain ⟨ng, hng⟩ : ∃ ng, ((N : Int) == 1) = ng := ⟨_, rfl⟩
    have hs : splitF E F b = (ng, X, Y) := by
      unfold splitF
      rw [hX, hY, hR, hP, hQ, ← hng, hN, hR, hP, hQ, Nat.div_div_eq_div_mul, ← Nat.pow_add]
      rw [hN, hR, hP, hQ, Nat.div_div_eq_div_mul, ← Nat.pow_add] at hN2
      congr 1
      generalize b / 2 ^ (F + E) = z at *
      have : z = 0 ∨ z = 1 := by omega
      rcases this with rfl | rfl <;> rfl
    rw [hs]
    have hXb : X < 2048 := by
      rw [hX, hQ]
      exact Nat.lt_of_lt_of_le (Nat.mod_lt _ (Nat.two_pow_pos E)) (Nat.pow_le_pow_right (n := 2) (by decide) hE2)
    have hR64 : R < 18446744073709551616 := by rw [hR]; exact Nat.lt_of_le_of_lt (Nat.div_le_self _ _) hb64
    have hiR : (b : Int) / (P : Int) = (R : Int) := by rw [hR]; push_cast; rfl
    have hiN : (R : Int) / (Q : Int) = (N : Int) := by rw [hN]; push_cast; rfl
    have hiX : (R : Int) % (Q : Int) = (X : Int) := by rw [hX]; push_cast; rfl
    have hiY : (b : Int) % (P : Int) = (Y : Int) := by rw [hY]; push_cast; rfl
    have hwX : IntKind.i64.wrap (X : Int) = (X : Int) := by rw [IntKind.wrap_i64]; omega
    have hwN : IntKind.u64.wrap (N : Int) = (N : Int) := by rw [IntKind.wrap_u64]; omega
    have htX : (R : Int).tmod (Q : Int) = (X : Int) := by rw [hX]; rfl
    have htY : (b : Int).tmod (P : Int) = (Y : Int) := by rw [hY]; rfl
    have hPn : ((P : Int) == 0) = false := by rw [beq_eq_false_iff_ne]; omega
    have hQn : ((Q : Int) == 0) = false := by rw [beq_eq_false_iff_ne]; omega
    have hPz : ¬ P = 0 := by omega
    have hQz : ¬ Q = 0 := by omega
    have hPy : (P : Int) ≠ 0 := by omega
    have hQy : (Q : Int) ≠ 0 := by omega
    clear hj hc hfit hP hQ hR hN hX hY hs
    go_enter Try.func15, Try.ntmps15
    go_wp2_with fail
    refine (ref_Fits _ _ _ b rfl hb64 _).mono ?_
    rintro r w1 ⟨rfl, hb1⟩
    rw [HC.out]
    obtain ⟨hc1, hf1⟩ := bcell hb1
    have hbw1 : Below w.heap.size w w1 := Below.trans (b := _) (by repeat' (first | (with_reducible assumption) | (with_reducible exact Below.refl _ _) | (with_reducible refine bdn ?_ _) | (with_reducible refine Below.drew ?_) | (with_reducible refine Below.setCell ?_ ?_ _) | (with_reducible refine Below.alloc ?_ ?_ _) | go_size)) (hb1.mono (by go_size))
    have hz1_0 : w.heap.size < w1.heap.size := by have := hb1.size; simp at this; omega
    have hz1_1 : w.heap.size + 1 < w1.heap.size := by have := hb1.size; simp at this; omega
    have s0 : w1.cell? ⟨w.heap.size, 0, none⟩ = some (.int .i64 (E : Int)) := by rw [hc1 _ _ (by go_size)]; simp [go_sem]
    have s1 : w1.cell? ⟨w.heap.size, 1, none⟩ = some (.int .i64 (F : Int)) := by rw [hc1 _ _ (by go_size)]; simp [go_sem]
    have t0 : w1.cell? ⟨w.heap.size + 1, 0, none⟩ = some (.bool false) := by rw [hc1 _ _ (by go_size)]; simp [go_sem]
    have t1 : w1.cell? ⟨w.heap.size + 1, 1, none⟩ = some (.int .i64 0) := by rw [hc1 _ _ (by go_size)]; simp [go_sem]
    have t2 : w1.cell? ⟨w.heap.size + 1, 2, none⟩ = some (.int .u64 0) := by rw [hc1 _ _ (by go_size)]; simp [go_sem]
    have tf : ∀ o, w1.frozen? ⟨w.heap.size + 1, o, none⟩ = false := by intro o; rw [hf1 _ _ (by go_size)]; simp [go_sem]
    clear hc1 hf1
    go_wp2_with fail
    refine (ref_Pow2 _ F P rfl (by omega) HP.out _).mono ?_
    rintro r w2 ⟨rfl, rfl⟩
    go_wp2
    have tf0 := tf 0
    have tf1 := tf 1
    have tf2 := tf 2
    clear tf
    go_region_held3 (fun w' => w'.cell? ⟨w.heap.size, 0, none⟩ = some (.int .i64 (E : Int)) ∧ w'.cell? ⟨w.heap.size, 1, none⟩ = some (.int .i64 (F : Int)))
      (first | exact ⟨s0, s1⟩ | go_keep)
      (first
       | (go_at_call 49; with_reducible refine (ref_Pow2 (E : Int) E Q rfl (by omega) HQ.out _).mono ?_; rintro r wa ⟨rfl, rfl⟩)
       | (go_at_call 49; with_reducible refine (ref_Pow2 (F : Int) F P rfl (by omega) HP.out _).mono ?_; rintro r wa ⟨rfl, rfl⟩))
    all_goals (
      go_wp2
      (try simp only [Exit.inBlock, Exit.then]); refine bodyPost_ret (by simp (maxDischargeDepth := 9) [results, Try.results15, go_sem, t0, t1, t2, hwX, htX, htY, hwN, hng]; try rfl) rfl ?_
      exact ⟨rfl, (by repeat' (first | (with_reducible assumption) | (with_reducible exact Below.refl _ _) | (with_reducible refine bdn ?_ _) | (with_reducible refine Below.drew ?_) | (with_reducible refine Below.setCell ?_ ?_ _) | (with_reducible refine Below.alloc ?_ ?_ _) | go_size))⟩)
  · have hfn : fitS e f b ≠ 0 := hc
    have hne : (fitS e f b != 0) = true := by rw [bne_iff_ne]; exact hc
    rw [show splitS e f b = ((false, 0, 0), fitS e f b) from by unfold splitS; rw [if_neg hc]]
    clear hc hfn
    go_enter Try.func15, Try.ntmps15
    go_wp2_with fail
    refine (ref_Fits _ _ _ b rfl hb64 _).mono ?_
    rintro r w1 ⟨rfl, hb1⟩
    obtain ⟨hc1, hf1⟩ := bcell hb1
    have hbw1 : Below w.heap.size w w1 := Below.trans (b := _) (by repeat' (first | (with_reducible assumption) | (with_reducible exact Below.refl _ _) | (with_reducible refine bdn ?_ _) | (with_reducible refine Below.drew ?_) | (with_reducible refine Below.setCell ?_ ?_ _) | (with_reducible refine Below.alloc ?_ ?_ _) | go_size)) (hb1.mono (by go_size))
    have hz1_0 : w.heap.size < w1.heap.size := by have := hb1.size; simp at this; omega
    have hz1_1 : w.heap.size + 1 < w1.heap.size := by have := hb1.size; simp at this; omega
    go_wp2
    (try simp only [Exit.inBlock, Exit.then]); refine bodyPost_ret (by simp (maxDischargeDepth := 9) [results, Try.results15, go_sem, hc1, hz1_0, hz1_1]; try rfl) rfl ?_
    exact ⟨rfl, (by repeat' (first | (with_reducible assumption) | (with_reducible exact Below.refl _ _) | (with_reducible refine bdn ?_ _) | (with_reducible refine Below.drew ?_) | (with_reducible refine Below.setCell ?_ ?_ _) | (with_reducible refine Below.alloc ?_ ?_ _) | go_size))⟩
end Go.Proofs.Ytmneicbagcimdaa
