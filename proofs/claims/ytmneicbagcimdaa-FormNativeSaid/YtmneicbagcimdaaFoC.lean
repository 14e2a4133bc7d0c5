/- Forms: the document's Join. -/
import Derived.Test.YtmneicbagcimdaaFoB
namespace Go.Proofs.Ytmneicbagcimdaa
open Go.RowKit
set_option linter.unusedVariables false
set_option linter.unusedSimpArgs false
set_option maxHeartbeats 4000000
set_option maxRecDepth 100000

theorem ref_Top (e f T : Nat) (he : e ≤ 11) (hT : T + 1 = 2 ^ e) (w : World) :
    Calls Try.prog 48 #[.agg #[.int .i64 (e : Int), .int .i64 (f : Int)]] w (Says w (.int .i64 (T : Int))) := by
  obtain ⟨P, hP⟩ : ∃ P, P = 2 ^ e := ⟨_, rfl⟩
  have hP2 : P ≤ 2048 := by rw [hP]; exact Nat.pow_le_pow_right (n := 2) (by decide) he
  have hPT : P = T + 1 := by omega
  have HP := Lib.hid hP
  have HT := Lib.hid hPT
  clear hP hT hPT
  go_enter Try.func48, Try.ntmps48
  go_wp2_with fail
  refine (ref_Pow2 _ e P rfl (by omega) HP.out _).mono ?_
  rintro r w1 ⟨rfl, rfl⟩
  go_wp2
  go_ret
  exact ⟨by show Ending.returned (Value.int .i64 ((P : Int) - 1)) = _; rw [show (P : Int) - 1 = (T : Int) from by have := HT.out; omega], (Below.refl _ _).alloc (Nat.le_refl _) _⟩
theorem ref_Join (e f X : Int) (neg : Bool) (Y : Int) (y : Nat) (hY : Y = (y : Int)) (hy64 : y < 18446744073709551616) (hx1 : -9223372036854775808 ≤ X) (hx2 : X ≤ 9223372036854775807) (w : World) :
    Calls Try.prog 11 #[.agg #[.int .i64 e, .int .i64 f], .agg #[.bool neg, .int .i64 X, .int .u64 Y]] w (Says w (.tuple #[.int .u64 (((joinS e f neg X y).1 : Nat) : Int), .int .i64 (joinS e f neg X y).2])) := by
  subst hY
  by_cases hc : chkF e f = 0
  · obtain ⟨E, F, rfl, rfl, hE1, hE2, hF1, hF2⟩ := chk_ok hc
    have HC := Lib.hid hc
    have hj : joinS (E : Int) (F : Int) neg X y = joinF E F neg X y := by unfold joinS; rw [if_pos hc]; rfl
    rw [hj]
    clear hj hc
    obtain ⟨T, hT⟩ := pow_m1 E
    obtain ⟨P, hP⟩ : ∃ P, P = 2 ^ F := ⟨_, rfl⟩
    have HT := Lib.hid hT
    have HP := Lib.hid hP
    have hEs : 2 ^ E ≤ 2048 := Nat.pow_le_pow_right (n := 2) (by decide) hE2
    have hFs : 2 ^ F ≤ 4503599627370496 := Nat.pow_le_pow_right (n := 2) (by decide) hF2
    have hcase : X < 0 ∨ (¬ X < 0 ∧ T < X.toNat) ∨ (¬ X < 0 ∧ ¬ T < X.toNat ∧ P ≤ y) ∨ (¬ X < 0 ∧ ¬ T < X.toNat ∧ ¬ P ≤ y) := by omega
    rcases hcase with h1 | ⟨h1, h2⟩ | ⟨h1, h2, h3⟩ | ⟨h1, h2, h3⟩
    · rw [show joinF E F neg X y = (0, 30) from by unfold joinF; rw [if_pos (by omega)]]
      clear hT hP hEs hFs
      have hd0 : decide (X < 0) = true := by rw [decide_eq_true_iff]; omega
      go_enter Try.func11, Try.ntmps11
      go_wp2_with fail
      refine (ref_Check _ _ _).mono ?_
      rintro r w1 ⟨rfl, hb1⟩
      rw [HC.out]
      obtain ⟨hc1, hf1⟩ := bcell hb1
      have hbw1 : Below w.heap.size w w1 := Below.trans (b := _) (by repeat' (first | (with_reducible assumption) | (with_reducible exact Below.refl _ _) | (with_reducible refine bdn ?_ _) | (with_reducible refine Below.drew ?_) | (with_reducible refine Below.setCell ?_ ?_ _) | (with_reducible refine Below.alloc ?_ ?_ _) | go_size)) (hb1.mono (by go_size))
      have hz1_0 : w.heap.size < w1.heap.size := by have := hb1.size; simp at this; omega
      have hz1_1 : w.heap.size + 1 < w1.heap.size := by have := hb1.size; simp at this; omega
      go_wp2
      go_quiet (fail)
      go_wp2
      go_ret2
      exact ⟨rfl, (by repeat' (first | (with_reducible assumption) | (with_reducible exact Below.refl _ _) | (with_reducible refine bdn ?_ _) | (with_reducible refine Below.drew ?_) | (with_reducible refine Below.setCell ?_ ?_ _) | (with_reducible refine Below.alloc ?_ ?_ _) | go_size))⟩
    all_goals (
      obtain ⟨x, rfl⟩ : ∃ x : Nat, X = (x : Int) := ⟨X.toNat, by omega⟩
      rw [Int.toNat_natCast] at h2
      have hx0 : (0 : Int) ≤ (x : Int) := by omega
      have hwx : IntKind.u64.wrap (x : Int) = (x : Int) := by rw [IntKind.wrap_u64]; omega
      have hd0 : decide ((x : Int) < 0) = false := by rw [decide_eq_false_iff_not]; omega)
    · rw [show joinF E F neg (x : Int) y = (0, 30) from by unfold joinF; rw [if_pos (by rw [Int.toNat_natCast]; omega)]]
      have hd1 : decide ((T : Int) < (x : Int)) = true := by rw [decide_eq_true_iff]; omega
      clear hT hP hEs hFs
      go_enter Try.func11, Try.ntmps11
      go_wp2_with fail
      refine (ref_Check _ _ _).mono ?_
      rintro r w1 ⟨rfl, hb1⟩
      rw [HC.out]
      obtain ⟨hc1, hf1⟩ := bcell hb1
      have hbw1 : Below w.heap.size w w1 := Below.trans (b := _) (by repeat' (first | (with_reducible assumption) | (with_reducible exact Below.refl _ _) | (with_reducible refine bdn ?_ _) | (with_reducible refine Below.drew ?_) | (with_reducible refine Below.setCell ?_ ?_ _) | (with_reducible refine Below.alloc ?_ ?_ _) | go_size)) (hb1.mono (by go_size))
      have hz1_0 : w.heap.size < w1.heap.size := by have := hb1.size; simp at this; omega
      have hz1_1 : w.heap.size + 1 < w1.heap.size := by have := hb1.size; simp at this; omega
      have c0 : w1.cell? ⟨w.heap.size, 0, none⟩ = some (.int .i64 (E : Int)) := by rw [hc1 _ _ (by go_size)]; simp [go_sem]
      have c1 : w1.cell? ⟨w.heap.size, 1, none⟩ = some (.int .i64 (F : Int)) := by rw [hc1 _ _ (by go_size)]; simp [go_sem]
      have c2 : w1.cell? ⟨w.heap.size + 1, 0, none⟩ = some (.bool neg) := by rw [hc1 _ _ (by simp)]; simp [go_sem]
      have c3 : w1.cell? ⟨w.heap.size + 1, 1, none⟩ = some (.int .i64 (x : Int)) := by rw [hc1 _ _ (by simp)]; simp [go_sem]
      have c4 : w1.cell? ⟨w.heap.size + 1, 2, none⟩ = some (.int .u64 (y : Int)) := by rw [hc1 _ _ (by simp)]; simp [go_sem]
      go_wp2
      first
      | (go_region_with (first
         | (go_at_call 48; refine (ref_Top E F T hE2 HT.out _).mono ?_; rintro r w2 ⟨rfl, hb2⟩; have k0 := cell_keep hb2 c0; have k1 := cell_keep hb2 c1; have k2 := cell_keep hb2 c2; have k3 := cell_keep hb2 c3; have k4 := cell_keep hb2 c4; have hbw2 := (Below.drew hbw1).trans (hb2.mono hbw1.size))
         | (go_at_call 49; refine (ref_Pow2 _ F P rfl (by omega) HP.out _).mono ?_; rintro r w3 ⟨rfl, rfl⟩)))
      | fail
      all_goals (
        go_wp2
        go_ret2
        exact ⟨rfl, (by repeat' (first | (with_reducible assumption) | (with_reducible exact Below.refl _ _) | (with_reducible refine bdn ?_ _) | (with_reducible refine Below.drew ?_) | (with_reducible refine Below.setCell ?_ ?_ _) | (with_reducible refine Below.alloc ?_ ?_ _) | go_size))⟩)
    · rw [show joinF E F neg (x : Int) y = (0, 30) from by unfold joinF; rw [if_pos (by rw [Int.toNat_natCast]; omega)]]
      have hd1 : decide ((T : Int) < (x : Int)) = false := by rw [decide_eq_false_iff_not]; omega
      have hd2 : decide ((P : Int) ≤ (y : Int)) = true := by rw [decide_eq_true_iff]; omega
      clear hT hP hEs hFs
      go_enter Try.func11, Try.ntmps11
      go_wp2_with fail
      refine (ref_Check _ _ _).mono ?_
      rintro r w1 ⟨rfl, hb1⟩
      rw [HC.out]
      obtain ⟨hc1, hf1⟩ := bcell hb1
      have hbw1 : Below w.heap.size w w1 := Below.trans (b := _) (by repeat' (first | (with_reducible assumption) | (with_reducible exact Below.refl _ _) | (with_reducible refine bdn ?_ _) | (with_reducible refine Below.drew ?_) | (with_reducible refine Below.setCell ?_ ?_ _) | (with_reducible refine Below.alloc ?_ ?_ _) | go_size)) (hb1.mono (by go_size))
      have hz1_0 : w.heap.size < w1.heap.size := by have := hb1.size; simp at this; omega
      have hz1_1 : w.heap.size + 1 < w1.heap.size := by have := hb1.size; simp at this; omega
      have c0 : w1.cell? ⟨w.heap.size, 0, none⟩ = some (.int .i64 (E : Int)) := by rw [hc1 _ _ (by go_size)]; simp [go_sem]
      have c1 : w1.cell? ⟨w.heap.size, 1, none⟩ = some (.int .i64 (F : Int)) := by rw [hc1 _ _ (by go_size)]; simp [go_sem]
      have c2 : w1.cell? ⟨w.heap.size + 1, 0, none⟩ = some (.bool neg) := by rw [hc1 _ _ (by simp)]; simp [go_sem]
      have c3 : w1.cell? ⟨w.heap.size + 1, 1, none⟩ = some (.int .i64 (x : Int)) := by rw [hc1 _ _ (by simp)]; simp [go_sem]
      have c4 : w1.cell? ⟨w.heap.size + 1, 2, none⟩ = some (.int .u64 (y : Int)) := by rw [hc1 _ _ (by simp)]; simp [go_sem]
      go_wp2
      go_region_held3 (fun w' => w'.cell? ⟨w.heap.size, 0, none⟩ = some (.int .i64 (E : Int)) ∧ w'.cell? ⟨w.heap.size, 1, none⟩ = some (.int .i64 (F : Int)) ∧ w'.cell? ⟨w.heap.size + 1, 0, none⟩ = some (.bool neg) ∧ w'.cell? ⟨w.heap.size + 1, 1, none⟩ = some (.int .i64 (x : Int)) ∧ w'.cell? ⟨w.heap.size + 1, 2, none⟩ = some (.int .u64 (y : Int))) (first | go_keep | exact ⟨k0, k1, k2, k3, k4⟩)
        (first
         | (go_at_call 48; refine (ref_Top E F T hE2 HT.out _).mono ?_; rintro r w2 ⟨rfl, hb2⟩; have k0 := cell_keep hb2 c0; have k1 := cell_keep hb2 c1; have k2 := cell_keep hb2 c2; have k3 := cell_keep hb2 c3; have k4 := cell_keep hb2 c4; have hbw2 := (Below.drew hbw1).trans (hb2.mono hbw1.size))
         | (go_at_call 49; refine (ref_Pow2 _ F P rfl (by omega) HP.out _).mono ?_; rintro r w3 ⟨rfl, rfl⟩))
      all_goals (
        go_wp2
        go_ret2
        exact ⟨rfl, (by repeat' (first | (with_reducible assumption) | (with_reducible exact Below.refl _ _) | (with_reducible refine bdn ?_ _) | (with_reducible refine Below.drew ?_) | (with_reducible refine Below.setCell ?_ ?_ _) | (with_reducible refine Below.alloc ?_ ?_ _) | go_size))⟩)
    · obtain ⟨R, hR⟩ : ∃ R, R = y + x * 2 ^ F + (if neg = true then 2 ^ (F + E) else 0) := ⟨_, rfl⟩
      rw [show joinF E F neg (x : Int) y = (R, 0) from by unfold joinF; rw [if_neg (by rw [Int.toNat_natCast]; omega), Int.toNat_natCast, hR]]
      obtain ⟨Q, hQ⟩ : ∃ Q, Q = 2 ^ (E + F) := ⟨_, rfl⟩
      have hQs : Q ≤ 9223372036854775808 := by rw [hQ]; exact Nat.pow_le_pow_right (n := 2) (by decide) (show E + F ≤ 63 by omega)
      obtain ⟨L, hL⟩ : ∃ L, L = x * P := ⟨_, rfl⟩
      have hxE : x < 2 ^ E := by omega
      have hyF : y < 2 ^ F := by omega
      have hlim := join_lim hxE hyF
      rw [Nat.add_comm F E, ← hQ, ← hP, ← hL] at hlim
      rw [Nat.add_comm F E, ← hQ, ← hP, ← hL] at hR
      have hLe : (x : Int) * (P : Int) = (L : Int) := by rw [hL, Int.natCast_mul]
      have HQ := Lib.hid hQ
      have HR := Lib.hid hR
      have hd1 : decide ((T : Int) < (x : Int)) = false := by rw [decide_eq_false_iff_not]; omega
      have hd2 : decide ((P : Int) ≤ (y : Int)) = false := by rw [decide_eq_false_iff_not]; omega
      have hw1 : IntKind.u64.wrap (L : Int) = (L : Int) := by rw [IntKind.wrap_u64]; omega
      clear hT hP hEs hFs hQ hL hR hxE hyF
      go_enter Try.func11, Try.ntmps11
      go_wp2_with fail
      refine (ref_Check _ _ _).mono ?_
      rintro r w1 ⟨rfl, hb1⟩
      rw [HC.out]
      obtain ⟨hc1, hf1⟩ := bcell hb1
      have hbw1 : Below w.heap.size w w1 := Below.trans (b := _) (by repeat' (first | (with_reducible assumption) | (with_reducible exact Below.refl _ _) | (with_reducible refine bdn ?_ _) | (with_reducible refine Below.drew ?_) | (with_reducible refine Below.setCell ?_ ?_ _) | (with_reducible refine Below.alloc ?_ ?_ _) | go_size)) (hb1.mono (by go_size))
      have hz1_0 : w.heap.size < w1.heap.size := by have := hb1.size; simp at this; omega
      have hz1_1 : w.heap.size + 1 < w1.heap.size := by have := hb1.size; simp at this; omega
      have c0 : w1.cell? ⟨w.heap.size, 0, none⟩ = some (.int .i64 (E : Int)) := by rw [hc1 _ _ (by go_size)]; simp [go_sem]
      have c1 : w1.cell? ⟨w.heap.size, 1, none⟩ = some (.int .i64 (F : Int)) := by rw [hc1 _ _ (by go_size)]; simp [go_sem]
      have c2 : w1.cell? ⟨w.heap.size + 1, 0, none⟩ = some (.bool neg) := by rw [hc1 _ _ (by simp)]; simp [go_sem]
      have c3 : w1.cell? ⟨w.heap.size + 1, 1, none⟩ = some (.int .i64 (x : Int)) := by rw [hc1 _ _ (by simp)]; simp [go_sem]
      have c4 : w1.cell? ⟨w.heap.size + 1, 2, none⟩ = some (.int .u64 (y : Int)) := by rw [hc1 _ _ (by simp)]; simp [go_sem]
      go_wp2
      go_region_held3 (fun w' => w'.cell? ⟨w.heap.size, 0, none⟩ = some (.int .i64 (E : Int)) ∧ w'.cell? ⟨w.heap.size, 1, none⟩ = some (.int .i64 (F : Int)) ∧ w'.cell? ⟨w.heap.size + 1, 0, none⟩ = some (.bool neg) ∧ w'.cell? ⟨w.heap.size + 1, 1, none⟩ = some (.int .i64 (x : Int)) ∧ w'.cell? ⟨w.heap.size + 1, 2, none⟩ = some (.int .u64 (y : Int))) (first | go_keep | exact ⟨k0, k1, k2, k3, k4⟩)
        (first
         | (go_at_call 48; refine (ref_Top E F T hE2 HT.out _).mono ?_; rintro r w2 ⟨rfl, hb2⟩; have k0 := cell_keep hb2 c0; have k1 := cell_keep hb2 c1; have k2 := cell_keep hb2 c2; have k3 := cell_keep hb2 c3; have k4 := cell_keep hb2 c4; have hbw2 := (Below.drew hbw1).trans (hb2.mono hbw1.size))
         | (go_at_call 49; refine (ref_Pow2 _ F P rfl (by omega) HP.out _).mono ?_; rintro r w3 ⟨rfl, rfl⟩))
      all_goals (
        cases neg
        · have hRL : R = L + y := by have := HR.out; simp at this; omega
          have hw2 : IntKind.u64.wrap ((L : Int) + (y : Int)) = (R : Int) := by rw [IntKind.wrap_u64]; omega
          clear hRL
          go_wp2
          go_quiet ((go_at_call 49; exact quiet_left (ref_Pow2 _ F P rfl (by omega) HP.out _)))
          go_wp2
          go_ret2
          exact ⟨rfl, (by repeat' (first | (with_reducible assumption) | (with_reducible exact Below.refl _ _) | (with_reducible refine bdn ?_ _) | (with_reducible refine Below.drew ?_) | (with_reducible refine Below.setCell ?_ ?_ _) | (with_reducible refine Below.alloc ?_ ?_ _) | go_size))⟩
        · have hRL : R = L + y + Q := by have := HR.out; simp at this; omega
          obtain ⟨M, hM⟩ : ∃ M, M = L + y := ⟨_, rfl⟩
          have hw2 : IntKind.u64.wrap ((L : Int) + (y : Int)) = (M : Int) := by rw [IntKind.wrap_u64]; omega
          have hw3 : IntKind.u64.wrap ((M : Int) + (Q : Int)) = (R : Int) := by rw [IntKind.wrap_u64]; omega
          have hML : (M : Int) < 9223372036854775808 := by omega
          clear hRL hM
          go_wp2
          go_quiet ((go_at_call 49; exact quiet_left (ref_Pow2 _ F P rfl (by omega) HP.out _)))
          go_wp2_with fail
          refine (ref_Pow2 _ (E + F) Q (by omega) (by omega) HQ.out _).mono ?_
          rintro r w4 ⟨rfl, rfl⟩
          go_wp2
          go_ret2
          exact ⟨rfl, (by repeat' (first | (with_reducible assumption) | (with_reducible exact Below.refl _ _) | (with_reducible refine bdn ?_ _) | (with_reducible refine Below.drew ?_) | (with_reducible refine Below.setCell ?_ ?_ _) | (with_reducible refine Below.alloc ?_ ?_ _) | go_size))⟩)
  · rw [show joinS e f neg X y = (0, 5) from by unfold joinS; rw [if_neg hc, chk_no hc]]
    have HC := Lib.hid (chk_no hc)
    clear hc
    go_enter Try.func11, Try.ntmps11
    go_wp2_with fail
    refine (ref_Check _ _ _).mono ?_
    rintro r w1 ⟨rfl, hb1⟩
    rw [HC.out]
    obtain ⟨hc1, hf1⟩ := bcell hb1
    have hbw1 : Below w.heap.size w w1 := Below.trans (b := _) (by repeat' (first | (with_reducible assumption) | (with_reducible exact Below.refl _ _) | (with_reducible refine bdn ?_ _) | (with_reducible refine Below.drew ?_) | (with_reducible refine Below.setCell ?_ ?_ _) | (with_reducible refine Below.alloc ?_ ?_ _) | go_size)) (hb1.mono (by go_size))
    have hz1_0 : w.heap.size < w1.heap.size := by have := hb1.size; simp at this; omega
    have hz1_1 : w.heap.size + 1 < w1.heap.size := by have := hb1.size; simp at this; omega
    go_wp2
    go_ret2
    exact ⟨rfl, hbw1⟩
end Go.Proofs.Ytmneicbagcimdaa
