/- FormRow: of any form the known floats stand in a row, of the one sign as of the other; each is of its class, and so are their neighbours' bits. No condition. -/
import Derived.Test.YtmneicbagcimdaaRows
import Derived.Test.YtmneicbagcimdaaFormBack
namespace Go.Proofs.Ytmneicbagcimdaa.formRow
open Go.ChangeShapes Go.WideShapes Go.ChangeAt Go.RowKit Go.Joins
open Go.ChangeMaps (open_string shut_string)
open Go.Proofs.Ytmneicbagcimdaa.formBack (split_join fit_chk)
open Go.RowKit
set_option linter.unusedVariables false
set_option linter.unusedSimpArgs false
set_option maxHeartbeats 4000000
set_option maxRecDepth 100000

theorem class_join {E F x y R : Nat} {ng : Bool} (hc : chkF (E : Int) (F : Int) = 0) (hx : x < 2 ^ E) (hy : y < 2 ^ F) (hR : R = y + x * 2 ^ F + (if ng = true then 2 ^ (F + E) else 0)) : classS (E : Int) (F : Int) R = (classF E x y, 0) ∧ R < 18446744073709551616 := by
  have hj : joinS (E : Int) (F : Int) ng (x : Int) y = (R, 0) := by
    unfold joinS; rw [if_pos hc]; simp only [Int.toNat_natCast]; exact join_ok hx hy hR
  obtain ⟨h1, h2, h3⟩ := split_join hj
  refine ⟨?_, h3⟩
  unfold classS
  rw [if_pos h1, h2]
  rfl
theorem known_join {E F x y R : Nat} {ng : Bool} (hc : chkF (E : Int) (F : Int) = 0) (hx : x < 2 ^ E) (hy : y < 2 ^ F) (hR : R = y + x * 2 ^ F + (if ng = true then 2 ^ (F + E) else 0)) : knownS (E : Int) (F : Int) ng x y = (R, 0) := by
  unfold knownS; rw [if_pos hc]; simp only [Int.toNat_natCast]; exact join_ok hx hy hR

theorem walk (e f : Int) (ng : Bool) (w : World) :
    Calls Try.prog 6 #[.agg #[.int .i64 e, .int .i64 f], .bool ng] w fun e w' => e = .returned (.bool true) ∧ Below w.heap.size w w' := by
  by_cases hc : chkF e f = 0
  · obtain ⟨E, F, rfl, rfl, hE1, hE2, hF1, hF2⟩ := chk_ok hc
    obtain ⟨P, hP⟩ : ∃ P, P = 2 ^ F := ⟨_, rfl⟩
    obtain ⟨Q, hQ⟩ : ∃ Q, Q = 2 ^ E := ⟨_, rfl⟩
    obtain ⟨H, hH⟩ : ∃ H, H = 2 ^ (F - 1) := ⟨_, rfl⟩
    have hPH : P = 2 * H := by rw [hP, hH, ← Nat.pow_succ']; congr 1; omega
    have hH0 : 0 < H := by rw [hH]; exact Nat.two_pow_pos _
    have hQ4 : 4 ≤ Q := by rw [hQ]; exact Nat.pow_le_pow_right (n := 2) (by decide) hE1
    obtain ⟨S, hS⟩ : ∃ S, S = if ng = true then 2 ^ (F + E) else 0 := ⟨_, rfl⟩
    obtain ⟨G, hG⟩ : ∃ G, G = (Q - 2) * P := ⟨_, rfl⟩
    have hG1 : (Q - 1) * P = G + P := by rw [hG, ← Nat.succ_mul]; congr 1; omega
    have hG2 : (Q - 1 - 1) * P = G := by rw [hG]; congr 1
    have hPP : P ≤ (Q - 2) * P := Nat.le_mul_of_pos_left P (by omega)
    rw [← hG] at hPP
    obtain ⟨a, ha⟩ : ∃ a, a = S := ⟨_, rfl⟩
    obtain ⟨b, hb⟩ : ∃ b, b = 1 + S := ⟨_, rfl⟩
    obtain ⟨c1, hc1⟩ : ∃ c1, c1 = P - 1 + S := ⟨_, rfl⟩
    obtain ⟨c, hcc⟩ : ∃ c, c = P + S := ⟨_, rfl⟩
    obtain ⟨d, hd⟩ : ∃ d, d = P - 1 + G + S := ⟨_, rfl⟩
    obtain ⟨x, hx⟩ : ∃ x, x = G + P + S := ⟨_, rfl⟩
    obtain ⟨x1, hx1⟩ : ∃ x1, x1 = 1 + (G + P) + S := ⟨_, rfl⟩
    obtain ⟨n, hn⟩ : ∃ n, n = H + (G + P) + S := ⟨_, rfl⟩
    have ka := @known_join E F 0 0 a ng hc (by omega) (by omega) (by rw [← hS]; omega)
    have kb := @known_join E F 0 1 b ng hc (by omega) (by omega) (by rw [← hS]; omega)
    have kc := @known_join E F 1 0 c ng hc (by omega) (by omega) (by rw [← hS, ← hP]; omega)
    have kd := @known_join E F (2 ^ E - 1 - 1) (2 ^ F - 1) d ng hc (by omega) (by omega) (by rw [← hS, ← hP, ← hQ, hG2]; exact hd)
    have kx := @known_join E F (2 ^ E - 1) 0 x ng hc (by omega) (by omega) (by rw [← hS, ← hP, ← hQ, hG1]; omega)
    have kn : nanS (E : Int) (F : Int) ng 0 = (n, 0) := by
      unfold nanS
      rw [if_pos hc]
      simp only [Int.toNat_natCast]
      rw [← hH, if_neg (by omega), Nat.add_zero]
      exact join_ok (by omega) (by omega) (by rw [← hS, ← hP, ← hQ, hG1]; exact hn)
    have cE : ∀ v, classF E (2 ^ E - 1) v = if v = 0 then 4 else 5 := by
      intro v; unfold classF; rw [if_neg (by omega), if_pos (by omega)]
    have va := @class_join E F 0 0 a ng hc (by omega) (by omega) (by rw [← hS]; omega)
    have vb := @class_join E F 0 1 b ng hc (by omega) (by omega) (by rw [← hS]; omega)
    have vc1 := @class_join E F 0 (P - 1) c1 ng hc (by omega) (by omega) (by rw [← hS]; omega)
    have vc := @class_join E F 1 0 c ng hc (by omega) (by omega) (by rw [← hS, ← hP]; omega)
    have vd := @class_join E F (2 ^ E - 1 - 1) (2 ^ F - 1) d ng hc (by omega) (by omega) (by rw [← hS, ← hP, ← hQ, hG2]; exact hd)
    have vx := @class_join E F (2 ^ E - 1) 0 x ng hc (by omega) (by omega) (by rw [← hS, ← hP, ← hQ, hG1]; omega)
    have vx1 := @class_join E F (2 ^ E - 1) 1 x1 ng hc (by omega) (by omega) (by rw [← hS, ← hP, ← hQ, hG1]; exact hx1)
    have vn := @class_join E F (2 ^ E - 1) H n ng hc (by omega) (by omega) (by rw [← hS, ← hP, ← hQ, hG1]; exact hn)
    rw [show classF E 0 0 = 1 from by unfold classF; rw [if_pos rfl, if_pos rfl]] at va
    rw [show classF E 0 1 = 2 from by unfold classF; rw [if_pos rfl, if_neg (by decide)]] at vb
    rw [show classF E 0 (P - 1) = 2 from by unfold classF; rw [if_pos rfl, if_neg (by omega)]] at vc1
    rw [show classF E 1 0 = 3 from by unfold classF; rw [if_neg (by decide), if_neg (by omega)]] at vc
    rw [show classF E (2 ^ E - 1 - 1) (2 ^ F - 1) = 3 from by unfold classF; rw [if_neg (by omega), if_neg (by omega)]] at vd
    rw [cE, if_pos rfl] at vx
    rw [cE, if_neg (by decide)] at vx1
    rw [cE, if_neg (by omega)] at vn
    have HC := Lib.hid hc
    have t1 : ((b : Int) != (a : Int) + 1) = false := by rw [bne_eq_false_iff_eq]; omega
    have t2 : decide ((c : Int) ≤ (a : Int) + 1) = false := by rw [decide_eq_false_iff_not]; omega
    have t3 : decide ((d : Int) < (c : Int)) = false := by rw [decide_eq_false_iff_not]; omega
    have t4 : ((x : Int) != (d : Int) + 1) = false := by rw [bne_eq_false_iff_eq]; omega
    have t5 : decide ((n : Int) ≤ (x : Int)) = false := by rw [decide_eq_false_iff_not]; omega
    have q1 : c ≤ d := by omega
    have q2 : ¬ n ≤ x := by omega
    have q3 : ¬ d < c := by omega
    have q4 : ¬ c ≤ a + 1 := by omega
    have w1a : IntKind.u64.wrap ((a : Int) + 1) = (a : Int) + 1 := by rw [IntKind.wrap_u64]; have := vb.2; omega
    have w1d : IntKind.u64.wrap ((d : Int) + 1) = (d : Int) + 1 := by rw [IntKind.wrap_u64]; have := vx.2; omega
    have w1c : IntKind.u64.wrap ((c : Int) - 1) = (c1 : Int) := by rw [IntKind.wrap_u64]; have := vc.2; omega
    have w1x : IntKind.u64.wrap ((x : Int) + 1) = (x1 : Int) := by rw [IntKind.wrap_u64]; have := vx1.2; omega
    have f1 := fun W => forms_Nought (E : Int) (F : Int) ng W
    have f2 := fun W => forms_Least (E : Int) (F : Int) ng W
    have f3 := fun W => forms_Normal (E : Int) (F : Int) ng W
    have f4 := fun W => forms_Greatest (E : Int) (F : Int) ng W
    have f5 := fun W => forms_Inf (E : Int) (F : Int) ng W
    have f6 := fun W => forms_NaN (E : Int) (F : Int) ng 0 0 rfl (by decide) W
    simp only [Int.toNat_natCast] at f4 f5
    simp only [ka] at f1
    simp only [kb] at f2
    simp only [kc] at f3
    simp only [kd] at f4
    simp only [kx] at f5
    simp only [kn] at f6
    have ga := fun W => forms_Class (E : Int) (F : Int) (a : Int) a rfl va.2 W
    simp only [va.1] at ga
    have gb := fun W => forms_Class (E : Int) (F : Int) (b : Int) b rfl vb.2 W
    simp only [vb.1] at gb
    have gc1 := fun W => forms_Class (E : Int) (F : Int) (c1 : Int) c1 rfl vc1.2 W
    simp only [vc1.1] at gc1
    have gc := fun W => forms_Class (E : Int) (F : Int) (c : Int) c rfl vc.2 W
    simp only [vc.1] at gc
    have gd := fun W => forms_Class (E : Int) (F : Int) (d : Int) d rfl vd.2 W
    simp only [vd.1] at gd
    have gx := fun W => forms_Class (E : Int) (F : Int) (x : Int) x rfl vx.2 W
    simp only [vx.1] at gx
    have gx1 := fun W => forms_Class (E : Int) (F : Int) (x1 : Int) x1 rfl vx1.2 W
    simp only [vx1.1] at gx1
    have gn := fun W => forms_Class (E : Int) (F : Int) (n : Int) n rfl vn.2 W
    simp only [vn.1] at gn
    clear ka kb kc kd kx kn va vb vc1 vc vd vx vx1 vn cE hG1 hG2 hPP ha hb hc1 hcc hd hx hx1 hn hG hS hPH hH0 hQ4 hP hQ hH hc
    go_enter Try.func6, Try.ntmps6
    go_wp2_with fail
    refine (awake_any _).mono ?_
    rintro r w1 ⟨rfl, hb1⟩
    have hbw1 : Below w.heap.size w w1 := ((Below.refl w.heap.size w).alloc (Nat.le_refl _) _).trans (hb1.mono (by simp))
    have c0_1 : w1.cell? ⟨w.heap.size, 0, none⟩ = some (.int .i64 (E : Int)) := by rw [hb1.cell (p := ⟨w.heap.size, 0, none⟩) (by simp)]; simp
    have c1_1 : w1.cell? ⟨w.heap.size, 1, none⟩ = some (.int .i64 (F : Int)) := by rw [hb1.cell (p := ⟨w.heap.size, 1, none⟩) (by simp)]; simp
    clear hb1
    go_wp2_with fail
    refine (forms_Check _ _ _).mono ?_
    rintro r w2 ⟨rfl, hb2⟩
    rw [HC.out]
    have hbw2 := hbw1.trans (hb2.mono hbw1.size)
    have c0_2 := cell_keep hb2 c0_1
    have c1_2 := cell_keep hb2 c1_1
    clear hb2 c0_1 c1_1 hbw1
    go_wp2_with fail
    refine (f1 _).mono ?_
    rintro r w3 ⟨rfl, hb3⟩
    have hbw3 := hbw2.trans (hb3.mono hbw2.size)
    have c0_3 := cell_keep hb3 c0_2
    have c1_3 := cell_keep hb3 c1_2
    clear hb3 c0_2 c1_2 hbw2 f1
    go_wp2_with fail
    refine (f2 _).mono ?_
    rintro r w4 ⟨rfl, hb4⟩
    have hbw4 := hbw3.trans (hb4.mono hbw3.size)
    have c0_4 := cell_keep hb4 c0_3
    have c1_4 := cell_keep hb4 c1_3
    clear hb4 c0_3 c1_3 hbw3 f2
    go_wp2_with fail
    refine (f3 _).mono ?_
    rintro r w5 ⟨rfl, hb5⟩
    have hbw5 := hbw4.trans (hb5.mono hbw4.size)
    have c0_5 := cell_keep hb5 c0_4
    have c1_5 := cell_keep hb5 c1_4
    clear hb5 c0_4 c1_4 hbw4 f3
    go_wp2_with fail
    refine (f4 _).mono ?_
    rintro r w6 ⟨rfl, hb6⟩
    have hbw6 := hbw5.trans (hb6.mono hbw5.size)
    have c0_6 := cell_keep hb6 c0_5
    have c1_6 := cell_keep hb6 c1_5
    clear hb6 c0_5 c1_5 hbw5 f4
    go_wp2_with fail
    refine (f5 _).mono ?_
    rintro r w7 ⟨rfl, hb7⟩
    have hbw7 := hbw6.trans (hb7.mono hbw6.size)
    have c0_7 := cell_keep hb7 c0_6
    have c1_7 := cell_keep hb7 c1_6
    clear hb7 c0_6 c1_6 hbw6 f5
    go_wp2_with fail
    refine (f6 _).mono ?_
    rintro r w8 ⟨rfl, hb8⟩
    have hbw8 := hbw7.trans (hb8.mono hbw7.size)
    have c0_8 := cell_keep hb8 c0_7
    have c1_8 := cell_keep hb8 c1_7
    clear hb8 c0_7 c1_7 hbw7 f6
    have z8 := cell_lt c0_8
    simp only at z8
    go_wp2
    have hs8 := hbw8.size
    have hbW : Below w.heap.size w ((w8.alloc (.cells #[.int .u64 (a : Int), .int .u64 (b : Int), .int .u64 (c1 : Int), .int .u64 (c : Int), .int .u64 (d : Int), .int .u64 (x : Int), .int .u64 (x1 : Int), .int .u64 (n : Int)] 24)).alloc (.cells #[.int .u8 1, .int .u8 2, .int .u8 2, .int .u8 3, .int .u8 3, .int .u8 4, .int .u8 5, .int .u8 5] 5)) := (hbw8.alloc hs8 _).alloc (by simp; omega) _
    have L0 : ((w8.alloc (.cells #[.int .u64 (a : Int), .int .u64 (b : Int), .int .u64 (c1 : Int), .int .u64 (c : Int), .int .u64 (d : Int), .int .u64 (x : Int), .int .u64 (x1 : Int), .int .u64 (n : Int)] 24)).alloc (.cells #[.int .u8 1, .int .u8 2, .int .u8 2, .int .u8 3, .int .u8 3, .int .u8 4, .int .u8 5, .int .u8 5] 5)).cell? ⟨w.heap.size, 0, none⟩ = some (.int .i64 (E : Int)) := (World.cell?_alloc_lt _ _ _ (by simp; omega)).trans ((World.cell?_alloc_lt _ _ _ z8).trans c0_8)
    have L1 : ((w8.alloc (.cells #[.int .u64 (a : Int), .int .u64 (b : Int), .int .u64 (c1 : Int), .int .u64 (c : Int), .int .u64 (d : Int), .int .u64 (x : Int), .int .u64 (x1 : Int), .int .u64 (n : Int)] 24)).alloc (.cells #[.int .u8 1, .int .u8 2, .int .u8 2, .int .u8 3, .int .u8 3, .int .u8 4, .int .u8 5, .int .u8 5] 5)).cell? ⟨w.heap.size, 1, none⟩ = some (.int .i64 (F : Int)) := (World.cell?_alloc_lt _ _ _ (by simp; omega)).trans ((World.cell?_alloc_lt _ _ _ z8).trans c1_8)
    have M0 : ((w8.alloc (.cells #[.int .u64 (a : Int), .int .u64 (b : Int), .int .u64 (c1 : Int), .int .u64 (c : Int), .int .u64 (d : Int), .int .u64 (x : Int), .int .u64 (x1 : Int), .int .u64 (n : Int)] 24)).alloc (.cells #[.int .u8 1, .int .u8 2, .int .u8 2, .int .u8 3, .int .u8 3, .int .u8 4, .int .u8 5, .int .u8 5] 5)).cell? ⟨w8.heap.size, 0, none⟩ = some (.int .u64 (a : Int)) := by simp
    have K0 : ((w8.alloc (.cells #[.int .u64 (a : Int), .int .u64 (b : Int), .int .u64 (c1 : Int), .int .u64 (c : Int), .int .u64 (d : Int), .int .u64 (x : Int), .int .u64 (x1 : Int), .int .u64 (n : Int)] 24)).alloc (.cells #[.int .u8 1, .int .u8 2, .int .u8 2, .int .u8 3, .int .u8 3, .int .u8 4, .int .u8 5, .int .u8 5] 5)).cell? ⟨w8.heap.size + 1, 0, none⟩ = some (.int .u8 1) := by simp
    have M1 : ((w8.alloc (.cells #[.int .u64 (a : Int), .int .u64 (b : Int), .int .u64 (c1 : Int), .int .u64 (c : Int), .int .u64 (d : Int), .int .u64 (x : Int), .int .u64 (x1 : Int), .int .u64 (n : Int)] 24)).alloc (.cells #[.int .u8 1, .int .u8 2, .int .u8 2, .int .u8 3, .int .u8 3, .int .u8 4, .int .u8 5, .int .u8 5] 5)).cell? ⟨w8.heap.size, 1, none⟩ = some (.int .u64 (b : Int)) := by simp
    have K1 : ((w8.alloc (.cells #[.int .u64 (a : Int), .int .u64 (b : Int), .int .u64 (c1 : Int), .int .u64 (c : Int), .int .u64 (d : Int), .int .u64 (x : Int), .int .u64 (x1 : Int), .int .u64 (n : Int)] 24)).alloc (.cells #[.int .u8 1, .int .u8 2, .int .u8 2, .int .u8 3, .int .u8 3, .int .u8 4, .int .u8 5, .int .u8 5] 5)).cell? ⟨w8.heap.size + 1, 1, none⟩ = some (.int .u8 2) := by simp
    have M2 : ((w8.alloc (.cells #[.int .u64 (a : Int), .int .u64 (b : Int), .int .u64 (c1 : Int), .int .u64 (c : Int), .int .u64 (d : Int), .int .u64 (x : Int), .int .u64 (x1 : Int), .int .u64 (n : Int)] 24)).alloc (.cells #[.int .u8 1, .int .u8 2, .int .u8 2, .int .u8 3, .int .u8 3, .int .u8 4, .int .u8 5, .int .u8 5] 5)).cell? ⟨w8.heap.size, 2, none⟩ = some (.int .u64 (c1 : Int)) := by simp
    have K2 : ((w8.alloc (.cells #[.int .u64 (a : Int), .int .u64 (b : Int), .int .u64 (c1 : Int), .int .u64 (c : Int), .int .u64 (d : Int), .int .u64 (x : Int), .int .u64 (x1 : Int), .int .u64 (n : Int)] 24)).alloc (.cells #[.int .u8 1, .int .u8 2, .int .u8 2, .int .u8 3, .int .u8 3, .int .u8 4, .int .u8 5, .int .u8 5] 5)).cell? ⟨w8.heap.size + 1, 2, none⟩ = some (.int .u8 2) := by simp
    have M3 : ((w8.alloc (.cells #[.int .u64 (a : Int), .int .u64 (b : Int), .int .u64 (c1 : Int), .int .u64 (c : Int), .int .u64 (d : Int), .int .u64 (x : Int), .int .u64 (x1 : Int), .int .u64 (n : Int)] 24)).alloc (.cells #[.int .u8 1, .int .u8 2, .int .u8 2, .int .u8 3, .int .u8 3, .int .u8 4, .int .u8 5, .int .u8 5] 5)).cell? ⟨w8.heap.size, 3, none⟩ = some (.int .u64 (c : Int)) := by simp
    have K3 : ((w8.alloc (.cells #[.int .u64 (a : Int), .int .u64 (b : Int), .int .u64 (c1 : Int), .int .u64 (c : Int), .int .u64 (d : Int), .int .u64 (x : Int), .int .u64 (x1 : Int), .int .u64 (n : Int)] 24)).alloc (.cells #[.int .u8 1, .int .u8 2, .int .u8 2, .int .u8 3, .int .u8 3, .int .u8 4, .int .u8 5, .int .u8 5] 5)).cell? ⟨w8.heap.size + 1, 3, none⟩ = some (.int .u8 3) := by simp
    have M4 : ((w8.alloc (.cells #[.int .u64 (a : Int), .int .u64 (b : Int), .int .u64 (c1 : Int), .int .u64 (c : Int), .int .u64 (d : Int), .int .u64 (x : Int), .int .u64 (x1 : Int), .int .u64 (n : Int)] 24)).alloc (.cells #[.int .u8 1, .int .u8 2, .int .u8 2, .int .u8 3, .int .u8 3, .int .u8 4, .int .u8 5, .int .u8 5] 5)).cell? ⟨w8.heap.size, 4, none⟩ = some (.int .u64 (d : Int)) := by simp
    have K4 : ((w8.alloc (.cells #[.int .u64 (a : Int), .int .u64 (b : Int), .int .u64 (c1 : Int), .int .u64 (c : Int), .int .u64 (d : Int), .int .u64 (x : Int), .int .u64 (x1 : Int), .int .u64 (n : Int)] 24)).alloc (.cells #[.int .u8 1, .int .u8 2, .int .u8 2, .int .u8 3, .int .u8 3, .int .u8 4, .int .u8 5, .int .u8 5] 5)).cell? ⟨w8.heap.size + 1, 4, none⟩ = some (.int .u8 3) := by simp
    have M5 : ((w8.alloc (.cells #[.int .u64 (a : Int), .int .u64 (b : Int), .int .u64 (c1 : Int), .int .u64 (c : Int), .int .u64 (d : Int), .int .u64 (x : Int), .int .u64 (x1 : Int), .int .u64 (n : Int)] 24)).alloc (.cells #[.int .u8 1, .int .u8 2, .int .u8 2, .int .u8 3, .int .u8 3, .int .u8 4, .int .u8 5, .int .u8 5] 5)).cell? ⟨w8.heap.size, 5, none⟩ = some (.int .u64 (x : Int)) := by simp
    have K5 : ((w8.alloc (.cells #[.int .u64 (a : Int), .int .u64 (b : Int), .int .u64 (c1 : Int), .int .u64 (c : Int), .int .u64 (d : Int), .int .u64 (x : Int), .int .u64 (x1 : Int), .int .u64 (n : Int)] 24)).alloc (.cells #[.int .u8 1, .int .u8 2, .int .u8 2, .int .u8 3, .int .u8 3, .int .u8 4, .int .u8 5, .int .u8 5] 5)).cell? ⟨w8.heap.size + 1, 5, none⟩ = some (.int .u8 4) := by simp
    have M6 : ((w8.alloc (.cells #[.int .u64 (a : Int), .int .u64 (b : Int), .int .u64 (c1 : Int), .int .u64 (c : Int), .int .u64 (d : Int), .int .u64 (x : Int), .int .u64 (x1 : Int), .int .u64 (n : Int)] 24)).alloc (.cells #[.int .u8 1, .int .u8 2, .int .u8 2, .int .u8 3, .int .u8 3, .int .u8 4, .int .u8 5, .int .u8 5] 5)).cell? ⟨w8.heap.size, 6, none⟩ = some (.int .u64 (x1 : Int)) := by simp
    have K6 : ((w8.alloc (.cells #[.int .u64 (a : Int), .int .u64 (b : Int), .int .u64 (c1 : Int), .int .u64 (c : Int), .int .u64 (d : Int), .int .u64 (x : Int), .int .u64 (x1 : Int), .int .u64 (n : Int)] 24)).alloc (.cells #[.int .u8 1, .int .u8 2, .int .u8 2, .int .u8 3, .int .u8 3, .int .u8 4, .int .u8 5, .int .u8 5] 5)).cell? ⟨w8.heap.size + 1, 6, none⟩ = some (.int .u8 5) := by simp
    have M7 : ((w8.alloc (.cells #[.int .u64 (a : Int), .int .u64 (b : Int), .int .u64 (c1 : Int), .int .u64 (c : Int), .int .u64 (d : Int), .int .u64 (x : Int), .int .u64 (x1 : Int), .int .u64 (n : Int)] 24)).alloc (.cells #[.int .u8 1, .int .u8 2, .int .u8 2, .int .u8 3, .int .u8 3, .int .u8 4, .int .u8 5, .int .u8 5] 5)).cell? ⟨w8.heap.size, 7, none⟩ = some (.int .u64 (n : Int)) := by simp
    have K7 : ((w8.alloc (.cells #[.int .u64 (a : Int), .int .u64 (b : Int), .int .u64 (c1 : Int), .int .u64 (c : Int), .int .u64 (d : Int), .int .u64 (x : Int), .int .u64 (x1 : Int), .int .u64 (n : Int)] 24)).alloc (.cells #[.int .u8 1, .int .u8 2, .int .u8 2, .int .u8 3, .int .u8 3, .int .u8 4, .int .u8 5, .int .u8 5] 5)).cell? ⟨w8.heap.size + 1, 7, none⟩ = some (.int .u8 5) := by simp
    clear c0_8 c1_8
    generalize ((w8.alloc (.cells #[.int .u64 (a : Int), .int .u64 (b : Int), .int .u64 (c1 : Int), .int .u64 (c : Int), .int .u64 (d : Int), .int .u64 (x : Int), .int .u64 (x1 : Int), .int .u64 (n : Int)] 24)).alloc (.cells #[.int .u8 1, .int .u8 2, .int .u8 2, .int .u8 3, .int .u8 3, .int .u8 4, .int .u8 5, .int .u8 5] 5)) = W at *
    go_loopw [20] (fun v wr => ∃ q : Nat, q ≤ 8 ∧ v = .int .i64 (q : Int) ∧ Below W.heap.size W wr) (fun v _ => 8 - (intOf v).toNat)
    case atStart => exact ⟨0, by omega, rfl, Below.refl _ _⟩
    case round =>
      obtain ⟨q, hq, rfl, hbq⟩ := hrel
      have l0 := cell_keep hbq L0
      have l1 := cell_keep hbq L1
      have hcase : q = 0 ∨ q = 1 ∨ q = 2 ∨ q = 3 ∨ q = 4 ∨ q = 5 ∨ q = 6 ∨ q = 7 ∨ q = 8 := by omega
      rcases hcase with rfl | rfl | rfl | rfl | rfl | rfl | rfl | rfl | rfl
      · have m := cell_keep hbq M0
        have kk := cell_keep hbq K0
        go_wp2
        go_region_held3 (fun w' => w'.cell? ⟨w.heap.size, 0, none⟩ = some (.int .i64 (E : Int)) ∧ w'.cell? ⟨w.heap.size, 1, none⟩ = some (.int .i64 (F : Int)) ∧ w'.cell? ⟨w8.heap.size, 0, none⟩ = some (.int .u64 (a : Int))) (first | exact ⟨cell_keep hb9 l0, cell_keep hb9 l1, cell_keep hb9 m⟩ | go_keep)
          (first
           | (go_at_call 14; refine (ga _).mono ?_; rintro r w9 ⟨rfl, hb9⟩; have k9 := cell_keep hb9 kk))
        all_goals (
          go_wp2
          go_roundw
          case rel => exact ⟨1, by omega, by go_num, (Below.drew hbq).trans (hb9.mono hbq.size)⟩
          case measure => first | (simp [intOf]; done) | (simp [intOf]; omega))
      · have m := cell_keep hbq M1
        have kk := cell_keep hbq K1
        go_wp2
        go_region_held3 (fun w' => w'.cell? ⟨w.heap.size, 0, none⟩ = some (.int .i64 (E : Int)) ∧ w'.cell? ⟨w.heap.size, 1, none⟩ = some (.int .i64 (F : Int)) ∧ w'.cell? ⟨w8.heap.size, 1, none⟩ = some (.int .u64 (b : Int))) (first | exact ⟨cell_keep hb9 l0, cell_keep hb9 l1, cell_keep hb9 m⟩ | go_keep)
          (first
           | (go_at_call 14; refine (gb _).mono ?_; rintro r w9 ⟨rfl, hb9⟩; have k9 := cell_keep hb9 kk))
        all_goals (
          go_wp2
          go_roundw
          case rel => exact ⟨2, by omega, by go_num, (Below.drew hbq).trans (hb9.mono hbq.size)⟩
          case measure => first | (simp [intOf]; done) | (simp [intOf]; omega))
      · have m := cell_keep hbq M2
        have kk := cell_keep hbq K2
        go_wp2
        go_region_held3 (fun w' => w'.cell? ⟨w.heap.size, 0, none⟩ = some (.int .i64 (E : Int)) ∧ w'.cell? ⟨w.heap.size, 1, none⟩ = some (.int .i64 (F : Int)) ∧ w'.cell? ⟨w8.heap.size, 2, none⟩ = some (.int .u64 (c1 : Int))) (first | exact ⟨cell_keep hb9 l0, cell_keep hb9 l1, cell_keep hb9 m⟩ | go_keep)
          (first
           | (go_at_call 14; refine (gc1 _).mono ?_; rintro r w9 ⟨rfl, hb9⟩; have k9 := cell_keep hb9 kk))
        all_goals (
          go_wp2
          go_roundw
          case rel => exact ⟨3, by omega, by go_num, (Below.drew hbq).trans (hb9.mono hbq.size)⟩
          case measure => first | (simp [intOf]; done) | (simp [intOf]; omega))
      · have m := cell_keep hbq M3
        have kk := cell_keep hbq K3
        go_wp2
        go_region_held3 (fun w' => w'.cell? ⟨w.heap.size, 0, none⟩ = some (.int .i64 (E : Int)) ∧ w'.cell? ⟨w.heap.size, 1, none⟩ = some (.int .i64 (F : Int)) ∧ w'.cell? ⟨w8.heap.size, 3, none⟩ = some (.int .u64 (c : Int))) (first | exact ⟨cell_keep hb9 l0, cell_keep hb9 l1, cell_keep hb9 m⟩ | go_keep)
          (first
           | (go_at_call 14; refine (gc _).mono ?_; rintro r w9 ⟨rfl, hb9⟩; have k9 := cell_keep hb9 kk))
        all_goals (
          go_wp2
          go_roundw
          case rel => exact ⟨4, by omega, by go_num, (Below.drew hbq).trans (hb9.mono hbq.size)⟩
          case measure => first | (simp [intOf]; done) | (simp [intOf]; omega))
      · have m := cell_keep hbq M4
        have kk := cell_keep hbq K4
        go_wp2
        go_region_held3 (fun w' => w'.cell? ⟨w.heap.size, 0, none⟩ = some (.int .i64 (E : Int)) ∧ w'.cell? ⟨w.heap.size, 1, none⟩ = some (.int .i64 (F : Int)) ∧ w'.cell? ⟨w8.heap.size, 4, none⟩ = some (.int .u64 (d : Int))) (first | exact ⟨cell_keep hb9 l0, cell_keep hb9 l1, cell_keep hb9 m⟩ | go_keep)
          (first
           | (go_at_call 14; refine (gd _).mono ?_; rintro r w9 ⟨rfl, hb9⟩; have k9 := cell_keep hb9 kk))
        all_goals (
          go_wp2
          go_roundw
          case rel => exact ⟨5, by omega, by go_num, (Below.drew hbq).trans (hb9.mono hbq.size)⟩
          case measure => first | (simp [intOf]; done) | (simp [intOf]; omega))
      · have m := cell_keep hbq M5
        have kk := cell_keep hbq K5
        go_wp2
        go_region_held3 (fun w' => w'.cell? ⟨w.heap.size, 0, none⟩ = some (.int .i64 (E : Int)) ∧ w'.cell? ⟨w.heap.size, 1, none⟩ = some (.int .i64 (F : Int)) ∧ w'.cell? ⟨w8.heap.size, 5, none⟩ = some (.int .u64 (x : Int))) (first | exact ⟨cell_keep hb9 l0, cell_keep hb9 l1, cell_keep hb9 m⟩ | go_keep)
          (first
           | (go_at_call 14; refine (gx _).mono ?_; rintro r w9 ⟨rfl, hb9⟩; have k9 := cell_keep hb9 kk))
        all_goals (
          go_wp2
          go_roundw
          case rel => exact ⟨6, by omega, by go_num, (Below.drew hbq).trans (hb9.mono hbq.size)⟩
          case measure => first | (simp [intOf]; done) | (simp [intOf]; omega))
      · have m := cell_keep hbq M6
        have kk := cell_keep hbq K6
        go_wp2
        go_region_held3 (fun w' => w'.cell? ⟨w.heap.size, 0, none⟩ = some (.int .i64 (E : Int)) ∧ w'.cell? ⟨w.heap.size, 1, none⟩ = some (.int .i64 (F : Int)) ∧ w'.cell? ⟨w8.heap.size, 6, none⟩ = some (.int .u64 (x1 : Int))) (first | exact ⟨cell_keep hb9 l0, cell_keep hb9 l1, cell_keep hb9 m⟩ | go_keep)
          (first
           | (go_at_call 14; refine (gx1 _).mono ?_; rintro r w9 ⟨rfl, hb9⟩; have k9 := cell_keep hb9 kk))
        all_goals (
          go_wp2
          go_roundw
          case rel => exact ⟨7, by omega, by go_num, (Below.drew hbq).trans (hb9.mono hbq.size)⟩
          case measure => first | (simp [intOf]; done) | (simp [intOf]; omega))
      · have m := cell_keep hbq M7
        have kk := cell_keep hbq K7
        go_wp2
        go_region_held3 (fun w' => w'.cell? ⟨w.heap.size, 0, none⟩ = some (.int .i64 (E : Int)) ∧ w'.cell? ⟨w.heap.size, 1, none⟩ = some (.int .i64 (F : Int)) ∧ w'.cell? ⟨w8.heap.size, 7, none⟩ = some (.int .u64 (n : Int))) (first | exact ⟨cell_keep hb9 l0, cell_keep hb9 l1, cell_keep hb9 m⟩ | go_keep)
          (first
           | (go_at_call 14; refine (gn _).mono ?_; rintro r w9 ⟨rfl, hb9⟩; have k9 := cell_keep hb9 kk))
        all_goals (
          go_wp2
          go_roundw
          case rel => exact ⟨8, by omega, by go_num, (Below.drew hbq).trans (hb9.mono hbq.size)⟩
          case measure => first | (simp [intOf]; done) | (simp [intOf]; omega))
      · go_wp2
        go_ret
        exact ⟨rfl, hbW.trans (hbq.mono hbW.size)⟩
  · have HC := Lib.hid (chk_no hc)
    clear hc
    go_enter Try.func6, Try.ntmps6
    go_wp2_with fail
    refine (awake_any _).mono ?_
    rintro r w1 ⟨rfl, hb1⟩
    have hbw1 : Below w.heap.size w w1 := ((Below.refl w.heap.size w).alloc (Nat.le_refl _) _).trans (hb1.mono (by simp))
    have c0_1 : w1.cell? ⟨w.heap.size, 0, none⟩ = some (.int .i64 e) := by rw [hb1.cell (p := ⟨w.heap.size, 0, none⟩) (by simp)]; simp
    have c1_1 : w1.cell? ⟨w.heap.size, 1, none⟩ = some (.int .i64 f) := by rw [hb1.cell (p := ⟨w.heap.size, 1, none⟩) (by simp)]; simp
    clear hb1
    go_wp2_with fail
    refine (forms_Check _ _ _).mono ?_
    rintro r w2 ⟨rfl, hb2⟩
    rw [HC.out]
    have hbw2 := hbw1.trans (hb2.mono hbw1.size)
    go_wp2
    go_ret
    exact ⟨rfl, hbw2⟩

theorem own : ownKnob Try.prog.godebug = none := by kernel_rfl
theorem laidOut : laidOutB Try.prog = true := by kernel_rfl

theorem lifted (os : Os) (started : os.Started) (H : Type) (enc : TypeId × Value → H) :
    ReturnsInHanded {} Try.checked os 6 .any (Rows.formRowSpec.pre6 enc Try.prog Try.f6 Rows.formRowRow.domain false) (Rows.formRowSpec.post enc Try.prog Try.f6 false true false false) := by
  refine returnsInHanded_of_change_sized (C := Try.checked) own started (by kernel_rfl) Try.func6
    (ChangeSpec.witness6 (enc := enc) (C := Try.checked) false ⟨#[], #[.agg #[.int .i64 0, .int .i64 0], .bool false], []⟩ 8 (by kernel_rfl) (by kernel_rfl) (by kernel_rfl) (by kernel_rfl)) ?_
  intro W base args ds gs before hval0 hW hcnd hsz0 _
  have hval : ∀ (j : Nat) t v, Try.f6.params[j]? = some t → args[j]? = some v → Value.okWide Try.prog W .any base t v := hval0
  have hsz : (DataW.weightsEach Try.prog (Try.f6.params.toList ++ Rows.formRowSpec.plain.varTypes Try.prog) (ds ++ gs)).all (· ≤ reachBytes) = true := hsz0
  have hW' := hW
  obtain ⟨p, q, hA0, hV, rfl, hfz, hnd⟩ := hW
  have hA : DataW.TrodAll enc Try.prog W 0 (fun _ => true) true Try.f6.params.toList args.toList ds p := hA0
  rw [Try.params6] at hA hval hsz
  obtain ⟨v0, vs0, d0, ds0, p0, q0, hargs, rfl, rfl, h0, r0⟩ := trodAll_cons hA
  obtain ⟨v1, vs1, d1, ds1, p1, q1, rfl, rfl, rfl, h1, r1⟩ := trodAll_cons r0
  obtain ⟨rfl, rfl, rfl⟩ := trodAll_nil r1
  obtain rfl : args = #[v0, v1] := by cases args; simp_all
  obtain ⟨rfl, rfl⟩ := trodVars_none hV
  have k0 := h0
  have lt0 : ∀ x ∈ p0, x.block < W.heap.size := by obtain ⟨m, hm⟩ := k0; exact DataW.trod_lt m _ _ _ hm
  obtain ⟨ca0, cb0, ya0, yb0, nn0, hv0, _, _, ga0, gb0⟩ := open_agg2 Try.underlying23 (by kernel_rfl) (by kernel_rfl) (hval 0 23 v0 rfl rfl) h0
  obtain ⟨e0, he0, _, we0⟩ := DataW.trod_int Try.underlying3 ga0
  obtain ⟨f0, hf0, _, wf0⟩ := DataW.trod_int Try.underlying3 gb0
  obtain rfl : ca0 = .int .i64 e0 := by simpa using he0
  obtain rfl : cb0 = .int .i64 f0 := by simpa using hf0
  subst hv0
  have be0 := bounds_i64 we0
  have bf0 := bounds_i64 wf0
  obtain ⟨a1, rfl, rfl, rfl⟩ := open_bool Try.underlying4 (hval 1 4 v1 rfl rfl) h1
  clear hA0 hval0 hsz0
  simp only [List.append_nil] at hW'
  refine (walk e0 f0 a1 W).mono fun e W' ⟨he, bel⟩ => ?_
  subst he
  exact ⟨_, rfl, _, _, _, [], _, [], hW', trodAll_cons_mk (shut_bool Try.underlying4 _) trodAll_mk0, trodAll_cons_mk (Below.trod laidOut (by kernel_rfl) (of_decide_eq_true (by kernel_rfl)) k0 bel lt0) (trodAll_cons_mk (shut_bool Try.underlying4 _) trodAll_mk0), rfl, bel.frame _, fun h => by cases h⟩

theorem over : Rows.formRowRow.holds Try.pinned (OpenSpec.ofChange Rows.formRowSpec) :=
  OpenClaim.holds_of_wide 6 Try.f6 rfl rfl rfl rfl rfl rfl rfl ⟨rfl, rfl, rfl, rfl, rfl⟩ rfl rfl rfl rfl rfl (by kernel_rfl) Try.func6 (by kernel_rfl)
    (of_decide_eq_true (by kernel_rfl)) (by unfold Func.isWrapper; first | (rw [if_pos (by decide +kernel)]; kernel_rfl) | (rw [if_neg (by decide +kernel)]; exact ⟨rfl, rfl⟩))
    (fun os started H enc _ => lifted os started H enc)

theorem proved : Rows.FormRowSaid := over
#print axioms proved
end Go.Proofs.Ytmneicbagcimdaa.formRow
