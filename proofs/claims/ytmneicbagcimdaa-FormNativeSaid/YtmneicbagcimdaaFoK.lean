/- Forms: the document's known floats, the ranges. -/
import Derived.Test.YtmneicbagcimdaaFoH
import Derived.Test.YtmneicbagcimdaaFoC
namespace Go.Proofs.Ytmneicbagcimdaa
open Go.RowKit
set_option linter.unusedVariables false
set_option linter.unusedSimpArgs false
set_option maxHeartbeats 4000000
set_option maxRecDepth 100000

theorem ref_known (e f X : Int) (ng : Bool) (Y : Int) (y : Nat) (hY : Y = (y : Int)) (hy64 : y < 18446744073709551616) (hx1 : -9223372036854775808 ≤ X) (hx2 : X ≤ 9223372036854775807) (w : World) :
    Calls Try.prog 59 #[.agg #[.int .i64 e, .int .i64 f], .bool ng, .int .i64 X, .int .u64 Y] w (Says w (.tuple #[.int .u64 (((joinS e f ng X y).1 : Nat) : Int), .int .i64 (joinS e f ng X y).2])) := by
  subst hY
  go_enter Try.func59, Try.ntmps59
  go_wp2_with fail
  refine (ref_Join e f X ng _ y rfl hy64 hx1 hx2 _).mono ?_
  rintro r w1 ⟨rfl, hb1⟩
  go_wp2
  go_ret2
  exact ⟨rfl, ((Below.refl w.heap.size w).alloc (Nat.le_refl _) _).trans (hb1.mono (by simp))⟩
theorem known_eq (e f : Int) (ng : Bool) (x y : Nat) : joinS e f ng (x : Int) y = knownS e f ng x y := rfl
theorem ref_Nought (e f : Int) (ng : Bool) (w : World) :
    Calls Try.prog 36 #[.agg #[.int .i64 e, .int .i64 f], .bool ng] w (Says w (.tuple #[.int .u64 (((knownS e f ng 0 0).1 : Nat) : Int), .int .i64 (knownS e f ng 0 0).2])) := by
  rw [← known_eq]
  go_enter Try.func36, Try.ntmps36
  go_wp2_with fail
  refine (ref_known e f 0 ng 0 0 rfl (by decide) (by decide) (by decide) _).mono ?_
  rintro r w1 ⟨rfl, hb1⟩
  go_wp2
  go_ret2
  exact ⟨rfl, ((Below.refl w.heap.size w).alloc (Nat.le_refl _) _).trans (hb1.mono (by simp))⟩
theorem ref_Normal (e f : Int) (ng : Bool) (w : World) :
    Calls Try.prog 40 #[.agg #[.int .i64 e, .int .i64 f], .bool ng] w (Says w (.tuple #[.int .u64 (((knownS e f ng 1 0).1 : Nat) : Int), .int .i64 (knownS e f ng 1 0).2])) := by
  rw [← known_eq]
  go_enter Try.func40, Try.ntmps40
  go_wp2_with fail
  refine (ref_known e f 1 ng 0 0 rfl (by decide) (by decide) (by decide) _).mono ?_
  rintro r w1 ⟨rfl, hb1⟩
  go_wp2
  go_ret2
  exact ⟨rfl, ((Below.refl w.heap.size w).alloc (Nat.le_refl _) _).trans (hb1.mono (by simp))⟩
theorem ref_Least (e f : Int) (ng : Bool) (w : World) :
    Calls Try.prog 41 #[.agg #[.int .i64 e, .int .i64 f], .bool ng] w (Says w (.tuple #[.int .u64 (((knownS e f ng 0 1).1 : Nat) : Int), .int .i64 (knownS e f ng 0 1).2])) := by
  rw [← known_eq]
  go_enter Try.func41, Try.ntmps41
  go_wp2_with fail
  refine (ref_known e f 0 ng 1 1 rfl (by decide) (by decide) (by decide) _).mono ?_
  rintro r w1 ⟨rfl, hb1⟩
  go_wp2
  go_ret2
  exact ⟨rfl, ((Below.refl w.heap.size w).alloc (Nat.le_refl _) _).trans (hb1.mono (by simp))⟩
theorem ref_Infinite (e f : Int) (ng : Bool) (w : World) :
    Calls Try.prog 37 #[.agg #[.int .i64 e, .int .i64 f], .bool ng] w (Says w (.tuple #[.int .u64 (((knownS e f ng (2 ^ e.toNat - 1) 0).1 : Nat) : Int), .int .i64 (knownS e f ng (2 ^ e.toNat - 1) 0).2])) := by
  by_cases hc : chkF e f = 0
  · obtain ⟨E, F, rfl, rfl, hE1, hE2, hF1, hF2⟩ := chk_ok hc
    have HC := Lib.hid hc
    obtain ⟨T, hT⟩ := pow_m1 E
    have HT := Lib.hid hT
    have hEs : 2 ^ E ≤ 2048 := Nat.pow_le_pow_right (n := 2) (by decide) hE2
    have hE0 : 4 ≤ 2 ^ E := Nat.pow_le_pow_right (n := 2) (by decide) hE1
    have hTs : T ≤ 2047 := by omega
    have hT3 : 3 ≤ T := by omega
    · rw [Int.toNat_natCast, show 2 ^ E - 1 = T from by omega, ← known_eq]
      clear hc hT hEs hE0
      go_enter Try.func37, Try.ntmps37
      go_wp2_with fail
      refine (ref_Check _ _ _).mono ?_
      rintro r w1 ⟨rfl, hb1⟩
      rw [HC.out]
      obtain ⟨hc1, hf1⟩ := bcell hb1
      have hbw1 : Below w.heap.size w w1 := Below.trans (b := _) (by repeat' (first | (with_reducible assumption) | (with_reducible exact Below.refl _ _) | (with_reducible refine bdn ?_ _) | (with_reducible refine Below.drew ?_) | (with_reducible refine Below.setCell ?_ ?_ _) | (with_reducible refine Below.alloc ?_ ?_ _) | go_size)) (hb1.mono (by go_size))
      have hz1_0 : w.heap.size < w1.heap.size := by have := hb1.size; simp at this; omega
      have c0 : w1.cell? ⟨w.heap.size, 0, none⟩ = some (.int .i64 (E : Int)) := by rw [hc1 _ _ (by go_size)]; simp [go_sem]
      have c1 : w1.cell? ⟨w.heap.size, 1, none⟩ = some (.int .i64 (F : Int)) := by rw [hc1 _ _ (by go_size)]; simp [go_sem]
      go_wp2
      go_region_held3 (fun w' => w'.cell? ⟨w.heap.size, 0, none⟩ = some (.int .i64 (E : Int)) ∧ w'.cell? ⟨w.heap.size, 1, none⟩ = some (.int .i64 (F : Int))) (first | exact ⟨m0, m1⟩ | exact ⟨k0, k1⟩ | go_keep)
        (first
         | (go_at_call 48; refine (ref_Top E F T hE2 HT.out _).mono ?_; rintro r w2 ⟨rfl, hb2⟩; have k0 := cell_keep hb2 c0; have k1 := cell_keep hb2 c1; have hbw2 := (Below.drew hbw1).trans (hb2.mono hbw1.size))
         | (go_at_call 59; (with_reducible refine (ref_known (E : Int) (F : Int) (T : Int) ng 0 0 rfl (by omega) (by omega) (by omega) _).mono ?_); rintro r w4 ⟨rfl, hb4⟩; have m0 := cell_keep hb4 k0; have m1 := cell_keep hb4 k1; have hbw4 := hbw2.trans (hb4.mono hbw2.size)))
      all_goals (
        go_wp2
        go_ret2
        exact ⟨rfl, hbw4⟩)
  · rw [known_no hc]
    have HC := Lib.hid (chk_no hc)
    clear hc
    go_enter Try.func37, Try.ntmps37
    go_wp2_with fail
    refine (ref_Check _ _ _).mono ?_
    rintro r w1 ⟨rfl, hb1⟩
    rw [HC.out]
    obtain ⟨hc1, hf1⟩ := bcell hb1
    have hbw1 : Below w.heap.size w w1 := Below.trans (b := _) (by repeat' (first | (with_reducible assumption) | (with_reducible exact Below.refl _ _) | (with_reducible refine bdn ?_ _) | (with_reducible refine Below.drew ?_) | (with_reducible refine Below.setCell ?_ ?_ _) | (with_reducible refine Below.alloc ?_ ?_ _) | go_size)) (hb1.mono (by go_size))
    have hz1_0 : w.heap.size < w1.heap.size := by have := hb1.size; simp at this; omega
    go_wp2
    go_ret2
    exact ⟨rfl, hbw1⟩
theorem ref_Greatest (e f : Int) (ng : Bool) (w : World) :
    Calls Try.prog 39 #[.agg #[.int .i64 e, .int .i64 f], .bool ng] w (Says w (.tuple #[.int .u64 (((knownS e f ng (2 ^ e.toNat - 1 - 1) (2 ^ f.toNat - 1)).1 : Nat) : Int), .int .i64 (knownS e f ng (2 ^ e.toNat - 1 - 1) (2 ^ f.toNat - 1)).2])) := by
  by_cases hc : chkF e f = 0
  · obtain ⟨E, F, rfl, rfl, hE1, hE2, hF1, hF2⟩ := chk_ok hc
    have HC := Lib.hid hc
    obtain ⟨T, hT⟩ := pow_m1 E
    have HT := Lib.hid hT
    have hEs : 2 ^ E ≤ 2048 := Nat.pow_le_pow_right (n := 2) (by decide) hE2
    have hE0 : 4 ≤ 2 ^ E := Nat.pow_le_pow_right (n := 2) (by decide) hE1
    have hTs : T ≤ 2047 := by omega
    have hT3 : 3 ≤ T := by omega
    · obtain ⟨P, hP⟩ : ∃ P, P = 2 ^ F := ⟨_, rfl⟩
      have hPs : P ≤ 4503599627370496 := by rw [hP]; exact Nat.pow_le_pow_right (n := 2) (by decide) hF2
      have hP0 : 0 < P := by rw [hP]; exact Nat.two_pow_pos F
      have HP := Lib.hid hP
      rw [Int.toNat_natCast, Int.toNat_natCast, show 2 ^ E - 1 - 1 = T - 1 from by omega, ← hP, ← known_eq]
      obtain ⟨U, hU⟩ : ∃ U, U = T - 1 := ⟨_, rfl⟩
      obtain ⟨V, hV⟩ : ∃ V, V = P - 1 := ⟨_, rfl⟩
      rw [← hU, ← hV]
      have hwp : IntKind.u64.wrap ((P : Int) - 1) = (V : Int) := by rw [IntKind.wrap_u64]; omega
      have hwt : (T : Int) - 1 = (U : Int) := by omega
      have hwt2 : IntKind.i64.wrap ((T : Int) - 1) = (U : Int) := by rw [IntKind.wrap_i64]; omega
      have hUs : U ≤ 2047 := by omega
      have hwU : IntKind.i64.wrap (U : Int) = (U : Int) := by rw [IntKind.wrap_i64]; omega
      have hwV : IntKind.u64.wrap (V : Int) = (V : Int) := by rw [IntKind.wrap_u64]; omega
      have hVs : V ≤ 4503599627370496 := by omega
      have hwp2 : (P : Int) - 1 = (V : Int) := by omega
      clear hc hT hEs hE0 hP hU hV
      go_enter Try.func39, Try.ntmps39
      go_wp2_with fail
      refine (ref_Check _ _ _).mono ?_
      rintro r w1 ⟨rfl, hb1⟩
      rw [HC.out]
      obtain ⟨hc1, hf1⟩ := bcell hb1
      have hbw1 : Below w.heap.size w w1 := Below.trans (b := _) (by repeat' (first | (with_reducible assumption) | (with_reducible exact Below.refl _ _) | (with_reducible refine bdn ?_ _) | (with_reducible refine Below.drew ?_) | (with_reducible refine Below.setCell ?_ ?_ _) | (with_reducible refine Below.alloc ?_ ?_ _) | go_size)) (hb1.mono (by go_size))
      have hz1_0 : w.heap.size < w1.heap.size := by have := hb1.size; simp at this; omega
      have c0 : w1.cell? ⟨w.heap.size, 0, none⟩ = some (.int .i64 (E : Int)) := by rw [hc1 _ _ (by go_size)]; simp [go_sem]
      have c1 : w1.cell? ⟨w.heap.size, 1, none⟩ = some (.int .i64 (F : Int)) := by rw [hc1 _ _ (by go_size)]; simp [go_sem]
      go_wp2
      go_region_held3 (fun w' => w'.cell? ⟨w.heap.size, 0, none⟩ = some (.int .i64 (E : Int)) ∧ w'.cell? ⟨w.heap.size, 1, none⟩ = some (.int .i64 (F : Int))) (first | exact ⟨m0, m1⟩ | exact ⟨k0, k1⟩ | go_keep)
        (first
         | (go_at_call 48; refine (ref_Top E F T hE2 HT.out _).mono ?_; rintro r w2 ⟨rfl, hb2⟩; have k0 := cell_keep hb2 c0; have k1 := cell_keep hb2 c1; have hbw2 := (Below.drew hbw1).trans (hb2.mono hbw1.size))
         | (go_at_call 49; refine (ref_Pow2 _ F P rfl (by omega) HP.out _).mono ?_; rintro r w3 ⟨rfl, rfl⟩)
         | (go_at_call 59; (with_reducible refine (ref_known (E : Int) (F : Int) (U : Int) ng (V : Int) V rfl (by omega) (by omega) (by omega) _).mono ?_); rintro r w4 ⟨rfl, hb4⟩; have m0 := cell_keep hb4 k0; have m1 := cell_keep hb4 k1; have hbw4 := hbw2.trans (hb4.mono hbw2.size)))
      all_goals (
        go_wp2
        go_ret2
        exact ⟨rfl, hbw4⟩)
  · rw [known_no hc]
    have HC := Lib.hid (chk_no hc)
    clear hc
    go_enter Try.func39, Try.ntmps39
    go_wp2_with fail
    refine (ref_Check _ _ _).mono ?_
    rintro r w1 ⟨rfl, hb1⟩
    rw [HC.out]
    obtain ⟨hc1, hf1⟩ := bcell hb1
    have hbw1 : Below w.heap.size w w1 := Below.trans (b := _) (by repeat' (first | (with_reducible assumption) | (with_reducible exact Below.refl _ _) | (with_reducible refine bdn ?_ _) | (with_reducible refine Below.drew ?_) | (with_reducible refine Below.setCell ?_ ?_ _) | (with_reducible refine Below.alloc ?_ ?_ _) | go_size)) (hb1.mono (by go_size))
    have hz1_0 : w.heap.size < w1.heap.size := by have := hb1.size; simp at this; omega
    go_wp2
    go_ret2
    exact ⟨rfl, hbw1⟩
theorem ref_None (e f : Int) (ng : Bool) (Yi : Int) (y : Nat) (hY : Yi = (y : Int)) (hy64 : y < 18446744073709551616) (w : World) :
    Calls Try.prog 38 #[.agg #[.int .i64 e, .int .i64 f], .bool ng, .int .u64 Yi] w (Says w (.tuple #[.int .u64 (((nanS e f ng y).1 : Nat) : Int), .int .i64 (nanS e f ng y).2])) := by
  subst hY
  by_cases hc : chkF e f = 0
  · obtain ⟨E, F, rfl, rfl, hE1, hE2, hF1, hF2⟩ := chk_ok hc
    have HC := Lib.hid hc
    obtain ⟨T, hT⟩ := pow_m1 E
    have HT := Lib.hid hT
    have hEs : 2 ^ E ≤ 2048 := Nat.pow_le_pow_right (n := 2) (by decide) hE2
    have hE0 : 4 ≤ 2 ^ E := Nat.pow_le_pow_right (n := 2) (by decide) hE1
    have hTs : T ≤ 2047 := by omega
    have hT3 : 3 ≤ T := by omega
    obtain ⟨H, hH⟩ : ∃ H, H = 2 ^ (F - 1) := ⟨_, rfl⟩
    have hHs : H ≤ 4503599627370496 := by rw [hH]; exact Nat.pow_le_pow_right (n := 2) (by decide) (show F - 1 ≤ 52 by omega)
    have HH := Lib.hid hH
    have hwF : IntKind.i64.wrap ((F : Int) - 1) = ((F - 1 : Nat) : Int) := by rw [IntKind.wrap_i64]; omega
    by_cases hbig : H ≤ y
    · rw [show nanS (E : Int) (F : Int) ng y = (0, 30) from by unfold nanS; rw [if_pos hc, if_pos (by simp only [Int.toNat_natCast]; omega)]]
      have hd : decide ((H : Int) ≤ (y : Int)) = true := by rw [decide_eq_true_iff]; omega
      clear hc hT hEs hE0 hH
      go_enter Try.func38, Try.ntmps38
      go_wp2_with fail
      refine (ref_Check _ _ _).mono ?_
      rintro r w1 ⟨rfl, hb1⟩
      rw [HC.out]
      obtain ⟨hc1, hf1⟩ := bcell hb1
      have hbw1 : Below w.heap.size w w1 := Below.trans (b := _) (by repeat' (first | (with_reducible assumption) | (with_reducible exact Below.refl _ _) | (with_reducible refine bdn ?_ _) | (with_reducible refine Below.drew ?_) | (with_reducible refine Below.setCell ?_ ?_ _) | (with_reducible refine Below.alloc ?_ ?_ _) | go_size)) (hb1.mono (by go_size))
      have hz1_0 : w.heap.size < w1.heap.size := by have := hb1.size; simp at this; omega
      have c0 : w1.cell? ⟨w.heap.size, 0, none⟩ = some (.int .i64 (E : Int)) := by rw [hc1 _ _ (by go_size)]; simp [go_sem]
      have c1 : w1.cell? ⟨w.heap.size, 1, none⟩ = some (.int .i64 (F : Int)) := by rw [hc1 _ _ (by go_size)]; simp [go_sem]
      go_wp2_with fail
      refine (ref_Pow2 _ (F - 1) H (by omega) (by omega) HH.out _).mono ?_
      rintro r w3 ⟨rfl, rfl⟩
      go_wp2
      go_ret2
      exact ⟨rfl, hbw1⟩
    · obtain ⟨Z, hZ⟩ : ∃ Z, Z = H + y := ⟨_, rfl⟩
      rw [show nanS (E : Int) (F : Int) ng y = joinS (E : Int) (F : Int) ng (T : Int) Z from by
        unfold nanS joinS
        rw [if_pos hc, if_pos hc, if_neg (by simp only [Int.toNat_natCast]; omega)]
        simp only [Int.toNat_natCast]
        rw [show 2 ^ E - 1 = T from by omega, ← hH, ← hZ]]
      have hd : decide ((H : Int) ≤ (y : Int)) = false := by rw [decide_eq_false_iff_not]; omega
      have hwz : IntKind.u64.wrap ((H : Int) + (y : Int)) = (Z : Int) := by rw [IntKind.wrap_u64]; omega
      have hwz2 : (H : Int) + (y : Int) = (Z : Int) := by omega
      have hZs : Z ≤ 9007199254740992 := by omega
      have hwZ : IntKind.u64.wrap (Z : Int) = (Z : Int) := by rw [IntKind.wrap_u64]; omega
      clear hc hT hEs hE0 hH hZ
      go_enter Try.func38, Try.ntmps38
      go_wp2_with fail
      refine (ref_Check _ _ _).mono ?_
      rintro r w1 ⟨rfl, hb1⟩
      rw [HC.out]
      obtain ⟨hc1, hf1⟩ := bcell hb1
      have hbw1 : Below w.heap.size w w1 := Below.trans (b := _) (by repeat' (first | (with_reducible assumption) | (with_reducible exact Below.refl _ _) | (with_reducible refine bdn ?_ _) | (with_reducible refine Below.drew ?_) | (with_reducible refine Below.setCell ?_ ?_ _) | (with_reducible refine Below.alloc ?_ ?_ _) | go_size)) (hb1.mono (by go_size))
      have hz1_0 : w.heap.size < w1.heap.size := by have := hb1.size; simp at this; omega
      have c0 : w1.cell? ⟨w.heap.size, 0, none⟩ = some (.int .i64 (E : Int)) := by rw [hc1 _ _ (by go_size)]; simp [go_sem]
      have c1 : w1.cell? ⟨w.heap.size, 1, none⟩ = some (.int .i64 (F : Int)) := by rw [hc1 _ _ (by go_size)]; simp [go_sem]
      go_wp2_with fail
      refine (ref_Pow2 _ (F - 1) H (by omega) (by omega) HH.out _).mono ?_
      rintro r w3 ⟨rfl, rfl⟩
      go_wp2
      go_region_held3 (fun w' => w'.cell? ⟨w.heap.size, 0, none⟩ = some (.int .i64 (E : Int)) ∧ w'.cell? ⟨w.heap.size, 1, none⟩ = some (.int .i64 (F : Int))) (first | exact ⟨m0, m1⟩ | exact ⟨k0, k1⟩ | go_keep)
        (first
         | (go_at_call 48; refine (ref_Top E F T hE2 HT.out _).mono ?_; rintro r w2 ⟨rfl, hb2⟩; have k0 := cell_keep hb2 c0; have k1 := cell_keep hb2 c1; have hbw2 := (Below.drew hbw1).trans (hb2.mono hbw1.size))
         | (go_at_call 49; refine (ref_Pow2 _ (F - 1) H (by first | omega | (rw [hwF])) (by omega) HH.out _).mono ?_; rintro r w3 ⟨rfl, rfl⟩)
         | (go_at_call 59; (with_reducible refine (ref_known (E : Int) (F : Int) (T : Int) ng (Z : Int) Z rfl (by omega) (by omega) (by omega) _).mono ?_); rintro r w4 ⟨rfl, hb4⟩; have m0 := cell_keep hb4 k0; have m1 := cell_keep hb4 k1; have hbw4 := hbw2.trans (hb4.mono hbw2.size)))
      all_goals (
        go_wp2
        go_ret2
        exact ⟨rfl, hbw4⟩)
  · rw [show nanS e f ng y = (0, 5) from by unfold nanS; rw [if_neg hc, chk_no hc]]
    have HC := Lib.hid (chk_no hc)
    clear hc
    go_enter Try.func38, Try.ntmps38
    go_wp2_with fail
    refine (ref_Check _ _ _).mono ?_
    rintro r w1 ⟨rfl, hb1⟩
    rw [HC.out]
    obtain ⟨hc1, hf1⟩ := bcell hb1
    have hbw1 : Below w.heap.size w w1 := Below.trans (b := _) (by repeat' (first | (with_reducible assumption) | (with_reducible exact Below.refl _ _) | (with_reducible refine bdn ?_ _) | (with_reducible refine Below.drew ?_) | (with_reducible refine Below.setCell ?_ ?_ _) | (with_reducible refine Below.alloc ?_ ?_ _) | go_size)) (hb1.mono (by go_size))
    have hz1_0 : w.heap.size < w1.heap.size := by have := hb1.size; simp at this; omega
    go_wp2
    go_ret2
    exact ⟨rfl, hbw1⟩
def rangeS (e f : Int) : Int × Int × Int := if chkF e f = 0 then (1 - ((2 ^ (e.toNat - 1) - 1 : Nat) : Int) - f, ((2 ^ (e.toNat - 1) - 1 : Nat) : Int), 0) else (0, 0, chkF e f)
theorem ref_Bias (E F M : Nat) (hE1 : 2 ≤ E) (hE2 : E ≤ 11) (hM : M + 1 = 2 ^ (E - 1)) (w : World) :
    Calls Try.prog 60 #[.agg #[.int .i64 (E : Int), .int .i64 (F : Int)]] w (Says w (.int .i64 (M : Int))) := by
  obtain ⟨P, hP⟩ : ∃ P, P = 2 ^ (E - 1) := ⟨_, rfl⟩
  have hP2 : P ≤ 2048 := by rw [hP]; exact Nat.pow_le_pow_right (n := 2) (by decide) (show E - 1 ≤ 11 by omega)
  have hPT : P = M + 1 := by omega
  have HP := Lib.hid hP
  have HT := Lib.hid hPT
  clear hP hM hPT
  go_enter Try.func60, Try.ntmps60
  go_wp2_with fail
  refine (ref_Pow2 _ (E - 1) P (by omega) (by omega) HP.out _).mono ?_
  rintro r w1 ⟨rfl, rfl⟩
  go_wp2
  go_ret
  exact ⟨by show Ending.returned (Value.int .i64 ((P : Int) - 1)) = _; rw [show (P : Int) - 1 = (M : Int) from by have := HT.out; omega], (Below.refl _ _).alloc (Nat.le_refl _) _⟩
theorem forms_Range (e f : Int) (w : World) :
    Calls Try.prog 42 #[.agg #[.int .i64 e, .int .i64 f]] w (Says w (.tuple #[.int .i64 (rangeS e f).1, .int .i64 (rangeS e f).2.1, .int .i64 (rangeS e f).2.2])) := by
  by_cases hc : chkF e f = 0
  · obtain ⟨E, F, rfl, rfl, hE1, hE2, hF1, hF2⟩ := chk_ok hc
    have HC := Lib.hid hc
    obtain ⟨M, hM⟩ := pow_m1 (E - 1)
    have hMs : 2 ^ (E - 1) ≤ 2048 := Nat.pow_le_pow_right (n := 2) (by decide) (show E - 1 ≤ 11 by omega)
    have hM2 : M ≤ 2047 := by omega
    rw [show rangeS (E : Int) (F : Int) = (1 - (M : Int) - (F : Int), (M : Int), 0) from by unfold rangeS; rw [if_pos hc, Int.toNat_natCast, show 2 ^ (E - 1) - 1 = M from by omega]]
    have HM := Lib.hid hM
    clear hc hM hMs
    go_enter Try.func42, Try.ntmps42
    go_wp2_with fail
    refine (forms_Check _ _ _).mono ?_
    rintro r w1 ⟨rfl, hb1⟩
    rw [HC.out]
    obtain ⟨hc1, hf1⟩ := bcell hb1
    have hbw1 : Below w.heap.size w w1 := Below.trans (b := _) (by repeat' (first | (with_reducible assumption) | (with_reducible exact Below.refl _ _) | (with_reducible refine bdn ?_ _) | (with_reducible refine Below.drew ?_) | (with_reducible refine Below.setCell ?_ ?_ _) | (with_reducible refine Below.alloc ?_ ?_ _) | go_size)) (hb1.mono (by go_size))
    have hz1_0 : w.heap.size < w1.heap.size := by have := hb1.size; simp at this; omega
    go_wp2_with fail
    refine (forms_mask _ (E - 1) M (by omega) (by omega) HM.out _).mono ?_
    rintro r w2 ⟨rfl, rfl⟩
    go_wp2
    go_ret3
    exact ⟨rfl, hbw1⟩
  · rw [show rangeS e f = (0, 0, 5) from by unfold rangeS; rw [if_neg hc, chk_no hc]]
    have HC := Lib.hid (chk_no hc)
    clear hc
    go_enter Try.func42, Try.ntmps42
    go_wp2_with fail
    refine (forms_Check _ _ _).mono ?_
    rintro r w1 ⟨rfl, hb1⟩
    rw [HC.out]
    obtain ⟨hc1, hf1⟩ := bcell hb1
    have hbw1 : Below w.heap.size w w1 := Below.trans (b := _) (by repeat' (first | (with_reducible assumption) | (with_reducible exact Below.refl _ _) | (with_reducible refine bdn ?_ _) | (with_reducible refine Below.drew ?_) | (with_reducible refine Below.setCell ?_ ?_ _) | (with_reducible refine Below.alloc ?_ ?_ _) | go_size)) (hb1.mono (by go_size))
    have hz1_0 : w.heap.size < w1.heap.size := by have := hb1.size; simp at this; omega
    go_wp2
    go_ret3
    exact ⟨rfl, hbw1⟩
theorem ref_Range (e f : Int) (w : World) :
    Calls Try.prog 43 #[.agg #[.int .i64 e, .int .i64 f]] w (Says w (.tuple #[.int .i64 (rangeS e f).1, .int .i64 (rangeS e f).2.1, .int .i64 (rangeS e f).2.2])) := by
  by_cases hc : chkF e f = 0
  · obtain ⟨E, F, rfl, rfl, hE1, hE2, hF1, hF2⟩ := chk_ok hc
    have HC := Lib.hid hc
    obtain ⟨M, hM⟩ := pow_m1 (E - 1)
    have hMs : 2 ^ (E - 1) ≤ 2048 := Nat.pow_le_pow_right (n := 2) (by decide) (show E - 1 ≤ 11 by omega)
    have hM2 : M ≤ 2047 := by omega
    rw [show rangeS (E : Int) (F : Int) = (1 - (M : Int) - (F : Int), (M : Int), 0) from by unfold rangeS; rw [if_pos hc, Int.toNat_natCast, show 2 ^ (E - 1) - 1 = M from by omega]]
    have HM := Lib.hid hM
    have hw1 : IntKind.i64.wrap (1 - (M : Int)) = 1 - (M : Int) := by rw [IntKind.wrap_i64]; omega
    have hw2 : IntKind.i64.wrap (1 - (M : Int) - (F : Int)) = 1 - (M : Int) - (F : Int) := by rw [IntKind.wrap_i64]; omega
    clear hc hM hMs
    go_enter Try.func43, Try.ntmps43
    go_wp2_with fail
    refine (ref_Check _ _ _).mono ?_
    rintro r w1 ⟨rfl, hb1⟩
    rw [HC.out]
    obtain ⟨hc1, hf1⟩ := bcell hb1
    have hbw1 : Below w.heap.size w w1 := Below.trans (b := _) (by repeat' (first | (with_reducible assumption) | (with_reducible exact Below.refl _ _) | (with_reducible refine bdn ?_ _) | (with_reducible refine Below.drew ?_) | (with_reducible refine Below.setCell ?_ ?_ _) | (with_reducible refine Below.alloc ?_ ?_ _) | go_size)) (hb1.mono (by go_size))
    have hz1_0 : w.heap.size < w1.heap.size := by have := hb1.size; simp at this; omega
    have c0 : w1.cell? ⟨w.heap.size, 0, none⟩ = some (.int .i64 (E : Int)) := by rw [hc1 _ _ (by go_size)]; simp [go_sem]
    have c1 : w1.cell? ⟨w.heap.size, 1, none⟩ = some (.int .i64 (F : Int)) := by rw [hc1 _ _ (by go_size)]; simp [go_sem]
    go_wp2
    go_region_held3 (fun w' => w'.cell? ⟨w.heap.size, 0, none⟩ = some (.int .i64 (E : Int)) ∧ w'.cell? ⟨w.heap.size, 1, none⟩ = some (.int .i64 (F : Int))) (first | exact ⟨m0, m1⟩ | exact ⟨k0, k1⟩ | go_keep)
      (first
       | (go_at_call 60; have hq := k0; refine (ref_Bias E F M hE1 hE2 HM.out _).mono ?_; rintro r w3 ⟨rfl, hb3⟩; have m0 := cell_keep hb3 k0; have m1 := cell_keep hb3 k1; have hbw3 := hbw2.trans (hb3.mono hbw2.size))
       | (go_at_call 60; refine (ref_Bias E F M hE1 hE2 HM.out _).mono ?_; rintro r w2 ⟨rfl, hb2⟩; have k0 := cell_keep hb2 c0; have k1 := cell_keep hb2 c1; have hbw2 := (Below.drew hbw1).trans (hb2.mono hbw1.size)))
    all_goals (
      go_wp2
      go_ret3
      exact ⟨rfl, hbw3⟩)
  · rw [show rangeS e f = (0, 0, 5) from by unfold rangeS; rw [if_neg hc, chk_no hc]]
    have HC := Lib.hid (chk_no hc)
    clear hc
    go_enter Try.func43, Try.ntmps43
    go_wp2_with fail
    refine (ref_Check _ _ _).mono ?_
    rintro r w1 ⟨rfl, hb1⟩
    rw [HC.out]
    obtain ⟨hc1, hf1⟩ := bcell hb1
    have hbw1 : Below w.heap.size w w1 := Below.trans (b := _) (by repeat' (first | (with_reducible assumption) | (with_reducible exact Below.refl _ _) | (with_reducible refine bdn ?_ _) | (with_reducible refine Below.drew ?_) | (with_reducible refine Below.setCell ?_ ?_ _) | (with_reducible refine Below.alloc ?_ ?_ _) | go_size)) (hb1.mono (by go_size))
    have hz1_0 : w.heap.size < w1.heap.size := by have := hb1.size; simp at this; omega
    go_wp2
    go_ret3
    exact ⟨rfl, hbw1⟩
theorem forms_Brain (w : World) : Calls Try.prog 44 #[] w (Says w (.agg #[.int .i64 8, .int .i64 7])) := by
  go_enter Try.func44, Try.ntmps44
  go_wp2
  go_returns
  exact ⟨rfl, (Below.refl _ _).alloc (Nat.le_refl _) _⟩
theorem forms_Single (w : World) : Calls Try.prog 31 #[] w (Says w (.agg #[.int .i64 8, .int .i64 23])) := by
  go_enter Try.func31, Try.ntmps31
  go_wp2
  go_returns
  exact ⟨rfl, (Below.refl _ _).alloc (Nat.le_refl _) _⟩
theorem forms_Double (w : World) : Calls Try.prog 29 #[] w (Says w (.agg #[.int .i64 11, .int .i64 52])) := by
  go_enter Try.func29, Try.ntmps29
  go_wp2
  go_returns
  exact ⟨rfl, (Below.refl _ _).alloc (Nat.le_refl _) _⟩
end Go.Proofs.Ytmneicbagcimdaa
