/- Package sure at any float of any form. -/
import Derived.Test.YtenekbfnlbipiaaDoorSuZ
import Derived.Laws.Cover2
namespace Go.Proofs.YtenekbfnlbipiaaDoor
open Go.RowKit
set_option linter.unusedVariables false
set_option linter.unusedSimpArgs false
set_option maxHeartbeats 4000000
set_option maxRecDepth 100000
/-- A float that is finite and not nought: m times 2 to the power of q; whether the one below is half as far. -/
def mF (F X Y : Nat) : Nat := if X = 0 then Y else Y + 2 ^ F
def qF (E F X : Nat) : Int := 2 - ((2 ^ (E - 1) : Nat) : Int) - (F : Int) + (if X = 0 then 0 else (X : Int) - 1)
def stF (X Y : Nat) : Bool := decide (1 < X) && decide (Y = 0)
theorem fit_in {E F b : Nat} (hE1 : 2 ≤ E) (hE2 : E ≤ 11) (hF1 : 1 ≤ F) (hF2 : F ≤ 52) (hb : b < 2 ^ (1 + E + F)) : Fo.fitS (E : Int) (F : Int) b = 0 := by
  have hc : Fo.chkF (E : Int) (F : Int) = 0 := by unfold Fo.chkF; rw [if_neg (by omega)]
  unfold Fo.fitS
  rw [if_pos hc]
  unfold Fo.fitF
  rw [Int.toNat_natCast, Int.toNat_natCast, if_neg (by omega)]
theorem or_top (Y F : Nat) (hF : F ≤ 52) (hY : Y < 2 ^ F) : bits BinOp.or IntKind.u64 (Y : Int) ((2 ^ F : Nat) : Int) = ((Y + 2 ^ F : Nat) : Int) := by
  have h52 := Nat.pow_le_pow_right (n := 2) (by decide) hF
  rw [u64_or_nat _ _ (by omega) (by omega)]
  have := Nat.two_pow_add_eq_or_of_lt hY 1
  rw [Nat.mul_one] at this
  rw [Nat.or_comm, ← this, Nat.add_comm]
theorem open_num {E F b X Y : Nat} {ng : Bool} (hE1 : 2 ≤ E) (hE2 : E ≤ 11) (hF1 : 1 ≤ F) (hF2 : F ≤ 52) (hb : b < 2 ^ (1 + E + F)) (hs : Fo.splitF E F b = (ng, X, Y)) (hX : X + 1 ≠ 2 ^ E) (hz : ¬ (X = 0 ∧ Y = 0)) (w : World) :
    Calls Tryd.prog 33 #[.agg #[.int .i64 (E : Int), .int .i64 (F : Int)], .int .u64 (b : Int)] w (Says w (.tuple #[.agg #[.bool ng, .int .u64 ((mF F X Y : Nat) : Int), .int .i64 (qF E F X), .bool (stF X Y)], .bool true, .agg #[.bool false, .string ⟨#[]⟩, .int .i64 0], .int .i64 0])) := by
  have h64 : 2 ^ (1 + E + F) ≤ 2 ^ 64 := Nat.pow_le_pow_right (by decide) (by omega)
  have hfit := fit_in hE1 hE2 hF1 hF2 hb
  have hsp : Fo.splitS (E : Int) (F : Int) b = ((ng, X, Y), 0) := by
    unfold Fo.splitS; rw [if_pos hfit, Int.toNat_natCast, Int.toNat_natCast, hs]
  have hcl : Fo.classS (E : Int) (F : Int) b = (Fo.classF E X Y, 0) := by
    unfold Fo.classS; rw [if_pos hfit, hsp, Int.toNat_natCast]
  have hC := fun W => Fo.forms_Class (E : Int) (F : Int) b b rfl (by omega) W
  have hS := fun W => Fo.forms_Split (E : Int) (F : Int) b b rfl (by omega) W
  rw [hcl] at hC
  rw [hsp] at hS
  unfold Fo.splitF at hs
  have hXY : X = b / 2 ^ F % 2 ^ E ∧ Y = b % 2 ^ F := by
    simp only [Prod.mk.injEq] at hs
    exact ⟨hs.2.1.symm, hs.2.2.symm⟩
  have hXlt : X < 2 ^ E := by rw [hXY.1]; exact Nat.mod_lt _ (Nat.two_pow_pos _)
  have hYlt : Y < 2 ^ F := by rw [hXY.2]; exact Nat.mod_lt _ (Nat.two_pow_pos _)
  have hE10 := Nat.pow_le_pow_right (n := 2) (by decide) (show E - 1 ≤ 10 by omega)
  have hE11 := Nat.pow_le_pow_right (n := 2) (by decide) hE2
  have hF52 := Nat.pow_le_pow_right (n := 2) (by decide) hF2
  have hi64 : ∀ p : Nat, p ≤ 2 ^ 10 → IntKind.i64.wrap (p : Int) = (p : Int) := by intro p hp; rw [IntKind.wrap_i64]; omega
  have hu64 : ∀ p : Nat, p ≤ 2 ^ 52 → IntKind.u64.wrap (p : Int) = (p : Int) := by intro p hp; rw [IntKind.wrap_u64]; omega
  have hP : IntKind.i64.wrap (2 ^ (E - 1)) = ((2 ^ (E - 1) : Nat) : Int) := by
    have h3 : ((2 : Int) ^ (E - 1)) = ((2 ^ (E - 1) : Nat) : Int) := by push_cast; rfl
    rw [h3]; exact hi64 _ hE10
  have hQ : IntKind.u64.wrap (2 ^ F) = ((2 ^ F : Nat) : Int) := by
    have h3 : ((2 : Int) ^ F) = ((2 ^ F : Nat) : Int) := by push_cast; rfl
    rw [h3]; exact hu64 _ hF52
  unfold Fo.classF at hC
  by_cases h0 : X = 0
  · subst h0
    have hY : ¬ Y = 0 := fun h => hz ⟨rfl, h⟩
    rw [if_pos rfl, if_neg hY] at hC
    have := open_small (E : Int) (F : Int) b ng 0 Y (by omega) (E - 1) (2 ^ (E - 1)) (by omega) hP (by omega) (by omega) hC hS w
    have e1 : mF F 0 Y = Y := rfl
    have e2 : qF E F 0 = 2 - ((2 ^ (E - 1) : Nat) : Int) - (F : Int) := by unfold qF; rw [if_pos rfl]; omega
    have e3 : stF 0 Y = false := rfl
    rw [e1, e2, e3]
    exact this
  · rw [if_neg h0, if_neg hX] at hC
    have e1 : mF F X Y = Y + 2 ^ F := by unfold mF; rw [if_neg h0]
    have e2 : qF E F X = 2 - ((2 ^ (E - 1) : Nat) : Int) - (F : Int) + ((X : Int) - 1) := by unfold qF; rw [if_neg h0]
    rw [e1, e2]
    have hor := or_top Y F hF2 hYlt
    by_cases hY : Y = 0
    · by_cases hX1 : 1 < X
      · have e3 : stF X Y = true := by unfold stF; rw [decide_eq_true hX1, decide_eq_true hY]; rfl
        rw [e3]
        exact open_norma (E : Int) F b ng X Y (by omega) (E - 1) (2 ^ (E - 1)) (by omega) hP (by omega) (by omega) (2 ^ F) (Y + 2 ^ F) (by omega) hQ hor (by simpa using hY) (by simp; omega) (by simpa using hX1) hC hS w
      · have e3 : stF X Y = false := by unfold stF; rw [decide_eq_false hX1]; rfl
        rw [e3]
        exact open_normb (E : Int) F b ng X Y (by omega) (E - 1) (2 ^ (E - 1)) (by omega) hP (by omega) (by omega) (2 ^ F) (Y + 2 ^ F) (by omega) hQ hor (by simpa using hY) (by simp; omega) (by simpa using hX1) hC hS w
    · have e3 : stF X Y = false := by unfold stF; rw [decide_eq_false hY, Bool.and_false]
      rw [e3]
      exact open_normc (E : Int) F b ng X Y (by omega) (E - 1) (2 ^ (E - 1)) (by omega) hP (by omega) (by omega) (2 ^ F) (Y + 2 ^ F) (by omega) hQ hor (by simpa using hY) hC hS w
/-- Bounds of such a float. -/
theorem num_bd {E F b X Y : Nat} {ng : Bool} (hE1 : 2 ≤ E) (hE2 : E ≤ 11) (hF1 : 1 ≤ F) (hF2 : F ≤ 52) (hs : Fo.splitF E F b = (ng, X, Y)) (hX : X + 1 ≠ 2 ^ E) (hz : ¬ (X = 0 ∧ Y = 0)) :
    mF F X Y ≠ 0 ∧ mF F X Y < 9007199254740992 ∧ -1074 ≤ qF E F X ∧ qF E F X ≤ 1022 := by
  unfold Fo.splitF at hs
  have hXY : X = b / 2 ^ F % 2 ^ E ∧ Y = b % 2 ^ F := by
    simp only [Prod.mk.injEq] at hs
    exact ⟨hs.2.1.symm, hs.2.2.symm⟩
  have hXlt : X < 2 ^ E := by rw [hXY.1]; exact Nat.mod_lt _ (Nat.two_pow_pos _)
  have hYlt : Y < 2 ^ F := by rw [hXY.2]; exact Nat.mod_lt _ (Nat.two_pow_pos _)
  have hE10 := Nat.pow_le_pow_right (n := 2) (by decide) (show E - 1 ≤ 10 by omega)
  have hEE : 2 ^ E = 2 * 2 ^ (E - 1) := by rw [← Nat.pow_succ']; congr 1; omega
  have hF52 := Nat.pow_le_pow_right (n := 2) (by decide) hF2
  have hFp := Nat.two_pow_pos F
  refine ⟨?_, ?_, ?_, ?_⟩
  · unfold mF; split
    · rename_i h; exact fun hy => hz ⟨h, hy⟩
    · omega
  · unfold mF; split <;> omega
  · unfold qF; split <;> omega
  · unfold qF; split <;> omega
theorem dig_num {E F b X Y : Nat} {ng : Bool} (hE1 : 2 ≤ E) (hE2 : E ≤ 11) (hF1 : 1 ≤ F) (hF2 : F ≤ 52) (hb : b < 2 ^ (1 + E + F)) (hs : Fo.splitF E F b = (ng, X, Y)) (hX : X + 1 ≠ 2 ^ E) (hz : ¬ (X = 0 ∧ Y = 0)) {P : Int} (hP : IsFirst (mF F X Y) (qF E F X) P) (hP1 : -350 ≤ P) (hP2 : P < 350) (hq : qF E F X ≤ 971) (w : World) (hT : Tab5 w) (hU : TabU w) :
    Calls Tryd.prog 16 #[.agg #[.int .i64 (E : Int), .int .i64 (F : Int)], .int .u64 (b : Int)] w (Says w (digV ng (digS (mF F X Y) (qF E F X) P (decide (mF F X Y % 2 = 0)) (if stF X Y then 4 * mF F X Y - 1 else 4 * mF F X Y - 2) 17 1))) := by
  have hO := fun W => open_num hE1 hE2 hF1 hF2 hb hs hX hz W
  obtain ⟨b1, b2, b3, b4⟩ := num_bd hE1 hE2 hF1 hF2 hs hX hz
  cases hst : stF X Y with
  | true => rw [hst] at hO; exact sure_digits_a _ _ b ng _ _ P hO b1 b2 b3 hq hP hP1 hP2 w hT hU
  | false => rw [hst] at hO; exact sure_digits_b _ _ b ng _ _ P hO b1 b2 b3 hq hP hP1 hP2 w hT hU
def someV (ng : Bool) (P : Int) (n : Nat) : Option Nat → Value
  | none => .tuple #[.agg #[.bool false, .string ⟨#[]⟩, .int .i64 0], .bool false, .int .i64 0]
  | some x => .tuple #[.agg #[.bool ng, .string ⟨(mkD (Lib.decDigits x) (P + 1 - n)).1.toArray⟩, .int .i64 (mkD (Lib.decDigits x) (P + 1 - n)).2], .bool true, .int .i64 0]
theorem some_num {E F b X Y : Nat} {ng : Bool} (hE1 : 2 ≤ E) (hE2 : E ≤ 11) (hF1 : 1 ≤ F) (hF2 : F ≤ 52) (hb : b < 2 ^ (1 + E + F)) (hs : Fo.splitF E F b = (ng, X, Y)) (hX : X + 1 ≠ 2 ^ E) (hz : ¬ (X = 0 ∧ Y = 0)) {P : Int} (hP : IsFirst (mF F X Y) (qF E F X) P) (hP1 : -350 ≤ P) (hP2 : P < 350) (hq : qF E F X ≤ 971) {n : Nat} (hn1 : 1 ≤ n) (hn2 : n ≤ 17) (w : World) (hT : Tab5 w) (hU : TabU w) :
    Calls Tryd.prog 19 #[.agg #[.int .i64 (E : Int), .int .i64 (F : Int)], .int .u64 (b : Int), .int .i64 (n : Int)] w (Says w (someV ng P n (someS (mF F X Y) (qF E F X) P n))) := by
  have hO := fun W => open_num hE1 hE2 hF1 hF2 hb hs hX hz W
  obtain ⟨b1, b2, b3, b4⟩ := num_bd hE1 hE2 hF1 hF2 hs hX hz
  have := sure_some _ _ b ng _ _ _ P n hO b1 b2 b3 hq hP hP1 hP2 hn1 hn2 w hT hU
  unfold someV
  exact this
/-- Not a finite number, or nought. -/
theorem open_bad {e f : Int} {b : Nat} (hb : b < 18446744073709551616) (h : Fo.fitS e f b ≠ 0) (w : World) :
    Calls Tryd.prog 33 #[.agg #[.int .i64 e, .int .i64 f], .int .u64 (b : Int)] w (Says w (.tuple #[.agg #[.bool false, .int .u64 0, .int .i64 0, .bool false], .bool false, .agg #[.bool false, .string ⟨#[]⟩, .int .i64 0], .int .i64 (Fo.fitS e f b)])) := by
  have hC := fun W => Fo.forms_Class e f b b rfl hb W
  have hcl : Fo.classS e f b = (0, Fo.fitS e f b) := by unfold Fo.classS; rw [if_neg h]
  rw [hcl] at hC
  exact open_err e f b 0 _ (by simpa using h) hC w
theorem open_far {E F b X Y : Nat} {ng : Bool} (hE1 : 2 ≤ E) (hE2 : E ≤ 11) (hF1 : 1 ≤ F) (hF2 : F ≤ 52) (hb : b < 2 ^ (1 + E + F)) (hs : Fo.splitF E F b = (ng, X, Y)) (hX : X + 1 = 2 ^ E) (w : World) :
    Calls Tryd.prog 33 #[.agg #[.int .i64 (E : Int), .int .i64 (F : Int)], .int .u64 (b : Int)] w (Says w (.tuple #[.agg #[.bool false, .int .u64 0, .int .i64 0, .bool false], .bool false, .agg #[.bool false, .string ⟨#[]⟩, .int .i64 0], .int .i64 8])) := by
  have h64 : 2 ^ (1 + E + F) ≤ 2 ^ 64 := Nat.pow_le_pow_right (by decide) (by omega)
  have hfit := fit_in hE1 hE2 hF1 hF2 hb
  have hsp : Fo.splitS (E : Int) (F : Int) b = ((ng, X, Y), 0) := by
    unfold Fo.splitS; rw [if_pos hfit, Int.toNat_natCast, Int.toNat_natCast, hs]
  have hcl : Fo.classS (E : Int) (F : Int) b = (Fo.classF E X Y, 0) := by
    unfold Fo.classS; rw [if_pos hfit, hsp, Int.toNat_natCast]
  have hC := fun W => Fo.forms_Class (E : Int) (F : Int) b b rfl (by omega) W
  have hS := fun W => Fo.forms_Split (E : Int) (F : Int) b b rfl (by omega) W
  rw [hcl] at hC
  rw [hsp] at hS
  have h1 : 1 < 2 ^ E := Nat.one_lt_two_pow (by omega)
  unfold Fo.classF at hC
  rw [if_neg (by omega), if_pos hX] at hC
  by_cases hY : Y = 0
  · rw [if_pos hY] at hC
    exact open_inf4 _ _ b ng X Y hC hS w
  · rw [if_neg hY] at hC
    exact open_inf5 _ _ b ng X Y hC hS w
theorem open_nought {E F b : Nat} {ng : Bool} (hE1 : 2 ≤ E) (hE2 : E ≤ 11) (hF1 : 1 ≤ F) (hF2 : F ≤ 52) (hb : b < 2 ^ (1 + E + F)) (hs : Fo.splitF E F b = (ng, 0, 0)) (w : World) :
    Calls Tryd.prog 33 #[.agg #[.int .i64 (E : Int), .int .i64 (F : Int)], .int .u64 (b : Int)] w (Says w (.tuple #[.agg #[.bool false, .int .u64 0, .int .i64 0, .bool false], .bool false, .agg #[.bool ng, .string ⟨#[]⟩, .int .i64 0], .int .i64 0])) := by
  have h64 : 2 ^ (1 + E + F) ≤ 2 ^ 64 := Nat.pow_le_pow_right (by decide) (by omega)
  have hfit := fit_in hE1 hE2 hF1 hF2 hb
  have hsp : Fo.splitS (E : Int) (F : Int) b = ((ng, 0, 0), 0) := by
    unfold Fo.splitS; rw [if_pos hfit, Int.toNat_natCast, Int.toNat_natCast, hs]
  have hcl : Fo.classS (E : Int) (F : Int) b = (Fo.classF E 0 0, 0) := by
    unfold Fo.classS; rw [if_pos hfit, hsp, Int.toNat_natCast]
  have hC := fun W => Fo.forms_Class (E : Int) (F : Int) b b rfl (by omega) W
  have hS := fun W => Fo.forms_Split (E : Int) (F : Int) b b rfl (by omega) W
  rw [hcl] at hC
  rw [hsp] at hS
  exact open_zero _ _ b ng 0 0 hC hS w
end Go.Proofs.YtenekbfnlbipiaaDoor
namespace Go.Proofs.YtenekbfnlbipiaaDoor
open Go.RowKit
set_option linter.unusedVariables false
set_option linter.unusedSimpArgs false
set_option maxHeartbeats 4000000
set_option maxRecDepth 100000
theorem sd1_P : IsFirst (mF 52 1019 2702159776422298) (qF 11 52 1019) (-1) := by unfold IsFirst; decide +kernel
theorem sd1_m : mkD (Lib.decDigits 1) (-1) = ([49], -1) := by decide +kernel
theorem sd1_d : digS (mF 52 1019 2702159776422298) (qF 11 52 1019) (-1) (decide (mF 52 1019 2702159776422298 % 2 = 0)) (if stF 1019 2702159776422298 then 4 * mF 52 1019 2702159776422298 - 1 else 4 * mF 52 1019 2702159776422298 - 2) 17 1 = some (1, -1) := by decide +kernel
theorem sd1 (w : World) (hT : Tab5 w) (hU : TabU w) : Calls Tryd.prog 16 #[.agg #[.int .i64 11, .int .i64 52], .int .u64 4591870180066957722] w (Says w (.tuple #[.agg #[.bool false, .string ⟨#[49]⟩, .int .i64 (-1)], .bool true, .int .i64 0])) := by
  have h := dig_num (E := 11) (F := 52) (b := 4591870180066957722) (X := 1019) (Y := 2702159776422298) (ng := false) (by decide) (by decide) (by decide) (by decide) (by decide +kernel) (by decide +kernel) (by decide +kernel) (by decide +kernel) (P := -1) sd1_P (by decide) (by decide) (by decide +kernel) w hT hU
  rw [sd1_d] at h
  unfold digV at h
  simp only at h
  rw [sd1_m] at h
  exact h
theorem sd2_P : IsFirst (mF 10 30 1023) (qF 5 10 30) (4) := by unfold IsFirst; decide +kernel
theorem sd2_m : mkD (Lib.decDigits 655) (2) = ([54, 53, 53], 2) := by decide +kernel
theorem sd2_d : digS (mF 10 30 1023) (qF 5 10 30) (4) (decide (mF 10 30 1023 % 2 = 0)) (if stF 30 1023 then 4 * mF 10 30 1023 - 1 else 4 * mF 10 30 1023 - 2) 17 1 = some (655, 2) := by decide +kernel
theorem sd2 (w : World) (hT : Tab5 w) (hU : TabU w) : Calls Tryd.prog 16 #[.agg #[.int .i64 5, .int .i64 10], .int .u64 64511] w (Says w (.tuple #[.agg #[.bool true, .string ⟨#[54, 53, 53]⟩, .int .i64 (2)], .bool true, .int .i64 0])) := by
  have h := dig_num (E := 5) (F := 10) (b := 64511) (X := 30) (Y := 1023) (ng := true) (by decide) (by decide) (by decide) (by decide) (by decide +kernel) (by decide +kernel) (by decide +kernel) (by decide +kernel) (P := 4) sd2_P (by decide) (by decide) (by decide +kernel) w hT hU
  rw [sd2_d] at h
  unfold digV at h
  simp only at h
  rw [sd2_m] at h
  exact h
theorem ss3_P : IsFirst (mF 52 1019 2702159776422298) (qF 11 52 1019) (-1) := by unfold IsFirst; decide +kernel
theorem ss3_m : mkD (Lib.decDigits 10000000000000001) (-17) = ([49, 48, 48, 48, 48, 48, 48, 48, 48, 48, 48, 48, 48, 48, 48, 48, 49], -17) := by decide +kernel
theorem ss3_d : someS (mF 52 1019 2702159776422298) (qF 11 52 1019) (-1) 17 = some 10000000000000001 := by decide +kernel
theorem ss3 (w : World) (hT : Tab5 w) (hU : TabU w) : Calls Tryd.prog 19 #[.agg #[.int .i64 11, .int .i64 52], .int .u64 4591870180066957722, .int .i64 17] w (Says w (.tuple #[.agg #[.bool false, .string ⟨#[49, 48, 48, 48, 48, 48, 48, 48, 48, 48, 48, 48, 48, 48, 48, 48, 49]⟩, .int .i64 (-17)], .bool true, .int .i64 0])) := by
  have h := some_num (E := 11) (F := 52) (b := 4591870180066957722) (X := 1019) (Y := 2702159776422298) (ng := false) (by decide) (by decide) (by decide) (by decide) (by decide +kernel) (by decide +kernel) (by decide +kernel) (by decide +kernel) (P := -1) ss3_P (by decide) (by decide) (by decide +kernel) (n := 17) (by decide) (by decide) w hT hU
  rw [ss3_d] at h
  unfold someV at h
  simp only at h
  rw [show (-1 : Int) + 1 - ((17 : Nat) : Int) = -17 from rfl, ss3_m] at h
  exact h
theorem ss4_P : IsFirst (mF 52 1026 844424930131968) (qF 11 52 1026) (0) := by unfold IsFirst; decide +kernel
theorem ss4_m : mkD (Lib.decDigits 10) (0) = ([49], 1) := by decide +kernel
theorem ss4_d : someS (mF 52 1026 844424930131968) (qF 11 52 1026) (0) 1 = some 10 := by decide +kernel
theorem ss4 (w : World) (hT : Tab5 w) (hU : TabU w) : Calls Tryd.prog 19 #[.agg #[.int .i64 11, .int .i64 52], .int .u64 4621537642612260864, .int .i64 1] w (Says w (.tuple #[.agg #[.bool false, .string ⟨#[49]⟩, .int .i64 (1)], .bool true, .int .i64 0])) := by
  have h := some_num (E := 11) (F := 52) (b := 4621537642612260864) (X := 1026) (Y := 844424930131968) (ng := false) (by decide) (by decide) (by decide) (by decide) (by decide +kernel) (by decide +kernel) (by decide +kernel) (by decide +kernel) (P := 0) ss4_P (by decide) (by decide) (by decide +kernel) (n := 1) (by decide) (by decide) w hT hU
  rw [ss4_d] at h
  unfold someV at h
  simp only at h
  rw [show (0 : Int) + 1 - ((1 : Nat) : Int) = 0 from rfl, ss4_m] at h
  exact h
theorem sd5_P : IsFirst (mF 52 0 1) (qF 11 52 0) (-324) := by unfold IsFirst; decide +kernel
theorem sd5_m : mkD (Lib.decDigits 5) (-324) = ([53], -324) := by decide +kernel
theorem sd5_d : digS (mF 52 0 1) (qF 11 52 0) (-324) (decide (mF 52 0 1 % 2 = 0)) (if stF 0 1 then 4 * mF 52 0 1 - 1 else 4 * mF 52 0 1 - 2) 17 1 = some (5, -324) := by decide +kernel
theorem sd5 (w : World) (hT : Tab5 w) (hU : TabU w) : Calls Tryd.prog 16 #[.agg #[.int .i64 11, .int .i64 52], .int .u64 1] w (Says w (.tuple #[.agg #[.bool false, .string ⟨#[53]⟩, .int .i64 (-324)], .bool true, .int .i64 0])) := by
  have h := dig_num (E := 11) (F := 52) (b := 1) (X := 0) (Y := 1) (ng := false) (by decide) (by decide) (by decide) (by decide) (by decide +kernel) (by decide +kernel) (by decide +kernel) (by decide +kernel) (P := -324) sd5_P (by decide) (by decide) (by decide +kernel) w hT hU
  rw [sd5_d] at h
  unfold digV at h
  simp only at h
  rw [sd5_m] at h
  exact h
theorem sd7_P : IsFirst (mF 52 1076 0) (qF 11 52 1076) (15) := by unfold IsFirst; decide +kernel
theorem sd7_m : mkD (Lib.decDigits 9007199254740992) (0) = ([57, 48, 48, 55, 49, 57, 57, 50, 53, 52, 55, 52, 48, 57, 57, 50], 0) := by decide +kernel
theorem sd7_d : digS (mF 52 1076 0) (qF 11 52 1076) (15) (decide (mF 52 1076 0 % 2 = 0)) (if stF 1076 0 then 4 * mF 52 1076 0 - 1 else 4 * mF 52 1076 0 - 2) 17 1 = some (9007199254740992, 0) := by decide +kernel
theorem sd7 (w : World) (hT : Tab5 w) (hU : TabU w) : Calls Tryd.prog 16 #[.agg #[.int .i64 11, .int .i64 52], .int .u64 4845873199050653696] w (Says w (.tuple #[.agg #[.bool false, .string ⟨#[57, 48, 48, 55, 49, 57, 57, 50, 53, 52, 55, 52, 48, 57, 57, 50]⟩, .int .i64 (0)], .bool true, .int .i64 0])) := by
  have h := dig_num (E := 11) (F := 52) (b := 4845873199050653696) (X := 1076) (Y := 0) (ng := false) (by decide) (by decide) (by decide) (by decide) (by decide +kernel) (by decide +kernel) (by decide +kernel) (by decide +kernel) (P := 15) sd7_P (by decide) (by decide) (by decide +kernel) w hT hU
  rw [sd7_d] at h
  unfold digV at h
  simp only at h
  rw [sd7_m] at h
  exact h
theorem sd6 (w : World) : Calls Tryd.prog 16 #[.agg #[.int .i64 11, .int .i64 52], .int .u64 9223372036854775808] w (Says w (.tuple #[.agg #[.bool true, .string ⟨#[]⟩, .int .i64 (0)], .bool true, .int .i64 0])) :=
  digits_no 11 52 9223372036854775808 false false 0 0 true 0 (fun W => open_nought (E := 11) (F := 52) (b := 9223372036854775808) (ng := true) (by decide) (by decide) (by decide) (by decide) (by decide +kernel) (by decide +kernel) W) w
theorem so8 (w : World) : Calls Tryd.prog 33 #[.agg #[.int .i64 5, .int .i64 10], .int .u64 31744] w (Says w (.tuple #[.agg #[.bool false, .int .u64 0, .int .i64 0, .bool false], .bool false, .agg #[.bool false, .string ⟨#[]⟩, .int .i64 0], .int .i64 8])) :=
  open_far (E := 5) (F := 10) (b := 31744) (X := 31) (Y := 0) (ng := false) (by decide) (by decide) (by decide) (by decide) (by decide +kernel) (by decide +kernel) (by decide) w
theorem sd8 (w : World) : Calls Tryd.prog 16 #[.agg #[.int .i64 5, .int .i64 10], .int .u64 31744] w (Says w (.tuple #[.agg #[.bool false, .string ⟨#[]⟩, .int .i64 (0)], .bool false, .int .i64 8])) :=
  digits_no 5 10 31744 false false 0 0 false 8 so8 w
theorem sd9 (w : World) : Calls Tryd.prog 16 #[.agg #[.int .i64 5, .int .i64 10], .int .u64 65536] w (Says w (.tuple #[.agg #[.bool false, .string ⟨#[]⟩, .int .i64 (0)], .bool false, .int .i64 6])) :=
  digits_no 5 10 65536 false false 0 0 false 6 (fun W => open_bad (e := 5) (f := 10) (b := 65536) (by decide) (by decide +kernel) W) w
theorem sd10 (w : World) : Calls Tryd.prog 16 #[.agg #[.int .i64 0, .int .i64 0], .int .u64 0] w (Says w (.tuple #[.agg #[.bool false, .string ⟨#[]⟩, .int .i64 (0)], .bool false, .int .i64 5])) :=
  digits_no 0 0 0 false false 0 0 false 5 (fun W => open_bad (e := 0) (f := 0) (b := 0) (by decide) (by decide +kernel) W) w
theorem ss11 (w : World) : Calls Tryd.prog 19 #[.agg #[.int .i64 5, .int .i64 10], .int .u64 31744, .int .i64 0] w (Says w (.tuple #[.agg #[.bool false, .string ⟨#[]⟩, .int .i64 (0)], .bool false, .int .i64 8])) :=
  some_err 5 10 31744 false false 0 0 false 8 false 0 (by decide) so8 w
theorem so12 (w : World) : Calls Tryd.prog 33 #[.agg #[.int .i64 5, .int .i64 10], .int .u64 15360] w (Says w (.tuple #[.agg #[.bool false, .int .u64 1024, .int .i64 (-10), .bool true], .bool true, .agg #[.bool false, .string ⟨#[]⟩, .int .i64 0], .int .i64 0])) :=
  open_num (E := 5) (F := 10) (b := 15360) (X := 15) (Y := 0) (ng := false) (by decide) (by decide) (by decide) (by decide) (by decide +kernel) (by decide +kernel) (by decide) (by decide) w
theorem ss12 (w : World) : Calls Tryd.prog 19 #[.agg #[.int .i64 5, .int .i64 10], .int .u64 15360, .int .i64 0] w (Says w (.tuple #[.agg #[.bool false, .string ⟨#[]⟩, .int .i64 (0)], .bool false, .int .i64 101])) :=
  some_places_lo 5 10 15360 false true 1024 (-10) false true 0 (by decide) so12 w
theorem ss13 (w : World) : Calls Tryd.prog 19 #[.agg #[.int .i64 5, .int .i64 10], .int .u64 15360, .int .i64 18] w (Says w (.tuple #[.agg #[.bool false, .string ⟨#[]⟩, .int .i64 (0)], .bool false, .int .i64 101])) :=
  some_places_hi 5 10 15360 false true 1024 (-10) false true 18 (by decide) so12 w
end Go.Proofs.YtenekbfnlbipiaaDoor
