/- Forms: floats that are known: NaN, the greatest and the others. -/
import Derived.Test.YtmneicbagcimdaaFoF
namespace Go.Proofs.Ytmneicbagcimdaa
open Go.RowKit
set_option linter.unusedVariables false
set_option linter.unusedSimpArgs false
set_option maxHeartbeats 4000000
set_option maxRecDepth 100000

def nanS (e f : Int) (neg : Bool) (y : Nat) : Nat × Int := if chkF e f = 0 then (if 2 ^ (f.toNat - 1) ≤ y then (0, 30) else joinF e.toNat f.toNat neg ((2 ^ e.toNat - 1 : Nat) : Int) (2 ^ (f.toNat - 1) + y)) else (0, chkF e f)
theorem join_ok {E F x y R : Nat} {neg : Bool} (hx : x < 2 ^ E) (hy : y < 2 ^ F) (hR : R = y + x * 2 ^ F + (if neg = true then 2 ^ (F + E) else 0)) : joinF E F neg (x : Int) y = (R, 0) := by
  unfold joinF; rw [if_neg (by rw [Int.toNat_natCast]; omega), Int.toNat_natCast, hR]

theorem forms_NaN (e f : Int) (neg : Bool) (Yi : Int) (y : Nat) (hY : Yi = (y : Int)) (hy64 : y < 18446744073709551616) (w : World) :
    Calls Try.prog 27 #[.agg #[.int .i64 e, .int .i64 f], .bool neg, .int .u64 Yi] w (Says w (.tuple #[.int .u64 (((nanS e f neg y).1 : Nat) : Int), .int .i64 (nanS e f neg y).2])) := by
  subst hY
  by_cases hc : chkF e f = 0
  · obtain ⟨E, F, rfl, rfl, hE1, hE2, hF1, hF2⟩ := chk_ok hc
    have HC := Lib.hid hc
    obtain ⟨Q, hQ⟩ : ∃ Q, Q = 2 ^ (F - 1) := ⟨_, rfl⟩
    have hQs : Q ≤ 4503599627370496 := by rw [hQ]; exact Nat.pow_le_pow_right (n := 2) (by decide) (show F - 1 ≤ 52 by omega)
    have hq2 : (2 : Int) ^ (F - 1) = (Q : Int) := by rw [hQ]; push_cast; rfl
    have hq : IntKind.u64.wrap (2 ^ (F - 1)) = (Q : Int) := by rw [hq2, IntKind.wrap_u64]; omega
    by_cases hbig : Q ≤ y
    · rw [show nanS (E : Int) (F : Int) neg y = (0, 30) from by unfold nanS; rw [if_pos hc, if_pos (by simp only [Int.toNat_natCast]; omega)]]
      clear hc hq2 hQ
      have hd : decide ((Q : Int) ≤ (y : Int)) = true := by rw [decide_eq_true_iff]; omega
      go_enter Try.func27, Try.ntmps27
      go_wp2_with fail
      refine (forms_Check _ _ _).mono ?_
      rintro r w1 ⟨rfl, hb1⟩
      rw [HC.out]
      obtain ⟨hc1, hf1⟩ := bcell hb1
      have hbw1 : Below w.heap.size w w1 := Below.trans (b := _) (by repeat' (first | (with_reducible assumption) | (with_reducible exact Below.refl _ _) | (with_reducible refine bdn ?_ _) | (with_reducible refine Below.drew ?_) | (with_reducible refine Below.setCell ?_ ?_ _) | (with_reducible refine Below.alloc ?_ ?_ _) | go_size)) (hb1.mono (by go_size))
      have hz1_0 : w.heap.size < w1.heap.size := by have := hb1.size; simp at this; omega
      go_wp2
      go_ret2
      exact ⟨rfl, hbw1⟩
    · obtain ⟨M, hM⟩ := pow_m1 E
      obtain ⟨Z, hZ⟩ : ∃ Z, Z = Q + y := ⟨_, rfl⟩
      obtain ⟨R, hR⟩ : ∃ R, R = Z + M * 2 ^ F + (if neg = true then 2 ^ (F + E) else 0) := ⟨_, rfl⟩
      have hF : 2 ^ F = 2 * Q := by rw [hQ, ← Nat.pow_succ']; congr 1; omega
      have hZF : Z < 2 ^ F := by omega
      have hME : M < 2 ^ E := by omega
      rw [show nanS (E : Int) (F : Int) neg y = (R, 0) from by
        unfold nanS
        rw [if_pos hc, if_neg (by simp only [Int.toNat_natCast]; omega)]
        simp only [Int.toNat_natCast]
        rw [show 2 ^ E - 1 = M from by omega, ← hQ, ← hZ]
        exact join_ok hME hZF hR]
      have hor : bits BinOp.or IntKind.u64 (Q : Int) (y : Int) = (Z : Int) := by
        rw [u64_or_nat Q y (by omega) (by omega)]
        have := Nat.two_pow_add_eq_or_of_lt (i := F - 1) (b := y) (by omega) 1
        rw [Nat.mul_one, ← hQ] at this
        rw [← this, hZ]
      have HM := Lib.hid hM
      have HR := Lib.hid hR
      have HZF := Lib.hid hZF
      have HME := Lib.hid hME
      have hd : decide ((Q : Int) ≤ (y : Int)) = false := by rw [decide_eq_false_iff_not]; omega
      clear hc hq2 hQ hM hR hZF hME hF hZ
      go_enter Try.func27, Try.ntmps27
      go_wp2_with fail
      refine (forms_Check _ _ _).mono ?_
      rintro r w1 ⟨rfl, hb1⟩
      rw [HC.out]
      obtain ⟨hc1, hf1⟩ := bcell hb1
      have hbw1 : Below w.heap.size w w1 := Below.trans (b := _) (by repeat' (first | (with_reducible assumption) | (with_reducible exact Below.refl _ _) | (with_reducible refine bdn ?_ _) | (with_reducible refine Below.drew ?_) | (with_reducible refine Below.setCell ?_ ?_ _) | (with_reducible refine Below.alloc ?_ ?_ _) | go_size)) (hb1.mono (by go_size))
      have hz1_0 : w.heap.size < w1.heap.size := by have := hb1.size; simp at this; omega
      have c0 : w1.cell? ⟨w.heap.size, 0, none⟩ = some (.int .i64 (E : Int)) := by rw [hc1 _ _ (by go_size)]; simp [go_sem]
      have c1 : w1.cell? ⟨w.heap.size, 1, none⟩ = some (.int .i64 (F : Int)) := by rw [hc1 _ _ (by go_size)]; simp [go_sem]
      go_wp2
      go_region_held3 (fun w' => w'.cell? ⟨w.heap.size, 0, none⟩ = some (.int .i64 (E : Int)) ∧ w'.cell? ⟨w.heap.size, 1, none⟩ = some (.int .i64 (F : Int))) (first | go_keep | exact ⟨cell_keep hb3 c0, cell_keep hb3 c1⟩)
        (first
         | (go_at_call 46; refine (forms_mask _ E M rfl (by omega) HM.out _).mono ?_; rintro r w2 ⟨rfl, rfl⟩)
         | (go_at_call 47; refine (forms_join E F M Z _ _ rfl rfl neg R hE2 hF2 HME.out HZF.out HR.out _).mono ?_; rintro r w3 ⟨rfl, hb3⟩))
      all_goals (
        go_wp2
        go_ret2
        exact ⟨rfl, (Below.drew hbw1).trans (hb3.mono hbw1.size)⟩)
  · rw [show nanS e f neg y = (0, 5) from by unfold nanS; rw [if_neg hc, chk_no hc]]
    have HC := Lib.hid (chk_no hc)
    clear hc
    go_enter Try.func27, Try.ntmps27
    go_wp2_with fail
    refine (forms_Check _ _ _).mono ?_
    rintro r w1 ⟨rfl, hb1⟩
    rw [HC.out]
    obtain ⟨hc1, hf1⟩ := bcell hb1
    have hbw1 : Below w.heap.size w w1 := Below.trans (b := _) (by repeat' (first | (with_reducible assumption) | (with_reducible exact Below.refl _ _) | (with_reducible refine bdn ?_ _) | (with_reducible refine Below.drew ?_) | (with_reducible refine Below.setCell ?_ ?_ _) | (with_reducible refine Below.alloc ?_ ?_ _) | go_size)) (hb1.mono (by go_size))
    have hz1_0 : w.heap.size < w1.heap.size := by have := hb1.size; simp at this; omega
    go_wp2
    go_ret2
    exact ⟨rfl, hbw1⟩
/-- A known float: of these fields, of a form that may be. -/
def knownS (e f : Int) (neg : Bool) (x y : Nat) : Nat × Int := if chkF e f = 0 then joinF e.toNat f.toNat neg (x : Int) y else (0, chkF e f)
theorem known_no {e f : Int} {neg : Bool} {x y : Nat} (hc : ¬ chkF e f = 0) : knownS e f neg x y = (0, 5) := by unfold knownS; rw [if_neg hc, chk_no hc]


theorem known_Greatest (E F x y R : Nat) (neg : Bool) (caps : Array Value) (hE2 : E ≤ 11) (hF2 : F ≤ 52) (HC : Hid (chkF (E : Int) (F : Int) = 0)) (hx : Hid (x < 2 ^ E)) (hy : Hid (y < 2 ^ F)) (hR : Hid (R = y + x * 2 ^ F + (if neg = true then 2 ^ (F + E) else 0))) (w : World)
    (hclo : ∀ W, Below w.heap.size w W → Calls Try.prog 57 caps W fun e w' => e = .returned (.tuple #[.int .u64 (x : Int), .int .u64 (y : Int)]) ∧ Below W.heap.size W w') :
    Calls Try.prog 53 #[.agg #[.int .i64 (E : Int), .int .i64 (F : Int)], .bool neg, .func (Fn.func 57) #[] caps] w (Says w (.tuple #[.int .u64 (R : Int), .int .i64 0])) := by
  go_enter Try.func53, Try.ntmps53
  go_wp2_with fail
  refine (forms_Check _ _ _).mono ?_
  rintro r w1 ⟨rfl, hb1⟩
  rw [HC.out]
  obtain ⟨hc1, hf1⟩ := bcell hb1
  have hbw1 : Below w.heap.size w w1 := Below.trans (b := _) (by repeat' (first | (with_reducible assumption) | (with_reducible exact Below.refl _ _) | (with_reducible refine bdn ?_ _) | (with_reducible refine Below.drew ?_) | (with_reducible refine Below.setCell ?_ ?_ _) | (with_reducible refine Below.alloc ?_ ?_ _) | go_size)) (hb1.mono (by go_size))
  have hz1_0 : w.heap.size < w1.heap.size := by have := hb1.size; simp at this; omega
  go_wp2_with fail
  refine (hclo _ hbw1).mono ?_
  rintro r w2 ⟨rfl, hb2⟩
  have hbw2 := hbw1.trans (hb2.mono hbw1.size)
  have c0 : w2.cell? ⟨w.heap.size, 0, none⟩ = some (.int .i64 (E : Int)) := cell_keep hb2 (by rw [hc1 _ _ (by go_size)]; simp [go_sem])
  have c1 : w2.cell? ⟨w.heap.size, 1, none⟩ = some (.int .i64 (F : Int)) := cell_keep hb2 (by rw [hc1 _ _ (by go_size)]; simp [go_sem])
  have z2 := cell_lt c0
  simp only at z2
  clear hc1 hf1
  go_wp2_with fail
  refine (forms_join E F x y _ _ rfl rfl neg R hE2 hF2 hx.out hy.out hR.out _).mono ?_
  rintro r w3 ⟨rfl, hb3⟩
  go_wp2
  go_ret2
  exact ⟨rfl, hbw2.trans (hb3.mono hbw2.size)⟩
theorem knownno_Greatest (e f : Int) (neg : Bool) (caps : Array Value) (HC : Hid (chkF e f = 5)) (w : World) :
    Calls Try.prog 53 #[.agg #[.int .i64 e, .int .i64 f], .bool neg, .func (Fn.func 57) #[] caps] w (Says w (.tuple #[.int .u64 0, .int .i64 5])) := by
  go_enter Try.func53, Try.ntmps53
  go_wp2_with fail
  refine (forms_Check _ _ _).mono ?_
  rintro r w1 ⟨rfl, hb1⟩
  rw [HC.out]
  obtain ⟨hc1, hf1⟩ := bcell hb1
  have hbw1 : Below w.heap.size w w1 := Below.trans (b := _) (by repeat' (first | (with_reducible assumption) | (with_reducible exact Below.refl _ _) | (with_reducible refine bdn ?_ _) | (with_reducible refine Below.drew ?_) | (with_reducible refine Below.setCell ?_ ?_ _) | (with_reducible refine Below.alloc ?_ ?_ _) | go_size)) (hb1.mono (by go_size))
  have hz1_0 : w.heap.size < w1.heap.size := by have := hb1.size; simp at this; omega
  go_wp2
  go_ret2
  exact ⟨rfl, hbw1⟩
theorem forms_Greatest (e f : Int) (neg : Bool) (w : World) :
    Calls Try.prog 25 #[.agg #[.int .i64 e, .int .i64 f], .bool neg] w (Says w (.tuple #[.int .u64 (((knownS e f neg (2 ^ e.toNat - 1 - 1) (2 ^ f.toNat - 1)).1 : Nat) : Int), .int .i64 (knownS e f neg (2 ^ e.toNat - 1 - 1) (2 ^ f.toNat - 1)).2])) := by
  by_cases hc : chkF e f = 0
  · obtain ⟨E, F, rfl, rfl, hE1, hE2, hF1, hF2⟩ := chk_ok hc
    have HC := Lib.hid hc
    have hE0 : 4 ≤ 2 ^ E := Nat.pow_le_pow_right (n := 2) (by decide) hE1
    have hEs : 2 ^ E ≤ 2048 := Nat.pow_le_pow_right (n := 2) (by decide) hE2
    have hF0 : 2 ≤ 2 ^ F := Nat.pow_le_pow_right (n := 2) (by decide) hF1
    obtain ⟨ME, hME⟩ := pow_m1 E
    obtain ⟨MF, hMF⟩ := pow_m1 F
    obtain ⟨x, hx⟩ : ∃ x, x = 2 ^ E - 1 - 1 := ⟨_, rfl⟩
    obtain ⟨y, hy⟩ : ∃ y, y = 2 ^ F - 1 := ⟨_, rfl⟩
    have hxl : x < 2 ^ E := by omega
    have hyl : y < 2 ^ F := by omega
    obtain ⟨R, hR⟩ : ∃ R, R = y + x * 2 ^ F + (if neg = true then 2 ^ (F + E) else 0) := ⟨_, rfl⟩
    rw [show knownS (E : Int) (F : Int) neg (2 ^ (E : Int).toNat - 1 - 1) (2 ^ (F : Int).toNat - 1) = (R, 0) from by
      unfold knownS
      rw [if_pos hc]
      simp only [Int.toNat_natCast]
      have hh := join_ok (neg := neg) hxl hyl hR
      rw [hx, hy] at hh
      exact hh]
    have HX := Lib.hid hxl
    have HY := Lib.hid hyl
    have HR := Lib.hid hR
    have HME := Lib.hid hME
    have HMF := Lib.hid hMF
    have hxm : x = ME - 1 := by omega
    have hym : y = MF := by omega
    have hME3 : 3 ≤ ME := by omega
    have hMEs : ME ≤ 2047 := by omega
    clear hc hx hy hxl hyl hR hME hMF hE0 hEs hF0
    subst hxm hym
    go_enter Try.func25, Try.ntmps25
    go_wp2_with fail
    refine (known_Greatest E F _ _ R neg _ hE2 hF2 HC HX HY HR _ ?_).mono ?_
    · intro W hW
      have c0 : W.cell? ⟨w.heap.size, 0, none⟩ = some (.int .i64 (E : Int)) := by rw [hW.cell (p := ⟨w.heap.size, 0, none⟩) (by simp)]; simp
      have c1 : W.cell? ⟨w.heap.size, 1, none⟩ = some (.int .i64 (F : Int)) := by rw [hW.cell (p := ⟨w.heap.size, 1, none⟩) (by simp)]; simp
      have zW := cell_lt c0
      simp only at zW
      go_enter Try.func57, Try.ntmps57
      have hwM : IntKind.u64.wrap ((ME : Int) - 1) = ((ME - 1 : Nat) : Int) := by rw [IntKind.wrap_u64]; omega
      go_wp2
      go_quiet ((go_at_call 46; first | with_reducible exact quiet_left (forms_mask (E : Int) E ME rfl (by omega) HME.out _) | with_reducible exact quiet_left (forms_mask (F : Int) F y rfl (by omega) HMF.out _) | with_reducible exact quiet_add_left (forms_mask (E : Int) E ME rfl (by omega) HME.out _) | with_reducible exact quiet_add_left (forms_mask (F : Int) F y rfl (by omega) HMF.out _)))
      go_wp2
      go_ret2
      exact ⟨by first | rfl | (simp [hwM]; done) | (congr; omega), (by repeat' (first | (with_reducible assumption) | (with_reducible exact Below.refl _ _) | (with_reducible refine bdn ?_ _) | (with_reducible refine Below.drew ?_) | (with_reducible refine Below.setCell ?_ ?_ _) | (with_reducible refine Below.alloc ?_ ?_ _) | go_size))⟩
    rintro r w1 ⟨rfl, hb1⟩
    go_wp2
    go_ret2
    exact ⟨rfl, ((Below.refl w.heap.size w).alloc (Nat.le_refl _) _).trans (hb1.mono (by simp))⟩
  · rw [known_no hc]
    have HC := Lib.hid (chk_no hc)
    clear hc
    go_enter Try.func25, Try.ntmps25
    go_wp2_with fail
    refine (knownno_Greatest e f neg _ HC _).mono ?_
    rintro r w1 ⟨rfl, hb1⟩
    go_wp2
    go_ret2
    exact ⟨rfl, ((Below.refl w.heap.size w).alloc (Nat.le_refl _) _).trans (hb1.mono (by simp))⟩

theorem known_Inf (E F x y R : Nat) (neg : Bool) (caps : Array Value) (hE2 : E ≤ 11) (hF2 : F ≤ 52) (HC : Hid (chkF (E : Int) (F : Int) = 0)) (hx : Hid (x < 2 ^ E)) (hy : Hid (y < 2 ^ F)) (hR : Hid (R = y + x * 2 ^ F + (if neg = true then 2 ^ (F + E) else 0))) (w : World)
    (hclo : ∀ W, Below w.heap.size w W → Calls Try.prog 58 caps W fun e w' => e = .returned (.tuple #[.int .u64 (x : Int), .int .u64 (y : Int)]) ∧ Below W.heap.size W w') :
    Calls Try.prog 53 #[.agg #[.int .i64 (E : Int), .int .i64 (F : Int)], .bool neg, .func (Fn.func 58) #[] caps] w (Says w (.tuple #[.int .u64 (R : Int), .int .i64 0])) := by
  go_enter Try.func53, Try.ntmps53
  go_wp2_with fail
  refine (forms_Check _ _ _).mono ?_
  rintro r w1 ⟨rfl, hb1⟩
  rw [HC.out]
  obtain ⟨hc1, hf1⟩ := bcell hb1
  have hbw1 : Below w.heap.size w w1 := Below.trans (b := _) (by repeat' (first | (with_reducible assumption) | (with_reducible exact Below.refl _ _) | (with_reducible refine bdn ?_ _) | (with_reducible refine Below.drew ?_) | (with_reducible refine Below.setCell ?_ ?_ _) | (with_reducible refine Below.alloc ?_ ?_ _) | go_size)) (hb1.mono (by go_size))
  have hz1_0 : w.heap.size < w1.heap.size := by have := hb1.size; simp at this; omega
  go_wp2_with fail
  refine (hclo _ hbw1).mono ?_
  rintro r w2 ⟨rfl, hb2⟩
  have hbw2 := hbw1.trans (hb2.mono hbw1.size)
  have c0 : w2.cell? ⟨w.heap.size, 0, none⟩ = some (.int .i64 (E : Int)) := cell_keep hb2 (by rw [hc1 _ _ (by go_size)]; simp [go_sem])
  have c1 : w2.cell? ⟨w.heap.size, 1, none⟩ = some (.int .i64 (F : Int)) := cell_keep hb2 (by rw [hc1 _ _ (by go_size)]; simp [go_sem])
  have z2 := cell_lt c0
  simp only at z2
  clear hc1 hf1
  go_wp2_with fail
  refine (forms_join E F x y _ _ rfl rfl neg R hE2 hF2 hx.out hy.out hR.out _).mono ?_
  rintro r w3 ⟨rfl, hb3⟩
  go_wp2
  go_ret2
  exact ⟨rfl, hbw2.trans (hb3.mono hbw2.size)⟩
theorem knownno_Inf (e f : Int) (neg : Bool) (caps : Array Value) (HC : Hid (chkF e f = 5)) (w : World) :
    Calls Try.prog 53 #[.agg #[.int .i64 e, .int .i64 f], .bool neg, .func (Fn.func 58) #[] caps] w (Says w (.tuple #[.int .u64 0, .int .i64 5])) := by
  go_enter Try.func53, Try.ntmps53
  go_wp2_with fail
  refine (forms_Check _ _ _).mono ?_
  rintro r w1 ⟨rfl, hb1⟩
  rw [HC.out]
  obtain ⟨hc1, hf1⟩ := bcell hb1
  have hbw1 : Below w.heap.size w w1 := Below.trans (b := _) (by repeat' (first | (with_reducible assumption) | (with_reducible exact Below.refl _ _) | (with_reducible refine bdn ?_ _) | (with_reducible refine Below.drew ?_) | (with_reducible refine Below.setCell ?_ ?_ _) | (with_reducible refine Below.alloc ?_ ?_ _) | go_size)) (hb1.mono (by go_size))
  have hz1_0 : w.heap.size < w1.heap.size := by have := hb1.size; simp at this; omega
  go_wp2
  go_ret2
  exact ⟨rfl, hbw1⟩
theorem forms_Inf (e f : Int) (neg : Bool) (w : World) :
    Calls Try.prog 26 #[.agg #[.int .i64 e, .int .i64 f], .bool neg] w (Says w (.tuple #[.int .u64 (((knownS e f neg (2 ^ e.toNat - 1) (0)).1 : Nat) : Int), .int .i64 (knownS e f neg (2 ^ e.toNat - 1) (0)).2])) := by
  by_cases hc : chkF e f = 0
  · obtain ⟨E, F, rfl, rfl, hE1, hE2, hF1, hF2⟩ := chk_ok hc
    have HC := Lib.hid hc
    have hE0 : 4 ≤ 2 ^ E := Nat.pow_le_pow_right (n := 2) (by decide) hE1
    have hEs : 2 ^ E ≤ 2048 := Nat.pow_le_pow_right (n := 2) (by decide) hE2
    have hF0 : 2 ≤ 2 ^ F := Nat.pow_le_pow_right (n := 2) (by decide) hF1
    obtain ⟨ME, hME⟩ := pow_m1 E
    obtain ⟨MF, hMF⟩ := pow_m1 F
    obtain ⟨x, hx⟩ : ∃ x, x = 2 ^ E - 1 := ⟨_, rfl⟩
    obtain ⟨y, hy⟩ : ∃ y, y = 0 := ⟨_, rfl⟩
    have hxl : x < 2 ^ E := by omega
    have hyl : y < 2 ^ F := by omega
    obtain ⟨R, hR⟩ : ∃ R, R = y + x * 2 ^ F + (if neg = true then 2 ^ (F + E) else 0) := ⟨_, rfl⟩
    rw [show knownS (E : Int) (F : Int) neg (2 ^ (E : Int).toNat - 1) (0) = (R, 0) from by
      unfold knownS
      rw [if_pos hc]
      simp only [Int.toNat_natCast]
      have hh := join_ok (neg := neg) hxl hyl hR
      rw [hx, hy] at hh
      exact hh]
    have HX := Lib.hid hxl
    have HY := Lib.hid hyl
    have HR := Lib.hid hR
    have HME := Lib.hid hME
    have HMF := Lib.hid hMF
    have hxm : x = ME := by omega
    have hym : y = 0 := by omega
    have hME3 : 3 ≤ ME := by omega
    have hMEs : ME ≤ 2047 := by omega
    clear hc hx hy hxl hyl hR hME hMF hE0 hEs hF0
    subst hxm hym
    go_enter Try.func26, Try.ntmps26
    go_wp2_with fail
    refine (known_Inf E F _ _ R neg _ hE2 hF2 HC HX HY HR _ ?_).mono ?_
    · intro W hW
      have c0 : W.cell? ⟨w.heap.size, 0, none⟩ = some (.int .i64 (E : Int)) := by rw [hW.cell (p := ⟨w.heap.size, 0, none⟩) (by simp)]; simp
      have c1 : W.cell? ⟨w.heap.size, 1, none⟩ = some (.int .i64 (F : Int)) := by rw [hW.cell (p := ⟨w.heap.size, 1, none⟩) (by simp)]; simp
      have zW := cell_lt c0
      simp only at zW
      go_enter Try.func58, Try.ntmps58
      go_wp2_with fail
      refine (forms_mask _ E x rfl (by omega) HME.out _).mono ?_
      rintro r w2 ⟨rfl, rfl⟩
      go_wp2
      go_ret2
      exact ⟨rfl, (by repeat' (first | (with_reducible assumption) | (with_reducible exact Below.refl _ _) | (with_reducible refine bdn ?_ _) | (with_reducible refine Below.drew ?_) | (with_reducible refine Below.setCell ?_ ?_ _) | (with_reducible refine Below.alloc ?_ ?_ _) | go_size))⟩
    rintro r w1 ⟨rfl, hb1⟩
    go_wp2
    go_ret2
    exact ⟨rfl, ((Below.refl w.heap.size w).alloc (Nat.le_refl _) _).trans (hb1.mono (by simp))⟩
  · rw [known_no hc]
    have HC := Lib.hid (chk_no hc)
    clear hc
    go_enter Try.func26, Try.ntmps26
    go_wp2_with fail
    refine (knownno_Inf e f neg _ HC _).mono ?_
    rintro r w1 ⟨rfl, hb1⟩
    go_wp2
    go_ret2
    exact ⟨rfl, ((Below.refl w.heap.size w).alloc (Nat.le_refl _) _).trans (hb1.mono (by simp))⟩

theorem known_Nought (E F x y R : Nat) (neg : Bool) (caps : Array Value) (hE2 : E ≤ 11) (hF2 : F ≤ 52) (HC : Hid (chkF (E : Int) (F : Int) = 0)) (hx : Hid (x < 2 ^ E)) (hy : Hid (y < 2 ^ F)) (hR : Hid (R = y + x * 2 ^ F + (if neg = true then 2 ^ (F + E) else 0))) (w : World)
    (hclo : ∀ W, Below w.heap.size w W → Calls Try.prog 54 caps W fun e w' => e = .returned (.tuple #[.int .u64 (x : Int), .int .u64 (y : Int)]) ∧ Below W.heap.size W w') :
    Calls Try.prog 53 #[.agg #[.int .i64 (E : Int), .int .i64 (F : Int)], .bool neg, .func (Fn.func 54) #[] caps] w (Says w (.tuple #[.int .u64 (R : Int), .int .i64 0])) := by
  go_enter Try.func53, Try.ntmps53
  go_wp2_with fail
  refine (forms_Check _ _ _).mono ?_
  rintro r w1 ⟨rfl, hb1⟩
  rw [HC.out]
  obtain ⟨hc1, hf1⟩ := bcell hb1
  have hbw1 : Below w.heap.size w w1 := Below.trans (b := _) (by repeat' (first | (with_reducible assumption) | (with_reducible exact Below.refl _ _) | (with_reducible refine bdn ?_ _) | (with_reducible refine Below.drew ?_) | (with_reducible refine Below.setCell ?_ ?_ _) | (with_reducible refine Below.alloc ?_ ?_ _) | go_size)) (hb1.mono (by go_size))
  have hz1_0 : w.heap.size < w1.heap.size := by have := hb1.size; simp at this; omega
  go_wp2_with fail
  refine (hclo _ hbw1).mono ?_
  rintro r w2 ⟨rfl, hb2⟩
  have hbw2 := hbw1.trans (hb2.mono hbw1.size)
  have c0 : w2.cell? ⟨w.heap.size, 0, none⟩ = some (.int .i64 (E : Int)) := cell_keep hb2 (by rw [hc1 _ _ (by go_size)]; simp [go_sem])
  have c1 : w2.cell? ⟨w.heap.size, 1, none⟩ = some (.int .i64 (F : Int)) := cell_keep hb2 (by rw [hc1 _ _ (by go_size)]; simp [go_sem])
  have z2 := cell_lt c0
  simp only at z2
  clear hc1 hf1
  go_wp2_with fail
  refine (forms_join E F x y _ _ rfl rfl neg R hE2 hF2 hx.out hy.out hR.out _).mono ?_
  rintro r w3 ⟨rfl, hb3⟩
  go_wp2
  go_ret2
  exact ⟨rfl, hbw2.trans (hb3.mono hbw2.size)⟩
theorem knownno_Nought (e f : Int) (neg : Bool) (caps : Array Value) (HC : Hid (chkF e f = 5)) (w : World) :
    Calls Try.prog 53 #[.agg #[.int .i64 e, .int .i64 f], .bool neg, .func (Fn.func 54) #[] caps] w (Says w (.tuple #[.int .u64 0, .int .i64 5])) := by
  go_enter Try.func53, Try.ntmps53
  go_wp2_with fail
  refine (forms_Check _ _ _).mono ?_
  rintro r w1 ⟨rfl, hb1⟩
  rw [HC.out]
  obtain ⟨hc1, hf1⟩ := bcell hb1
  have hbw1 : Below w.heap.size w w1 := Below.trans (b := _) (by repeat' (first | (with_reducible assumption) | (with_reducible exact Below.refl _ _) | (with_reducible refine bdn ?_ _) | (with_reducible refine Below.drew ?_) | (with_reducible refine Below.setCell ?_ ?_ _) | (with_reducible refine Below.alloc ?_ ?_ _) | go_size)) (hb1.mono (by go_size))
  have hz1_0 : w.heap.size < w1.heap.size := by have := hb1.size; simp at this; omega
  go_wp2
  go_ret2
  exact ⟨rfl, hbw1⟩
theorem forms_Nought (e f : Int) (neg : Bool) (w : World) :
    Calls Try.prog 22 #[.agg #[.int .i64 e, .int .i64 f], .bool neg] w (Says w (.tuple #[.int .u64 (((knownS e f neg (0) (0)).1 : Nat) : Int), .int .i64 (knownS e f neg (0) (0)).2])) := by
  by_cases hc : chkF e f = 0
  · obtain ⟨E, F, rfl, rfl, hE1, hE2, hF1, hF2⟩ := chk_ok hc
    have HC := Lib.hid hc
    have hE0 : 4 ≤ 2 ^ E := Nat.pow_le_pow_right (n := 2) (by decide) hE1
    have hEs : 2 ^ E ≤ 2048 := Nat.pow_le_pow_right (n := 2) (by decide) hE2
    have hF0 : 2 ≤ 2 ^ F := Nat.pow_le_pow_right (n := 2) (by decide) hF1
    obtain ⟨ME, hME⟩ := pow_m1 E
    obtain ⟨MF, hMF⟩ := pow_m1 F
    obtain ⟨x, hx⟩ : ∃ x, x = 0 := ⟨_, rfl⟩
    obtain ⟨y, hy⟩ : ∃ y, y = 0 := ⟨_, rfl⟩
    have hxl : x < 2 ^ E := by omega
    have hyl : y < 2 ^ F := by omega
    obtain ⟨R, hR⟩ : ∃ R, R = y + x * 2 ^ F + (if neg = true then 2 ^ (F + E) else 0) := ⟨_, rfl⟩
    rw [show knownS (E : Int) (F : Int) neg (0) (0) = (R, 0) from by
      unfold knownS
      rw [if_pos hc]
      simp only [Int.toNat_natCast]
      have hh := join_ok (neg := neg) hxl hyl hR
      rw [hx, hy] at hh
      exact hh]
    have HX := Lib.hid hxl
    have HY := Lib.hid hyl
    have HR := Lib.hid hR
    have HME := Lib.hid hME
    have HMF := Lib.hid hMF
    have hxm : x = 0 := by omega
    have hym : y = 0 := by omega
    have hME3 : 3 ≤ ME := by omega
    have hMEs : ME ≤ 2047 := by omega
    clear hc hx hy hxl hyl hR hME hMF hE0 hEs hF0
    subst hxm hym
    go_enter Try.func22, Try.ntmps22
    go_wp2_with fail
    refine (known_Nought E F _ _ R neg _ hE2 hF2 HC HX HY HR _ ?_).mono ?_
    · intro W hW
      go_enter Try.func54, Try.ntmps54
      go_wp2
      go_ret2
      exact ⟨rfl, (by repeat' (first | (with_reducible assumption) | (with_reducible exact Below.refl _ _) | (with_reducible refine bdn ?_ _) | (with_reducible refine Below.drew ?_) | (with_reducible refine Below.setCell ?_ ?_ _) | (with_reducible refine Below.alloc ?_ ?_ _) | go_size))⟩
    rintro r w1 ⟨rfl, hb1⟩
    go_wp2
    go_ret2
    exact ⟨rfl, ((Below.refl w.heap.size w).alloc (Nat.le_refl _) _).trans (hb1.mono (by simp))⟩
  · rw [known_no hc]
    have HC := Lib.hid (chk_no hc)
    clear hc
    go_enter Try.func22, Try.ntmps22
    go_wp2_with fail
    refine (knownno_Nought e f neg _ HC _).mono ?_
    rintro r w1 ⟨rfl, hb1⟩
    go_wp2
    go_ret2
    exact ⟨rfl, ((Below.refl w.heap.size w).alloc (Nat.le_refl _) _).trans (hb1.mono (by simp))⟩

theorem known_Normal (E F x y R : Nat) (neg : Bool) (caps : Array Value) (hE2 : E ≤ 11) (hF2 : F ≤ 52) (HC : Hid (chkF (E : Int) (F : Int) = 0)) (hx : Hid (x < 2 ^ E)) (hy : Hid (y < 2 ^ F)) (hR : Hid (R = y + x * 2 ^ F + (if neg = true then 2 ^ (F + E) else 0))) (w : World)
    (hclo : ∀ W, Below w.heap.size w W → Calls Try.prog 56 caps W fun e w' => e = .returned (.tuple #[.int .u64 (x : Int), .int .u64 (y : Int)]) ∧ Below W.heap.size W w') :
    Calls Try.prog 53 #[.agg #[.int .i64 (E : Int), .int .i64 (F : Int)], .bool neg, .func (Fn.func 56) #[] caps] w (Says w (.tuple #[.int .u64 (R : Int), .int .i64 0])) := by
  go_enter Try.func53, Try.ntmps53
  go_wp2_with fail
  refine (forms_Check _ _ _).mono ?_
  rintro r w1 ⟨rfl, hb1⟩
  rw [HC.out]
  obtain ⟨hc1, hf1⟩ := bcell hb1
  have hbw1 : Below w.heap.size w w1 := Below.trans (b := _) (by repeat' (first | (with_reducible assumption) | (with_reducible exact Below.refl _ _) | (with_reducible refine bdn ?_ _) | (with_reducible refine Below.drew ?_) | (with_reducible refine Below.setCell ?_ ?_ _) | (with_reducible refine Below.alloc ?_ ?_ _) | go_size)) (hb1.mono (by go_size))
  have hz1_0 : w.heap.size < w1.heap.size := by have := hb1.size; simp at this; omega
  go_wp2_with fail
  refine (hclo _ hbw1).mono ?_
  rintro r w2 ⟨rfl, hb2⟩
  have hbw2 := hbw1.trans (hb2.mono hbw1.size)
  have c0 : w2.cell? ⟨w.heap.size, 0, none⟩ = some (.int .i64 (E : Int)) := cell_keep hb2 (by rw [hc1 _ _ (by go_size)]; simp [go_sem])
  have c1 : w2.cell? ⟨w.heap.size, 1, none⟩ = some (.int .i64 (F : Int)) := cell_keep hb2 (by rw [hc1 _ _ (by go_size)]; simp [go_sem])
  have z2 := cell_lt c0
  simp only at z2
  clear hc1 hf1
  go_wp2_with fail
  refine (forms_join E F x y _ _ rfl rfl neg R hE2 hF2 hx.out hy.out hR.out _).mono ?_
  rintro r w3 ⟨rfl, hb3⟩
  go_wp2
  go_ret2
  exact ⟨rfl, hbw2.trans (hb3.mono hbw2.size)⟩
theorem knownno_Normal (e f : Int) (neg : Bool) (caps : Array Value) (HC : Hid (chkF e f = 5)) (w : World) :
    Calls Try.prog 53 #[.agg #[.int .i64 e, .int .i64 f], .bool neg, .func (Fn.func 56) #[] caps] w (Says w (.tuple #[.int .u64 0, .int .i64 5])) := by
  go_enter Try.func53, Try.ntmps53
  go_wp2_with fail
  refine (forms_Check _ _ _).mono ?_
  rintro r w1 ⟨rfl, hb1⟩
  rw [HC.out]
  obtain ⟨hc1, hf1⟩ := bcell hb1
  have hbw1 : Below w.heap.size w w1 := Below.trans (b := _) (by repeat' (first | (with_reducible assumption) | (with_reducible exact Below.refl _ _) | (with_reducible refine bdn ?_ _) | (with_reducible refine Below.drew ?_) | (with_reducible refine Below.setCell ?_ ?_ _) | (with_reducible refine Below.alloc ?_ ?_ _) | go_size)) (hb1.mono (by go_size))
  have hz1_0 : w.heap.size < w1.heap.size := by have := hb1.size; simp at this; omega
  go_wp2
  go_ret2
  exact ⟨rfl, hbw1⟩
theorem forms_Normal (e f : Int) (neg : Bool) (w : World) :
    Calls Try.prog 24 #[.agg #[.int .i64 e, .int .i64 f], .bool neg] w (Says w (.tuple #[.int .u64 (((knownS e f neg (1) (0)).1 : Nat) : Int), .int .i64 (knownS e f neg (1) (0)).2])) := by
  by_cases hc : chkF e f = 0
  · obtain ⟨E, F, rfl, rfl, hE1, hE2, hF1, hF2⟩ := chk_ok hc
    have HC := Lib.hid hc
    have hE0 : 4 ≤ 2 ^ E := Nat.pow_le_pow_right (n := 2) (by decide) hE1
    have hEs : 2 ^ E ≤ 2048 := Nat.pow_le_pow_right (n := 2) (by decide) hE2
    have hF0 : 2 ≤ 2 ^ F := Nat.pow_le_pow_right (n := 2) (by decide) hF1
    obtain ⟨ME, hME⟩ := pow_m1 E
    obtain ⟨MF, hMF⟩ := pow_m1 F
    obtain ⟨x, hx⟩ : ∃ x, x = 1 := ⟨_, rfl⟩
    obtain ⟨y, hy⟩ : ∃ y, y = 0 := ⟨_, rfl⟩
    have hxl : x < 2 ^ E := by omega
    have hyl : y < 2 ^ F := by omega
    obtain ⟨R, hR⟩ : ∃ R, R = y + x * 2 ^ F + (if neg = true then 2 ^ (F + E) else 0) := ⟨_, rfl⟩
    rw [show knownS (E : Int) (F : Int) neg (1) (0) = (R, 0) from by
      unfold knownS
      rw [if_pos hc]
      simp only [Int.toNat_natCast]
      have hh := join_ok (neg := neg) hxl hyl hR
      rw [hx, hy] at hh
      exact hh]
    have HX := Lib.hid hxl
    have HY := Lib.hid hyl
    have HR := Lib.hid hR
    have HME := Lib.hid hME
    have HMF := Lib.hid hMF
    have hxm : x = 1 := by omega
    have hym : y = 0 := by omega
    have hME3 : 3 ≤ ME := by omega
    have hMEs : ME ≤ 2047 := by omega
    clear hc hx hy hxl hyl hR hME hMF hE0 hEs hF0
    subst hxm hym
    go_enter Try.func24, Try.ntmps24
    go_wp2_with fail
    refine (known_Normal E F _ _ R neg _ hE2 hF2 HC HX HY HR _ ?_).mono ?_
    · intro W hW
      go_enter Try.func56, Try.ntmps56
      go_wp2
      go_ret2
      exact ⟨rfl, (by repeat' (first | (with_reducible assumption) | (with_reducible exact Below.refl _ _) | (with_reducible refine bdn ?_ _) | (with_reducible refine Below.drew ?_) | (with_reducible refine Below.setCell ?_ ?_ _) | (with_reducible refine Below.alloc ?_ ?_ _) | go_size))⟩
    rintro r w1 ⟨rfl, hb1⟩
    go_wp2
    go_ret2
    exact ⟨rfl, ((Below.refl w.heap.size w).alloc (Nat.le_refl _) _).trans (hb1.mono (by simp))⟩
  · rw [known_no hc]
    have HC := Lib.hid (chk_no hc)
    clear hc
    go_enter Try.func24, Try.ntmps24
    go_wp2_with fail
    refine (knownno_Normal e f neg _ HC _).mono ?_
    rintro r w1 ⟨rfl, hb1⟩
    go_wp2
    go_ret2
    exact ⟨rfl, ((Below.refl w.heap.size w).alloc (Nat.le_refl _) _).trans (hb1.mono (by simp))⟩

theorem known_Least (E F x y R : Nat) (neg : Bool) (caps : Array Value) (hE2 : E ≤ 11) (hF2 : F ≤ 52) (HC : Hid (chkF (E : Int) (F : Int) = 0)) (hx : Hid (x < 2 ^ E)) (hy : Hid (y < 2 ^ F)) (hR : Hid (R = y + x * 2 ^ F + (if neg = true then 2 ^ (F + E) else 0))) (w : World)
    (hclo : ∀ W, Below w.heap.size w W → Calls Try.prog 55 caps W fun e w' => e = .returned (.tuple #[.int .u64 (x : Int), .int .u64 (y : Int)]) ∧ Below W.heap.size W w') :
    Calls Try.prog 53 #[.agg #[.int .i64 (E : Int), .int .i64 (F : Int)], .bool neg, .func (Fn.func 55) #[] caps] w (Says w (.tuple #[.int .u64 (R : Int), .int .i64 0])) := by
  go_enter Try.func53, Try.ntmps53
  go_wp2_with fail
  refine (forms_Check _ _ _).mono ?_
  rintro r w1 ⟨rfl, hb1⟩
  rw [HC.out]
  obtain ⟨hc1, hf1⟩ := bcell hb1
  have hbw1 : Below w.heap.size w w1 := Below.trans (b := _) (by repeat' (first | (with_reducible assumption) | (with_reducible exact Below.refl _ _) | (with_reducible refine bdn ?_ _) | (with_reducible refine Below.drew ?_) | (with_reducible refine Below.setCell ?_ ?_ _) | (with_reducible refine Below.alloc ?_ ?_ _) | go_size)) (hb1.mono (by go_size))
  have hz1_0 : w.heap.size < w1.heap.size := by have := hb1.size; simp at this; omega
  go_wp2_with fail
  refine (hclo _ hbw1).mono ?_
  rintro r w2 ⟨rfl, hb2⟩
  have hbw2 := hbw1.trans (hb2.mono hbw1.size)
  have c0 : w2.cell? ⟨w.heap.size, 0, none⟩ = some (.int .i64 (E : Int)) := cell_keep hb2 (by rw [hc1 _ _ (by go_size)]; simp [go_sem])
  have c1 : w2.cell? ⟨w.heap.size, 1, none⟩ = some (.int .i64 (F : Int)) := cell_keep hb2 (by rw [hc1 _ _ (by go_size)]; simp [go_sem])
  have z2 := cell_lt c0
  simp only at z2
  clear hc1 hf1
  go_wp2_with fail
  refine (forms_join E F x y _ _ rfl rfl neg R hE2 hF2 hx.out hy.out hR.out _).mono ?_
  rintro r w3 ⟨rfl, hb3⟩
  go_wp2
  go_ret2
  exact ⟨rfl, hbw2.trans (hb3.mono hbw2.size)⟩
theorem knownno_Least (e f : Int) (neg : Bool) (caps : Array Value) (HC : Hid (chkF e f = 5)) (w : World) :
    Calls Try.prog 53 #[.agg #[.int .i64 e, .int .i64 f], .bool neg, .func (Fn.func 55) #[] caps] w (Says w (.tuple #[.int .u64 0, .int .i64 5])) := by
  go_enter Try.func53, Try.ntmps53
  go_wp2_with fail
  refine (forms_Check _ _ _).mono ?_
  rintro r w1 ⟨rfl, hb1⟩
  rw [HC.out]
  obtain ⟨hc1, hf1⟩ := bcell hb1
  have hbw1 : Below w.heap.size w w1 := Below.trans (b := _) (by repeat' (first | (with_reducible assumption) | (with_reducible exact Below.refl _ _) | (with_reducible refine bdn ?_ _) | (with_reducible refine Below.drew ?_) | (with_reducible refine Below.setCell ?_ ?_ _) | (with_reducible refine Below.alloc ?_ ?_ _) | go_size)) (hb1.mono (by go_size))
  have hz1_0 : w.heap.size < w1.heap.size := by have := hb1.size; simp at this; omega
  go_wp2
  go_ret2
  exact ⟨rfl, hbw1⟩
theorem forms_Least (e f : Int) (neg : Bool) (w : World) :
    Calls Try.prog 23 #[.agg #[.int .i64 e, .int .i64 f], .bool neg] w (Says w (.tuple #[.int .u64 (((knownS e f neg (0) (1)).1 : Nat) : Int), .int .i64 (knownS e f neg (0) (1)).2])) := by
  by_cases hc : chkF e f = 0
  · obtain ⟨E, F, rfl, rfl, hE1, hE2, hF1, hF2⟩ := chk_ok hc
    have HC := Lib.hid hc
    have hE0 : 4 ≤ 2 ^ E := Nat.pow_le_pow_right (n := 2) (by decide) hE1
    have hEs : 2 ^ E ≤ 2048 := Nat.pow_le_pow_right (n := 2) (by decide) hE2
    have hF0 : 2 ≤ 2 ^ F := Nat.pow_le_pow_right (n := 2) (by decide) hF1
    obtain ⟨ME, hME⟩ := pow_m1 E
    obtain ⟨MF, hMF⟩ := pow_m1 F
    obtain ⟨x, hx⟩ : ∃ x, x = 0 := ⟨_, rfl⟩
    obtain ⟨y, hy⟩ : ∃ y, y = 1 := ⟨_, rfl⟩
    have hxl : x < 2 ^ E := by omega
    have hyl : y < 2 ^ F := by omega
    obtain ⟨R, hR⟩ : ∃ R, R = y + x * 2 ^ F + (if neg = true then 2 ^ (F + E) else 0) := ⟨_, rfl⟩
    rw [show knownS (E : Int) (F : Int) neg (0) (1) = (R, 0) from by
      unfold knownS
      rw [if_pos hc]
      simp only [Int.toNat_natCast]
      have hh := join_ok (neg := neg) hxl hyl hR
      rw [hx, hy] at hh
      exact hh]
    have HX := Lib.hid hxl
    have HY := Lib.hid hyl
    have HR := Lib.hid hR
    have HME := Lib.hid hME
    have HMF := Lib.hid hMF
    have hxm : x = 0 := by omega
    have hym : y = 1 := by omega
    have hME3 : 3 ≤ ME := by omega
    have hMEs : ME ≤ 2047 := by omega
    clear hc hx hy hxl hyl hR hME hMF hE0 hEs hF0
    subst hxm hym
    go_enter Try.func23, Try.ntmps23
    go_wp2_with fail
    refine (known_Least E F _ _ R neg _ hE2 hF2 HC HX HY HR _ ?_).mono ?_
    · intro W hW
      go_enter Try.func55, Try.ntmps55
      go_wp2
      go_ret2
      exact ⟨rfl, (by repeat' (first | (with_reducible assumption) | (with_reducible exact Below.refl _ _) | (with_reducible refine bdn ?_ _) | (with_reducible refine Below.drew ?_) | (with_reducible refine Below.setCell ?_ ?_ _) | (with_reducible refine Below.alloc ?_ ?_ _) | go_size))⟩
    rintro r w1 ⟨rfl, hb1⟩
    go_wp2
    go_ret2
    exact ⟨rfl, ((Below.refl w.heap.size w).alloc (Nat.le_refl _) _).trans (hb1.mono (by simp))⟩
  · rw [known_no hc]
    have HC := Lib.hid (chk_no hc)
    clear hc
    go_enter Try.func23, Try.ntmps23
    go_wp2_with fail
    refine (knownno_Least e f neg _ HC _).mono ?_
    rintro r w1 ⟨rfl, hb1⟩
    go_wp2
    go_ret2
    exact ⟨rfl, ((Below.refl w.heap.size w).alloc (Nat.le_refl _) _).trans (hb1.mono (by simp))⟩
end Go.Proofs.Ytmneicbagcimdaa
