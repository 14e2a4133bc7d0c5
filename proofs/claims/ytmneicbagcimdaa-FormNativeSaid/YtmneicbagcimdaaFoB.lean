/- Forms: the fields put together and taken apart. -/
import Derived.Test.YtmneicbagcimdaaFoA
namespace Go.Proofs.Ytmneicbagcimdaa
open Go.RowKit
set_option linter.unusedVariables false
set_option linter.unusedSimpArgs false
set_option maxHeartbeats 4000000
set_option maxRecDepth 100000

theorem join_lim {e f x y : Nat} (hx : x < 2 ^ e) (hy : y < 2 ^ f) : y + x * 2 ^ f < 2 ^ (f + e) := by
  rw [Nat.pow_add]
  have := Nat.mul_le_mul_right (2 ^ f) (show x + 1 ≤ 2 ^ e from hx)
  rw [Nat.add_mul, Nat.mul_comm (2 ^ e)] at this
  omega
def Lay (W : World) (B e f : Nat) : Prop :=
  W.cell? ⟨B, 0, none⟩ = some (.int .i64 0) ∧ W.cell? ⟨B, 1, none⟩ = some (.int .i64 (f : Int)) ∧ W.cell? ⟨B, 2, none⟩ = some (.int .i64 (f : Int)) ∧ W.cell? ⟨B, 3, none⟩ = some (.int .i64 (e : Int)) ∧
    W.cell? ⟨B, 4, none⟩ = some (.int .i64 ((f : Int) + (e : Int))) ∧ W.cell? ⟨B, 5, none⟩ = some (.int .i64 1)
theorem Lay.keep {W w' : World} {B e f : Nat} (h : Lay W B e f) (hb : Below W.heap.size W w') : Lay w' B e f :=
  ⟨cell_keep hb h.1, cell_keep hb h.2.1, cell_keep hb h.2.2.1, cell_keep hb h.2.2.2.1, cell_keep hb h.2.2.2.2.1, cell_keep hb h.2.2.2.2.2⟩
theorem Lay.new (w : World) (e f : Nat) : Lay (w.alloc (.cells #[.int .i64 0, .int .i64 (f : Int), .int .i64 (f : Int), .int .i64 (e : Int), .int .i64 ((f : Int) + (e : Int)), .int .i64 1] 67)) w.heap.size e f := by
  unfold Lay; simp
theorem Lay.drew {W : World} {B e f : Nat} (h : Lay W B e f) : Lay W.drew B e f := h
theorem forms_join (e f x y : Nat) (X Y : Int) (hX : X = (x : Int)) (hY : Y = (y : Int)) (neg : Bool) (R : Nat) (he : e ≤ 11) (hf : f ≤ 52) (hx : x < 2 ^ e) (hy : y < 2 ^ f) (hR : R = y + x * 2 ^ f + (if neg = true then 2 ^ (f + e) else 0)) (w : World) :
    Calls Try.prog 47 #[.agg #[.int .i64 (e : Int), .int .i64 (f : Int)], .bool neg, .int .u64 X, .int .u64 Y] w (Says w (.int .u64 (R : Int))) := by
  subst hX hY
  have hlim := join_lim hx hy
  obtain ⟨L, hL⟩ : ∃ L, L = y + x * 2 ^ f := ⟨_, rfl⟩
  have hLL : Hid (L < 2 ^ (f + e)) := by rw [hL]; exact hlim
  have HL := Lib.hid hL
  have HX := Lib.hid hx
  have HY := Lib.hid hy
  rw [← hL] at hR
  have HR := Lib.hid hR
  clear hlim hL hx hy hR
  go_enter Try.func47, Try.ntmps47
  go_wp2_with fail
  refine (forms_layout e f he hf _).mono ?_
  rintro r w1 ⟨rfl, hb1⟩
  have hbw1 : Below w.heap.size w w1 := ((Below.refl w.heap.size w).alloc (Nat.le_refl _) _).trans (hb1.mono (by simp))
  go_wp2
  have hL1 := Lay.new w1 e f
  have hbW : Below w.heap.size w (w1.alloc (.cells #[.int .i64 0, .int .i64 (f : Int), .int .i64 (f : Int), .int .i64 (e : Int), .int .i64 ((f : Int) + (e : Int)), .int .i64 1] 67)) := hbw1.alloc hbw1.size _
  generalize (w1.alloc (.cells #[.int .i64 0, .int .i64 (f : Int), .int .i64 (f : Int), .int .i64 (e : Int), .int .i64 ((f : Int) + (e : Int)), .int .i64 1] 67)) = W at *
  generalize w1.heap.size = B at *
  clear hb1 hbw1
  obtain ⟨l0, l1, l2, l3, l4, l5⟩ := hL1
  go_region_held3 (fun w' => w'.cell? ⟨B, 0, none⟩ = some (.int .i64 0) ∧ w'.cell? ⟨B, 1, none⟩ = some (.int .i64 (f : Int)) ∧ w'.cell? ⟨B, 2, none⟩ = some (.int .i64 (f : Int)) ∧ w'.cell? ⟨B, 3, none⟩ = some (.int .i64 (e : Int)) ∧ w'.cell? ⟨B, 4, none⟩ = some (.int .i64 ((f : Int) + (e : Int))) ∧ w'.cell? ⟨B, 5, none⟩ = some (.int .i64 1)) (first | go_keep | exact hk3 | exact hk2)
    (first
     | (go_at_call 61; have hq2 := hk2; refine (forms_put _ _ _ _ f e y x L rfl rfl rfl rfl (by omega) (by omega) (by omega) HY.out HX.out HL.out _).mono ?_; rintro r w3 ⟨rfl, hb3⟩; have hk3 := Lay.keep hk2 hb3; have hbw3 := hbw2.trans (hb3.mono hbw2.size))
     | (go_at_call 61; refine (forms_put _ _ _ _ 0 f 0 y y rfl rfl rfl rfl (by decide) (by omega) (by omega) (by decide) HY.out (by simp) _).mono ?_; rintro r w2 ⟨rfl, hb2⟩; have hk2 := Lay.keep (Lay.drew ⟨l0, l1, l2, l3, l4, l5⟩) hb2; have hbw2 := (Below.drew hbW).trans (hb2.mono hbW.size)))
  all_goals (
    obtain ⟨m0, m1, m2, m3, m4, m5⟩ := hk3
    cases neg
    · have hRL : R = L := by have := HR.out; simpa using this
      subst hRL
      go_wp2
      go_ret
      exact ⟨rfl, hbw3⟩
    · have hRL : R = L + 1 * 2 ^ (f + e) := by have := HR.out; simpa using this
      have HRL := Lib.hid hRL
      clear hRL
      go_wp2_with fail
      refine (forms_put _ _ _ _ (f + e) 1 L 1 R (by omega) rfl rfl rfl (by omega) (by omega) (by omega) hLL.out (by decide) HRL.out _).mono ?_
      rintro r w4 ⟨rfl, hb4⟩
      go_wp2
      go_ret
      exact ⟨rfl, hbw3.trans (hb4.mono hbw3.size)⟩)

def joinF (e f : Nat) (neg : Bool) (x : Int) (y : Nat) : Nat × Int := if x < 0 ∨ 2 ^ e ≤ x.toNat ∨ 2 ^ f ≤ y then (0, 30) else (y + x.toNat * 2 ^ f + (if neg = true then 2 ^ (f + e) else 0), 0)
def joinS (e f : Int) (neg : Bool) (x : Int) (y : Nat) : Nat × Int := if chkF e f = 0 then joinF e.toNat f.toNat neg x y else (0, chkF e f)
theorem chk_ok {e f : Int} (h : chkF e f = 0) : ∃ E F : Nat, e = (E : Int) ∧ f = (F : Int) ∧ 2 ≤ E ∧ E ≤ 11 ∧ 1 ≤ F ∧ F ≤ 52 := by
  unfold chkF at h
  split at h
  · cases h
  · exact ⟨e.toNat, f.toNat, by omega, by omega, by omega, by omega, by omega, by omega⟩
theorem chk_no {e f : Int} (h : ¬ chkF e f = 0) : chkF e f = 5 := by
  unfold chkF at h ⊢
  split at h
  · rw [if_pos (by assumption)]
  · exact absurd rfl h

theorem forms_Join (e f X : Int) (neg : Bool) (Y : Int) (y : Nat) (hY : Y = (y : Int)) (hy64 : y < 18446744073709551616) (hx1 : -9223372036854775808 ≤ X) (hx2 : X ≤ 9223372036854775807) (w : World) :
    Calls Try.prog 10 #[.agg #[.int .i64 e, .int .i64 f], .agg #[.bool neg, .int .i64 X, .int .u64 Y]] w (Says w (.tuple #[.int .u64 (((joinS e f neg X y).1 : Nat) : Int), .int .i64 (joinS e f neg X y).2])) := by
  subst hY
  by_cases hc : chkF e f = 0
  · obtain ⟨E, F, rfl, rfl, hE1, hE2, hF1, hF2⟩ := chk_ok hc
    have HC := Lib.hid hc
    have hj : joinS (E : Int) (F : Int) neg X y = joinF E F neg X y := by unfold joinS; rw [if_pos hc]; rfl
    rw [hj]
    clear hj hc
    obtain ⟨ME, hME⟩ := pow_m1 E
    obtain ⟨MF, hMF⟩ := pow_m1 F
    have HME := Lib.hid hME
    have HMF := Lib.hid hMF
    have hEs := pow_le63 (s := E) (by omega)
    have hcase : X < 0 ∨ (¬ X < 0 ∧ ME < X.toNat) ∨ (¬ X < 0 ∧ ¬ ME < X.toNat ∧ MF < y) ∨ (¬ X < 0 ∧ ¬ ME < X.toNat ∧ ¬ MF < y) := by omega
    rcases hcase with h1 | ⟨h1, h2⟩ | ⟨h1, h2, h3⟩ | ⟨h1, h2, h3⟩
    · rw [show joinF E F neg X y = (0, 30) from by unfold joinF; rw [if_pos (by omega)]]
      clear hME hMF hEs
      go_enter Try.func10, Try.ntmps10
      go_wp2_with fail
      refine (forms_Check _ _ _).mono ?_
      rintro r w1 ⟨rfl, hb1⟩
      rw [HC.out]
      obtain ⟨hc1, hf1⟩ := bcell hb1
      have hbw1 : Below w.heap.size w w1 := Below.trans (b := _) (by repeat' (first | (with_reducible assumption) | (with_reducible exact Below.refl _ _) | (with_reducible refine bdn ?_ _) | (with_reducible refine Below.drew ?_) | (with_reducible refine Below.setCell ?_ ?_ _) | (with_reducible refine Below.alloc ?_ ?_ _) | go_size)) (hb1.mono (by go_size))
      have hz1_0 : w.heap.size < w1.heap.size := by have := hb1.size; simp at this; omega
      have hz1_1 : w.heap.size + 1 < w1.heap.size := by have := hb1.size; simp at this; omega
      go_wp2
      go_quiet (fail)
      go_wp2
      go_ret2
      exact ⟨rfl, (by repeat' (first | (with_reducible assumption) | (with_reducible exact Below.refl _ _) | (with_reducible refine bdn ?_ _) | (with_reducible refine Below.drew ?_) | (with_reducible refine Below.setCell ?_ ?_ _) | (with_reducible refine Below.alloc ?_ ?_ _) | go_size))⟩
    all_goals (
      obtain ⟨x, rfl⟩ : ∃ x : Nat, X = (x : Int) := ⟨X.toNat, by omega⟩
      rw [Int.toNat_natCast] at h2
      have hx0 : (0 : Int) ≤ (x : Int) := by omega
      have hwx : IntKind.u64.wrap (x : Int) = (x : Int) := by rw [IntKind.wrap_u64]; omega
      have hd0 : decide ((x : Int) < 0) = false := by rw [decide_eq_false_iff_not]; omega)
    · rw [show joinF E F neg (x : Int) y = (0, 30) from by unfold joinF; rw [if_pos (by rw [Int.toNat_natCast]; omega)]]
      have hd1 : decide ((ME : Int) < (x : Int)) = true := by rw [decide_eq_true_iff]; omega
      clear hME hMF hEs
      go_enter Try.func10, Try.ntmps10
      go_wp2_with fail
      refine (forms_Check _ _ _).mono ?_
      rintro r w1 ⟨rfl, hb1⟩
      rw [HC.out]
      obtain ⟨hc1, hf1⟩ := bcell hb1
      have hbw1 : Below w.heap.size w w1 := Below.trans (b := _) (by repeat' (first | (with_reducible assumption) | (with_reducible exact Below.refl _ _) | (with_reducible refine bdn ?_ _) | (with_reducible refine Below.drew ?_) | (with_reducible refine Below.setCell ?_ ?_ _) | (with_reducible refine Below.alloc ?_ ?_ _) | go_size)) (hb1.mono (by go_size))
      have hz1_0 : w.heap.size < w1.heap.size := by have := hb1.size; simp at this; omega
      have hz1_1 : w.heap.size + 1 < w1.heap.size := by have := hb1.size; simp at this; omega
      go_wp2
      go_quiet ((go_at_call 46; first | with_reducible exact quiet_left (forms_mask (E : Int) E ME rfl (by omega) HME.out _) | with_reducible exact quiet_add_left (forms_mask (E : Int) E ME rfl (by omega) HME.out _) | with_reducible exact quiet_left (forms_mask (F : Int) F MF rfl (by omega) HMF.out _) | with_reducible exact quiet_add_left (forms_mask (F : Int) F MF rfl (by omega) HMF.out _)))
      go_wp2
      go_ret2
      exact ⟨rfl, (by repeat' (first | (with_reducible assumption) | (with_reducible exact Below.refl _ _) | (with_reducible refine bdn ?_ _) | (with_reducible refine Below.drew ?_) | (with_reducible refine Below.setCell ?_ ?_ _) | (with_reducible refine Below.alloc ?_ ?_ _) | go_size))⟩
    · rw [show joinF E F neg (x : Int) y = (0, 30) from by unfold joinF; rw [if_pos (by rw [Int.toNat_natCast]; omega)]]
      have hd1 : decide ((ME : Int) < (x : Int)) = false := by rw [decide_eq_false_iff_not]; omega
      have hd2 : decide ((MF : Int) < (y : Int)) = true := by rw [decide_eq_true_iff]; omega
      clear hME hMF hEs
      go_enter Try.func10, Try.ntmps10
      go_wp2_with fail
      refine (forms_Check _ _ _).mono ?_
      rintro r w1 ⟨rfl, hb1⟩
      rw [HC.out]
      obtain ⟨hc1, hf1⟩ := bcell hb1
      have hbw1 : Below w.heap.size w w1 := Below.trans (b := _) (by repeat' (first | (with_reducible assumption) | (with_reducible exact Below.refl _ _) | (with_reducible refine bdn ?_ _) | (with_reducible refine Below.drew ?_) | (with_reducible refine Below.setCell ?_ ?_ _) | (with_reducible refine Below.alloc ?_ ?_ _) | go_size)) (hb1.mono (by go_size))
      have hz1_0 : w.heap.size < w1.heap.size := by have := hb1.size; simp at this; omega
      have hz1_1 : w.heap.size + 1 < w1.heap.size := by have := hb1.size; simp at this; omega
      go_wp2
      go_quiet ((go_at_call 46; first | with_reducible exact quiet_left (forms_mask (E : Int) E ME rfl (by omega) HME.out _) | with_reducible exact quiet_add_left (forms_mask (E : Int) E ME rfl (by omega) HME.out _) | with_reducible exact quiet_left (forms_mask (F : Int) F MF rfl (by omega) HMF.out _) | with_reducible exact quiet_add_left (forms_mask (F : Int) F MF rfl (by omega) HMF.out _)))
      go_wp2
      go_ret2
      exact ⟨rfl, (by repeat' (first | (with_reducible assumption) | (with_reducible exact Below.refl _ _) | (with_reducible refine bdn ?_ _) | (with_reducible refine Below.drew ?_) | (with_reducible refine Below.setCell ?_ ?_ _) | (with_reducible refine Below.alloc ?_ ?_ _) | go_size))⟩
    · obtain ⟨R, hR⟩ : ∃ R, R = y + x * 2 ^ F + (if neg = true then 2 ^ (F + E) else 0) := ⟨_, rfl⟩
      rw [show joinF E F neg (x : Int) y = (R, 0) from by unfold joinF; rw [if_neg (by rw [Int.toNat_natCast]; omega), Int.toNat_natCast, hR]]
      have HXL : Hid (x < 2 ^ E) := by show x < 2 ^ E; omega
      have HYL : Hid (y < 2 ^ F) := by show y < 2 ^ F; omega
      have HR := Lib.hid hR
      have hd1 : decide ((ME : Int) < (x : Int)) = false := by rw [decide_eq_false_iff_not]; omega
      have hd2 : decide ((MF : Int) < (y : Int)) = false := by rw [decide_eq_false_iff_not]; omega
      clear hME hMF hEs hR
      go_enter Try.func10, Try.ntmps10
      go_wp2_with fail
      refine (forms_Check _ _ _).mono ?_
      rintro r w1 ⟨rfl, hb1⟩
      rw [HC.out]
      obtain ⟨hc1, hf1⟩ := bcell hb1
      have hbw1 : Below w.heap.size w w1 := Below.trans (b := _) (by repeat' (first | (with_reducible assumption) | (with_reducible exact Below.refl _ _) | (with_reducible refine bdn ?_ _) | (with_reducible refine Below.drew ?_) | (with_reducible refine Below.setCell ?_ ?_ _) | (with_reducible refine Below.alloc ?_ ?_ _) | go_size)) (hb1.mono (by go_size))
      have hz1_0 : w.heap.size < w1.heap.size := by have := hb1.size; simp at this; omega
      have hz1_1 : w.heap.size + 1 < w1.heap.size := by have := hb1.size; simp at this; omega
      go_wp2
      go_quiet ((go_at_call 46; first | with_reducible exact quiet_left (forms_mask (E : Int) E ME rfl (by omega) HME.out _) | with_reducible exact quiet_add_left (forms_mask (E : Int) E ME rfl (by omega) HME.out _) | with_reducible exact quiet_left (forms_mask (F : Int) F MF rfl (by omega) HMF.out _) | with_reducible exact quiet_add_left (forms_mask (F : Int) F MF rfl (by omega) HMF.out _)))
      go_wp2_with fail
      refine (forms_join E F x y _ _ rfl rfl neg R hE2 hF2 HXL.out HYL.out HR.out _).mono ?_
      rintro r w3 ⟨rfl, hb3⟩
      go_wp2
      go_ret2
      exact ⟨rfl, Below.trans (b := _) (by repeat' (first | (with_reducible assumption) | (with_reducible exact Below.refl _ _) | (with_reducible refine bdn ?_ _) | (with_reducible refine Below.drew ?_) | (with_reducible refine Below.setCell ?_ ?_ _) | (with_reducible refine Below.alloc ?_ ?_ _) | go_size)) (hb3.mono (by go_size))⟩
  · rw [show joinS e f neg X y = (0, 5) from by unfold joinS; rw [if_neg hc, chk_no hc]]
    have HC := Lib.hid (chk_no hc)
    clear hc
    go_enter Try.func10, Try.ntmps10
    go_wp2_with fail
    refine (forms_Check _ _ _).mono ?_
    rintro r w1 ⟨rfl, hb1⟩
    rw [HC.out]
    obtain ⟨hc1, hf1⟩ := bcell hb1
    have hbw1 : Below w.heap.size w w1 := Below.trans (b := _) (by repeat' (first | (with_reducible assumption) | (with_reducible exact Below.refl _ _) | (with_reducible refine bdn ?_ _) | (with_reducible refine Below.drew ?_) | (with_reducible refine Below.setCell ?_ ?_ _) | (with_reducible refine Below.alloc ?_ ?_ _) | go_size)) (hb1.mono (by go_size))
    have hz1_0 : w.heap.size < w1.heap.size := by have := hb1.size; simp at this; omega
    have hz1_1 : w.heap.size + 1 < w1.heap.size := by have := hb1.size; simp at this; omega
    go_wp2
    go_ret2
    exact ⟨rfl, hbw1⟩
end Go.Proofs.Ytmneicbagcimdaa
