/- Forms: the class; known floats. -/
import Derived.Test.YtmneicbagcimdaaFoE
namespace Go.Proofs.Ytmneicbagcimdaa
open Go.RowKit
set_option linter.unusedVariables false
set_option linter.unusedSimpArgs false
set_option maxHeartbeats 4000000
set_option maxRecDepth 100000

def classF (E x y : Nat) : Nat := if x = 0 then (if y = 0 then 1 else 2) else if x + 1 = 2 ^ E then (if y = 0 then 4 else 5) else 3
def classS (e f : Int) (b : Nat) : Nat × Int := if fitS e f b = 0 then (classF e.toNat (splitS e f b).1.2.1 (splitS e f b).1.2.2, 0) else (0, fitS e f b)

theorem forms_Class (e f B : Int) (b : Nat) (hB : B = (b : Int)) (hb64 : b < 18446744073709551616) (w : World) :
    Calls Try.prog 14 #[.agg #[.int .i64 e, .int .i64 f], .int .u64 B] w (Says w (.tuple #[.int .u8 (((classS e f b).1 : Nat) : Int), .int .i64 (classS e f b).2])) := by
  subst hB
  by_cases hc : fitS e f b = 0
  · have HC := Lib.hid hc
    obtain ⟨E, F, rfl, rfl, hE1, hE2, hF1, hF2, hfit⟩ := fit_ok hc
    have hs2 : (splitS (E : Int) (F : Int) b).2 = 0 := by unfold splitS; rw [if_pos hc]
    have hj : classS (E : Int) (F : Int) b = (classF E (splitS (E : Int) (F : Int) b).1.2.1 (splitS (E : Int) (F : Int) b).1.2.2, 0) := by unfold classS; rw [if_pos hc]; rfl
    have hxE : (splitS (E : Int) (F : Int) b).1.2.1 < 2 ^ E := by
      unfold splitS; rw [if_pos hc]; exact Nat.mod_lt _ (Nat.two_pow_pos E)
    have hEs : 2 ^ E ≤ 2048 := Nat.pow_le_pow_right (n := 2) (by decide) hE2
    rw [hj]
    clear hj hc hfit
    have hsp := forms_Split (E : Int) (F : Int) (b : Int) b rfl hb64
    rw [hs2] at hsp
    obtain ⟨⟨ng, X, Y⟩, hp⟩ : ∃ p, p = (splitS (E : Int) (F : Int) b).1 := ⟨_, rfl⟩
    rw [← hp] at hsp hxE ⊢
    have hXb : X < 2048 := by simp only at hxE; omega
    obtain ⟨M, hM⟩ := pow_m1 E
    have HM := Lib.hid hM
    have hwX : IntKind.u64.wrap (X : Int) = (X : Int) := by rw [IntKind.wrap_u64]; omega
    have hcase : (X = 0 ∧ Y = 0) ∨ (X = 0 ∧ Y ≠ 0) ∨ (X ≠ 0 ∧ X = M ∧ Y = 0) ∨ (X ≠ 0 ∧ X = M ∧ Y ≠ 0) ∨ (X ≠ 0 ∧ X ≠ M) := by omega
    have hcl : classF E X Y = if X = 0 then (if Y = 0 then 1 else 2) else if X = M then (if Y = 0 then 4 else 5) else 3 := by
      unfold classF; rw [← hM]; simp only [Nat.add_right_cancel_iff]
    have HCL := Lib.hid hcl
    clear hcl hM hp hs2 hEs hxE
    show Calls Try.prog _ _ w (Says w (.tuple #[.int .u8 ((classF E X Y : Nat) : Int), .int .i64 0]))
    rw [HCL.out]
    rcases hcase with ⟨h1, h2⟩ | ⟨h1, h2⟩ | ⟨h1, h2, h3⟩ | ⟨h1, h2, h3⟩ | ⟨h1, h2⟩
    · subst h1 h2
      rw [if_pos rfl, if_pos rfl]
      go_enter Try.func14, Try.ntmps14
      go_wp2_with fail
      refine (hsp _).mono ?_
      rintro r w1 ⟨rfl, hb1⟩
      obtain ⟨hc1, hf1⟩ := bcell hb1
      have hbw1 : Below w.heap.size w w1 := Below.trans (b := _) (by repeat' (first | (with_reducible assumption) | (with_reducible exact Below.refl _ _) | (with_reducible refine bdn ?_ _) | (with_reducible refine Below.drew ?_) | (with_reducible refine Below.setCell ?_ ?_ _) | (with_reducible refine Below.alloc ?_ ?_ _) | go_size)) (hb1.mono (by go_size))
      have hz1_0 : w.heap.size < w1.heap.size := by have := hb1.size; simp at this; omega
      go_wp2
      go_ret2
      exact ⟨rfl, (by repeat' (first | (with_reducible assumption) | (with_reducible exact Below.refl _ _) | (with_reducible refine bdn ?_ _) | (with_reducible refine Below.drew ?_) | (with_reducible refine Below.setCell ?_ ?_ _) | (with_reducible refine Below.alloc ?_ ?_ _) | go_size))⟩
    · subst h1
      rw [if_pos rfl, if_neg h2]
      have hY : ((Y : Int) == 0) = false := by rw [beq_eq_false_iff_ne]; omega
      go_enter Try.func14, Try.ntmps14
      go_wp2_with fail
      refine (hsp _).mono ?_
      rintro r w1 ⟨rfl, hb1⟩
      obtain ⟨hc1, hf1⟩ := bcell hb1
      have hbw1 : Below w.heap.size w w1 := Below.trans (b := _) (by repeat' (first | (with_reducible assumption) | (with_reducible exact Below.refl _ _) | (with_reducible refine bdn ?_ _) | (with_reducible refine Below.drew ?_) | (with_reducible refine Below.setCell ?_ ?_ _) | (with_reducible refine Below.alloc ?_ ?_ _) | go_size)) (hb1.mono (by go_size))
      have hz1_0 : w.heap.size < w1.heap.size := by have := hb1.size; simp at this; omega
      go_wp2
      go_ret2
      exact ⟨rfl, (by repeat' (first | (with_reducible assumption) | (with_reducible exact Below.refl _ _) | (with_reducible refine bdn ?_ _) | (with_reducible refine Below.drew ?_) | (with_reducible refine Below.setCell ?_ ?_ _) | (with_reducible refine Below.alloc ?_ ?_ _) | go_size))⟩
    · subst h2 h3
      rw [if_neg h1, if_pos rfl, if_pos rfl]
      have hX : ((X : Int) == 0) = false := by rw [beq_eq_false_iff_ne]; omega
      go_enter Try.func14, Try.ntmps14
      go_wp2_with fail
      refine (hsp _).mono ?_
      rintro r w1 ⟨rfl, hb1⟩
      obtain ⟨hc1, hf1⟩ := bcell hb1
      have hbw1 : Below w.heap.size w w1 := Below.trans (b := _) (by repeat' (first | (with_reducible assumption) | (with_reducible exact Below.refl _ _) | (with_reducible refine bdn ?_ _) | (with_reducible refine Below.drew ?_) | (with_reducible refine Below.setCell ?_ ?_ _) | (with_reducible refine Below.alloc ?_ ?_ _) | go_size)) (hb1.mono (by go_size))
      have hz1_0 : w.heap.size < w1.heap.size := by have := hb1.size; simp at this; omega
      go_wp2_with fail
      refine (forms_mask _ E X rfl (by omega) HM.out _).mono ?_
      rintro r w2 ⟨rfl, rfl⟩
      go_wp2
      go_ret2
      exact ⟨rfl, (by repeat' (first | (with_reducible assumption) | (with_reducible exact Below.refl _ _) | (with_reducible refine bdn ?_ _) | (with_reducible refine Below.drew ?_) | (with_reducible refine Below.setCell ?_ ?_ _) | (with_reducible refine Below.alloc ?_ ?_ _) | go_size))⟩
    · subst h2
      rw [if_neg h1, if_pos rfl, if_neg h3]
      have hX : ((X : Int) == 0) = false := by rw [beq_eq_false_iff_ne]; omega
      have hY : ((Y : Int) == 0) = false := by rw [beq_eq_false_iff_ne]; omega
      go_enter Try.func14, Try.ntmps14
      go_wp2_with fail
      refine (hsp _).mono ?_
      rintro r w1 ⟨rfl, hb1⟩
      obtain ⟨hc1, hf1⟩ := bcell hb1
      have hbw1 : Below w.heap.size w w1 := Below.trans (b := _) (by repeat' (first | (with_reducible assumption) | (with_reducible exact Below.refl _ _) | (with_reducible refine bdn ?_ _) | (with_reducible refine Below.drew ?_) | (with_reducible refine Below.setCell ?_ ?_ _) | (with_reducible refine Below.alloc ?_ ?_ _) | go_size)) (hb1.mono (by go_size))
      have hz1_0 : w.heap.size < w1.heap.size := by have := hb1.size; simp at this; omega
      go_wp2_with fail
      refine (forms_mask _ E X rfl (by omega) HM.out _).mono ?_
      rintro r w2 ⟨rfl, rfl⟩
      go_wp2
      go_ret2
      exact ⟨rfl, (by repeat' (first | (with_reducible assumption) | (with_reducible exact Below.refl _ _) | (with_reducible refine bdn ?_ _) | (with_reducible refine Below.drew ?_) | (with_reducible refine Below.setCell ?_ ?_ _) | (with_reducible refine Below.alloc ?_ ?_ _) | go_size))⟩
    · rw [if_neg h1, if_neg h2]
      have hX : ((X : Int) == 0) = false := by rw [beq_eq_false_iff_ne]; omega
      have hXM : ((X : Int) == (M : Int)) = false := by rw [beq_eq_false_iff_ne]; omega
      go_enter Try.func14, Try.ntmps14
      go_wp2_with fail
      refine (hsp _).mono ?_
      rintro r w1 ⟨rfl, hb1⟩
      obtain ⟨hc1, hf1⟩ := bcell hb1
      have hbw1 : Below w.heap.size w w1 := Below.trans (b := _) (by repeat' (first | (with_reducible assumption) | (with_reducible exact Below.refl _ _) | (with_reducible refine bdn ?_ _) | (with_reducible refine Below.drew ?_) | (with_reducible refine Below.setCell ?_ ?_ _) | (with_reducible refine Below.alloc ?_ ?_ _) | go_size)) (hb1.mono (by go_size))
      have hz1_0 : w.heap.size < w1.heap.size := by have := hb1.size; simp at this; omega
      go_wp2_with fail
      refine (forms_mask _ E M rfl (by omega) HM.out _).mono ?_
      rintro r w2 ⟨rfl, rfl⟩
      go_wp2
      go_ret2
      exact ⟨rfl, (by repeat' (first | (with_reducible assumption) | (with_reducible exact Below.refl _ _) | (with_reducible refine bdn ?_ _) | (with_reducible refine Below.drew ?_) | (with_reducible refine Below.setCell ?_ ?_ _) | (with_reducible refine Below.alloc ?_ ?_ _) | go_size))⟩
  · have hne : (fitS e f b != 0) = true := by rw [bne_iff_ne]; exact hc
    have hsp := forms_Split e f (b : Int) b rfl hb64
    rw [show splitS e f b = ((false, 0, 0), fitS e f b) from by unfold splitS; rw [if_neg hc]] at hsp
    rw [show classS e f b = (0, fitS e f b) from by unfold classS; rw [if_neg hc]]
    clear hc
    go_enter Try.func14, Try.ntmps14
    go_wp2_with fail
    refine (hsp _).mono ?_
    rintro r w1 ⟨rfl, hb1⟩
    obtain ⟨hc1, hf1⟩ := bcell hb1
    have hbw1 : Below w.heap.size w w1 := Below.trans (b := _) (by repeat' (first | (with_reducible assumption) | (with_reducible exact Below.refl _ _) | (with_reducible refine bdn ?_ _) | (with_reducible refine Below.drew ?_) | (with_reducible refine Below.setCell ?_ ?_ _) | (with_reducible refine Below.alloc ?_ ?_ _) | go_size)) (hb1.mono (by go_size))
    have hz1_0 : w.heap.size < w1.heap.size := by have := hb1.size; simp at this; omega
    go_wp2
    go_ret2
    exact ⟨rfl, (by repeat' (first | (with_reducible assumption) | (with_reducible exact Below.refl _ _) | (with_reducible refine bdn ?_ _) | (with_reducible refine Below.drew ?_) | (with_reducible refine Below.setCell ?_ ?_ _) | (with_reducible refine Below.alloc ?_ ?_ _) | go_size))⟩

end Go.Proofs.Ytmneicbagcimdaa
