/- Forms: the document's Class; Payload of both. -/
import Derived.Test.YtmneicbagcimdaaFoP
namespace Go.Proofs.Ytmneicbagcimdaa
open Go.RowKit
set_option linter.unusedVariables false
set_option linter.unusedSimpArgs false
set_option maxHeartbeats 4000000
set_option maxRecDepth 100000

theorem class_nat {e f : Int} {b : Nat} (h : fitS e f b ≠ 0) : classS e f b = (0, fitS e f b) := by unfold classS; rw [if_neg h]
theorem ref_Class (e f B : Int) (b : Nat) (hB : B = (b : Int)) (hb64 : b < 18446744073709551616) (w : World) :
    Calls Try.prog 16 #[.agg #[.int .i64 e, .int .i64 f], .int .u64 B] w (Says w (.tuple #[.int .u8 (((classS e f b).1 : Nat) : Int), .int .i64 (classS e f b).2])) := by
  subst hB
  by_cases hc : fitS e f b = 0
  · have HC := Lib.hid hc
    obtain ⟨E, F, rfl, rfl, hE1, hE2, hF1, hF2, hfit⟩ := fit_ok hc
    have hs2 : (splitS (E : Int) (F : Int) b).2 = 0 := by unfold splitS; rw [if_pos hc]
    have hj : classS (E : Int) (F : Int) b = (classF E (splitS (E : Int) (F : Int) b).1.2.1 (splitS (E : Int) (F : Int) b).1.2.2, 0) := by unfold classS; rw [if_pos hc]; rfl
    have hxE : (splitS (E : Int) (F : Int) b).1.2.1 < 2 ^ E := by
      unfold splitS; rw [if_pos hc]; exact Nat.mod_lt _ (Nat.two_pow_pos E)
    have hEs : 2 ^ E ≤ 2048 := Nat.pow_le_pow_right (n := 2) (by decide) hE2
    rw [hj]
    clear hj hc hfit
    have hsp := ref_Split (E : Int) (F : Int) (b : Int) b rfl hb64
    rw [hs2] at hsp
    obtain ⟨⟨ng, X, Y⟩, hp⟩ : ∃ p, p = (splitS (E : Int) (F : Int) b).1 := ⟨_, rfl⟩
    rw [← hp] at hsp hxE ⊢
    have hXb : X < 2048 := by simp only at hxE; omega
    obtain ⟨M, hM⟩ := pow_m1 E
    have HM := Lib.hid hM
    have hXM : X ≤ M := by simp only at hxE; omega
    have hcase : (X = 0 ∧ Y = 0) ∨ (X = 0 ∧ Y ≠ 0) ∨ (X ≠ 0 ∧ X = M ∧ Y = 0) ∨ (X ≠ 0 ∧ X = M ∧ Y ≠ 0) ∨ (X ≠ 0 ∧ X < M) := by omega
    have hcl : classF E X Y = if X = 0 then (if Y = 0 then 1 else 2) else if X = M then (if Y = 0 then 4 else 5) else 3 := by
      unfold classF; rw [← hM]; simp only [Nat.add_right_cancel_iff]
    have HCL := Lib.hid hcl
    clear hcl hM hp hs2 hEs hxE
    show Calls Try.prog _ _ w (Says w (.tuple #[.int .u8 ((classF E X Y : Nat) : Int), .int .i64 0]))
    rw [HCL.out]
    rcases hcase with ⟨h1, h2⟩ | ⟨h1, h2⟩ | ⟨h1, h2, h3⟩ | ⟨h1, h2, h3⟩ | ⟨h1, h2⟩
    · subst h1 h2
      rw [if_pos rfl, if_pos rfl]
      go_enter Try.func16, Try.ntmps16
      go_wp2_with fail
      refine (hsp _).mono ?_
      rintro r w1 ⟨rfl, hb1⟩
      obtain ⟨hc1, hf1⟩ := bcell hb1
      have hbw1 : Below w.heap.size w w1 := Below.trans (b := _) (by repeat' (first | (with_reducible assumption) | (with_reducible exact Below.refl _ _) | (with_reducible refine bdn ?_ _) | (with_reducible refine Below.drew ?_) | (with_reducible refine Below.setCell ?_ ?_ _) | (with_reducible refine Below.alloc ?_ ?_ _) | go_size)) (hb1.mono (by go_size))
      have hz1_0 : w.heap.size < w1.heap.size := by have := hb1.size; simp at this; omega
      go_wp2
      go_ret2
      exact ⟨rfl, (by repeat' (first | (with_reducible assumption) | (with_reducible exact Below.refl _ _) | (with_reducible refine bdn ?_ _) | (with_reducible refine Below.drew ?_) | (with_reducible refine Below.setCell ?_ ?_ _) | (with_reducible refine Below.alloc ?_ ?_ _) | go_size))⟩
    · subst h1
      rw [if_pos rfl, if_neg h2]
      have hY : ((Y : Int) == 0) = false := by rw [beq_eq_false_iff_ne]; omega
      go_enter Try.func16, Try.ntmps16
      go_wp2_with fail
      refine (hsp _).mono ?_
      rintro r w1 ⟨rfl, hb1⟩
      obtain ⟨hc1, hf1⟩ := bcell hb1
      have hbw1 : Below w.heap.size w w1 := Below.trans (b := _) (by repeat' (first | (with_reducible assumption) | (with_reducible exact Below.refl _ _) | (with_reducible refine bdn ?_ _) | (with_reducible refine Below.drew ?_) | (with_reducible refine Below.setCell ?_ ?_ _) | (with_reducible refine Below.alloc ?_ ?_ _) | go_size)) (hb1.mono (by go_size))
      have hz1_0 : w.heap.size < w1.heap.size := by have := hb1.size; simp at this; omega
      go_wp2
      go_ret2
      exact ⟨rfl, (by repeat' (first | (with_reducible assumption) | (with_reducible exact Below.refl _ _) | (with_reducible refine bdn ?_ _) | (with_reducible refine Below.drew ?_) | (with_reducible refine Below.setCell ?_ ?_ _) | (with_reducible refine Below.alloc ?_ ?_ _) | go_size))⟩
    all_goals (
      have hX : ((X : Int) == 0) = false := by rw [beq_eq_false_iff_ne]; omega
      have hXn : ¬ X = 0 := h1)
    · subst h2
      rw [if_neg h1, if_pos rfl, if_pos h3]
      subst h3
      go_enter Try.func16, Try.ntmps16
      go_wp2_with fail
      refine (hsp _).mono ?_
      rintro r w1 ⟨rfl, hb1⟩
      obtain ⟨hc1, hf1⟩ := bcell hb1
      have hbw1 : Below w.heap.size w w1 := Below.trans (b := _) (by repeat' (first | (with_reducible assumption) | (with_reducible exact Below.refl _ _) | (with_reducible refine bdn ?_ _) | (with_reducible refine Below.drew ?_) | (with_reducible refine Below.setCell ?_ ?_ _) | (with_reducible refine Below.alloc ?_ ?_ _) | go_size)) (hb1.mono (by go_size))
      have hz1_0 : w.heap.size < w1.heap.size := by have := hb1.size; simp at this; omega
      have c0 : (w1.alloc (.cells #[.bool ng, .int .i64 (X : Int), .int .u64 (0 : Int)] 26)).cell? ⟨w.heap.size, 0, none⟩ = some (.int .i64 (E : Int)) := by rw [World.cell?_alloc_lt _ _ _ hz1_0, hc1 _ _ (by go_size)]; simp [go_sem]
      have c1 : (w1.alloc (.cells #[.bool ng, .int .i64 (X : Int), .int .u64 (0 : Int)] 26)).cell? ⟨w.heap.size, 1, none⟩ = some (.int .i64 (F : Int)) := by rw [World.cell?_alloc_lt _ _ _ hz1_0, hc1 _ _ (by go_size)]; simp [go_sem]
      have p1 : (w1.alloc (.cells #[.bool ng, .int .i64 (X : Int), .int .u64 (0 : Int)] 26)).cell? ⟨w1.heap.size, 1, none⟩ = some (.int .i64 (X : Int)) := by simp
      have p2 : (w1.alloc (.cells #[.bool ng, .int .i64 (X : Int), .int .u64 (0 : Int)] 26)).cell? ⟨w1.heap.size, 2, none⟩ = some (.int .u64 (0 : Int)) := by simp
      have hbW : Below w.heap.size w (w1.alloc (.cells #[.bool ng, .int .i64 (X : Int), .int .u64 (0 : Int)] 26)) := hbw1.alloc hbw1.size _
      go_wp2
      clear hb1 hc1 hf1
      generalize (w1.alloc (.cells #[.bool ng, .int .i64 (X : Int), .int .u64 (0 : Int)] 26)) = W at *
      generalize w1.heap.size = Bk at *
      go_region_held3 (fun w' => w'.cell? ⟨w.heap.size, 0, none⟩ = some (.int .i64 (E : Int)) ∧ w'.cell? ⟨w.heap.size, 1, none⟩ = some (.int .i64 (F : Int)) ∧ w'.cell? ⟨Bk, 1, none⟩ = some (.int .i64 (X : Int)) ∧ w'.cell? ⟨Bk, 2, none⟩ = some (.int .u64 (0 : Int))) (first | exact ⟨k0, k1, k2, k3⟩ | go_keep)
        ((go_at_call 48; refine (ref_Top E F X hE2 HM.out _).mono ?_; rintro r w4 ⟨rfl, hb4⟩; have k0 := cell_keep hb4 c0; have k1 := cell_keep hb4 c1; have k2 := cell_keep hb4 p1; have k3 := cell_keep hb4 p2; have hbw4 := (Below.drew hbW).trans (hb4.mono hbW.size)))
      all_goals (
        go_wp2
        go_ret2
        exact ⟨rfl, hbw4⟩)
    · subst h2
      rw [if_neg h1, if_pos rfl, if_neg h3]
      have hY : ((Y : Int) == 0) = false := by rw [beq_eq_false_iff_ne]; omega
      go_enter Try.func16, Try.ntmps16
      go_wp2_with fail
      refine (hsp _).mono ?_
      rintro r w1 ⟨rfl, hb1⟩
      obtain ⟨hc1, hf1⟩ := bcell hb1
      have hbw1 : Below w.heap.size w w1 := Below.trans (b := _) (by repeat' (first | (with_reducible assumption) | (with_reducible exact Below.refl _ _) | (with_reducible refine bdn ?_ _) | (with_reducible refine Below.drew ?_) | (with_reducible refine Below.setCell ?_ ?_ _) | (with_reducible refine Below.alloc ?_ ?_ _) | go_size)) (hb1.mono (by go_size))
      have hz1_0 : w.heap.size < w1.heap.size := by have := hb1.size; simp at this; omega
      have c0 : (w1.alloc (.cells #[.bool ng, .int .i64 (X : Int), .int .u64 (Y : Int)] 26)).cell? ⟨w.heap.size, 0, none⟩ = some (.int .i64 (E : Int)) := by rw [World.cell?_alloc_lt _ _ _ hz1_0, hc1 _ _ (by go_size)]; simp [go_sem]
      have c1 : (w1.alloc (.cells #[.bool ng, .int .i64 (X : Int), .int .u64 (Y : Int)] 26)).cell? ⟨w.heap.size, 1, none⟩ = some (.int .i64 (F : Int)) := by rw [World.cell?_alloc_lt _ _ _ hz1_0, hc1 _ _ (by go_size)]; simp [go_sem]
      have p1 : (w1.alloc (.cells #[.bool ng, .int .i64 (X : Int), .int .u64 (Y : Int)] 26)).cell? ⟨w1.heap.size, 1, none⟩ = some (.int .i64 (X : Int)) := by simp
      have p2 : (w1.alloc (.cells #[.bool ng, .int .i64 (X : Int), .int .u64 (Y : Int)] 26)).cell? ⟨w1.heap.size, 2, none⟩ = some (.int .u64 (Y : Int)) := by simp
      have hbW : Below w.heap.size w (w1.alloc (.cells #[.bool ng, .int .i64 (X : Int), .int .u64 (Y : Int)] 26)) := hbw1.alloc hbw1.size _
      go_wp2
      clear hb1 hc1 hf1
      generalize (w1.alloc (.cells #[.bool ng, .int .i64 (X : Int), .int .u64 (Y : Int)] 26)) = W at *
      generalize w1.heap.size = Bk at *
      go_region_held3 (fun w' => w'.cell? ⟨w.heap.size, 0, none⟩ = some (.int .i64 (E : Int)) ∧ w'.cell? ⟨w.heap.size, 1, none⟩ = some (.int .i64 (F : Int)) ∧ w'.cell? ⟨Bk, 1, none⟩ = some (.int .i64 (X : Int)) ∧ w'.cell? ⟨Bk, 2, none⟩ = some (.int .u64 (Y : Int))) (first | exact ⟨k0, k1, k2, k3⟩ | go_keep)
        ((go_at_call 48; refine (ref_Top E F X hE2 HM.out _).mono ?_; rintro r w4 ⟨rfl, hb4⟩; have k0 := cell_keep hb4 c0; have k1 := cell_keep hb4 c1; have k2 := cell_keep hb4 p1; have k3 := cell_keep hb4 p2; have hbw4 := (Below.drew hbW).trans (hb4.mono hbW.size)))
      all_goals (
        go_wp2
        go_ret2
        exact ⟨rfl, hbw4⟩)
    · rw [if_neg h1, if_neg (by omega)]
      have hlt : decide ((X : Int) < (M : Int)) = true := by rw [decide_eq_true_iff]; omega
      go_enter Try.func16, Try.ntmps16
      go_wp2_with fail
      refine (hsp _).mono ?_
      rintro r w1 ⟨rfl, hb1⟩
      obtain ⟨hc1, hf1⟩ := bcell hb1
      have hbw1 : Below w.heap.size w w1 := Below.trans (b := _) (by repeat' (first | (with_reducible assumption) | (with_reducible exact Below.refl _ _) | (with_reducible refine bdn ?_ _) | (with_reducible refine Below.drew ?_) | (with_reducible refine Below.setCell ?_ ?_ _) | (with_reducible refine Below.alloc ?_ ?_ _) | go_size)) (hb1.mono (by go_size))
      have hz1_0 : w.heap.size < w1.heap.size := by have := hb1.size; simp at this; omega
      have c0 : (w1.alloc (.cells #[.bool ng, .int .i64 (X : Int), .int .u64 (Y : Int)] 26)).cell? ⟨w.heap.size, 0, none⟩ = some (.int .i64 (E : Int)) := by rw [World.cell?_alloc_lt _ _ _ hz1_0, hc1 _ _ (by go_size)]; simp [go_sem]
      have c1 : (w1.alloc (.cells #[.bool ng, .int .i64 (X : Int), .int .u64 (Y : Int)] 26)).cell? ⟨w.heap.size, 1, none⟩ = some (.int .i64 (F : Int)) := by rw [World.cell?_alloc_lt _ _ _ hz1_0, hc1 _ _ (by go_size)]; simp [go_sem]
      have p1 : (w1.alloc (.cells #[.bool ng, .int .i64 (X : Int), .int .u64 (Y : Int)] 26)).cell? ⟨w1.heap.size, 1, none⟩ = some (.int .i64 (X : Int)) := by simp
      have p2 : (w1.alloc (.cells #[.bool ng, .int .i64 (X : Int), .int .u64 (Y : Int)] 26)).cell? ⟨w1.heap.size, 2, none⟩ = some (.int .u64 (Y : Int)) := by simp
      have hbW : Below w.heap.size w (w1.alloc (.cells #[.bool ng, .int .i64 (X : Int), .int .u64 (Y : Int)] 26)) := hbw1.alloc hbw1.size _
      go_wp2
      clear hb1 hc1 hf1
      generalize (w1.alloc (.cells #[.bool ng, .int .i64 (X : Int), .int .u64 (Y : Int)] 26)) = W at *
      generalize w1.heap.size = Bk at *
      go_region_held3 (fun w' => w'.cell? ⟨w.heap.size, 0, none⟩ = some (.int .i64 (E : Int)) ∧ w'.cell? ⟨w.heap.size, 1, none⟩ = some (.int .i64 (F : Int)) ∧ w'.cell? ⟨Bk, 1, none⟩ = some (.int .i64 (X : Int)) ∧ w'.cell? ⟨Bk, 2, none⟩ = some (.int .u64 (Y : Int))) (first | exact ⟨k0, k1, k2, k3⟩ | go_keep)
        ((go_at_call 48; refine (ref_Top E F M hE2 HM.out _).mono ?_; rintro r w4 ⟨rfl, hb4⟩; have k0 := cell_keep hb4 c0; have k1 := cell_keep hb4 c1; have k2 := cell_keep hb4 p1; have k3 := cell_keep hb4 p2; have hbw4 := (Below.drew hbW).trans (hb4.mono hbW.size)))
      all_goals (
        go_wp2
        go_ret2
        exact ⟨rfl, hbw4⟩)
  · have hne : (fitS e f b != 0) = true := by rw [bne_iff_ne]; exact hc
    have hsp := ref_Split e f (b : Int) b rfl hb64
    rw [show splitS e f b = ((false, 0, 0), fitS e f b) from by unfold splitS; rw [if_neg hc]] at hsp
    rw [show classS e f b = (0, fitS e f b) from by unfold classS; rw [if_neg hc]]
    clear hc
    go_enter Try.func16, Try.ntmps16
    go_wp2_with fail
    refine (hsp _).mono ?_
    rintro r w1 ⟨rfl, hb1⟩
    obtain ⟨hc1, hf1⟩ := bcell hb1
    have hbw1 : Below w.heap.size w w1 := Below.trans (b := _) (by repeat' (first | (with_reducible assumption) | (with_reducible exact Below.refl _ _) | (with_reducible refine bdn ?_ _) | (with_reducible refine Below.drew ?_) | (with_reducible refine Below.setCell ?_ ?_ _) | (with_reducible refine Below.alloc ?_ ?_ _) | go_size)) (hb1.mono (by go_size))
    have hz1_0 : w.heap.size < w1.heap.size := by have := hb1.size; simp at this; omega
    go_wp2
    go_ret2
    exact ⟨rfl, (by repeat' (first | (with_reducible assumption) | (with_reducible exact Below.refl _ _) | (with_reducible refine bdn ?_ _) | (with_reducible refine Below.drew ?_) | (with_reducible refine Below.setCell ?_ ?_ _) | (with_reducible refine Below.alloc ?_ ?_ _) | go_size))⟩

def payF (F y : Nat) : Nat × Bool := (y % 2 ^ (F - 1), decide (2 ^ (F - 1) ≤ y))
def payS (e f : Int) (b : Nat) : (Nat × Bool) × Int := if fitS e f b = 0 then (if (classS e f b).1 = 5 then (payF f.toNat (b % 2 ^ f.toNat), 0) else ((0, false), 2)) else ((0, false), fitS e f b)
theorem class_err {e f : Int} {b : Nat} (h : fitS e f b = 0) : (classS e f b).2 = 0 := by unfold classS; rw [if_pos h]
theorem forms_Payload (e f B : Int) (b : Nat) (hB : B = (b : Int)) (hb64 : b < 18446744073709551616) (w : World) :
    Calls Try.prog 17 #[.agg #[.int .i64 e, .int .i64 f], .int .u64 B] w (Says w (.tuple #[.int .u64 (((payS e f b).1.1 : Nat) : Int), .bool (payS e f b).1.2, .int .i64 (payS e f b).2])) := by
  subst hB
  have hcl := forms_Class e f (b : Int) b rfl hb64
  by_cases hc : fitS e f b = 0
  · by_cases h5 : (classS e f b).1 = 5
    · rw [class_err hc, h5] at hcl
      obtain ⟨E, F, rfl, rfl, hE1, hE2, hF1, hF2, hfit⟩ := fit_ok hc
      rw [show payS (E : Int) (F : Int) b = (payF F (b % 2 ^ F), 0) from by unfold payS; rw [if_pos hc, if_pos h5]; rfl]
      clear hc h5 hfit
      obtain ⟨MF, hMF⟩ := pow_m1 F
      obtain ⟨MH, hMH⟩ := pow_m1 (F - 1)
      have HMF := Lib.hid hMF
      have HMH := Lib.hid hMH
      obtain ⟨y, hy⟩ : ∃ y, y = b % 2 ^ F := ⟨_, rfl⟩
      have hy64 : y < 18446744073709551616 := by rw [hy]; exact Nat.lt_of_le_of_lt (Nat.mod_le _ _) hb64
      obtain ⟨n, hn⟩ : ∃ n, n = y % 2 ^ (F - 1) := ⟨_, rfl⟩
      have a1 : bits BinOp.and IntKind.u64 (b : Int) (MF : Int) = (y : Int) := by rw [and_mask b F MF hMF (by omega) hb64, hy]
      have a2 : bits BinOp.and IntKind.u64 (y : Int) (MH : Int) = (n : Int) := by rw [and_mask y (F - 1) MH hMH (by omega) hy64, hn]
      have hp : payF F y = (n, ((y : Int) != (n : Int))) := by
        unfold payF
        rw [hn]
        congr 1
        by_cases h : 2 ^ (F - 1) ≤ y
        · rw [decide_eq_true h]
          have := Nat.mod_lt y (Nat.two_pow_pos (F - 1))
          symm; rw [bne_iff_ne]; omega
        · rw [decide_eq_false h, Nat.mod_eq_of_lt (by omega)]; simp
      rw [← hy, hp]
      clear hy hn hp hMF hMH
      go_enter Try.func17, Try.ntmps17
      go_wp2_with fail
      refine (hcl _).mono ?_
      rintro r w1 ⟨rfl, hb1⟩
      obtain ⟨hc1, hf1⟩ := bcell hb1
      have hbw1 : Below w.heap.size w w1 := Below.trans (b := _) (by repeat' (first | (with_reducible assumption) | (with_reducible exact Below.refl _ _) | (with_reducible refine bdn ?_ _) | (with_reducible refine Below.drew ?_) | (with_reducible refine Below.setCell ?_ ?_ _) | (with_reducible refine Below.alloc ?_ ?_ _) | go_size)) (hb1.mono (by go_size))
      have hz1_0 : w.heap.size < w1.heap.size := by have := hb1.size; simp at this; omega
      go_wp2_with fail
      refine (forms_mask _ F MF rfl (by omega) HMF.out _).mono ?_
      rintro r w2 ⟨rfl, rfl⟩
      go_wp2_with fail
      refine (forms_mask _ (F - 1) MH (by omega) (by omega) HMH.out _).mono ?_
      rintro r w3 ⟨rfl, rfl⟩
      go_wp2
      go_ret3
      exact ⟨rfl, (by repeat' (first | (with_reducible assumption) | (with_reducible exact Below.refl _ _) | (with_reducible refine bdn ?_ _) | (with_reducible refine Below.drew ?_) | (with_reducible refine Below.setCell ?_ ?_ _) | (with_reducible refine Below.alloc ?_ ?_ _) | go_size))⟩
    · rw [class_err hc] at hcl
      rw [show payS e f b = ((0, false), 2) from by unfold payS; rw [if_pos hc, if_neg h5]]
      obtain ⟨c, hcc⟩ : ∃ c, c = (classS e f b).1 := ⟨_, rfl⟩
      rw [← hcc] at h5 hcl
      have hne : ((c : Int) != 5) = true := by rw [bne_iff_ne]; omega
      clear hcc hc
      go_enter Try.func17, Try.ntmps17
      go_wp2_with fail
      refine (hcl _).mono ?_
      rintro r w1 ⟨rfl, hb1⟩
      obtain ⟨hc1, hf1⟩ := bcell hb1
      have hbw1 : Below w.heap.size w w1 := Below.trans (b := _) (by repeat' (first | (with_reducible assumption) | (with_reducible exact Below.refl _ _) | (with_reducible refine bdn ?_ _) | (with_reducible refine Below.drew ?_) | (with_reducible refine Below.setCell ?_ ?_ _) | (with_reducible refine Below.alloc ?_ ?_ _) | go_size)) (hb1.mono (by go_size))
      have hz1_0 : w.heap.size < w1.heap.size := by have := hb1.size; simp at this; omega
      go_wp2
      go_ret3
      exact ⟨rfl, (by repeat' (first | (with_reducible assumption) | (with_reducible exact Below.refl _ _) | (with_reducible refine bdn ?_ _) | (with_reducible refine Below.drew ?_) | (with_reducible refine Below.setCell ?_ ?_ _) | (with_reducible refine Below.alloc ?_ ?_ _) | go_size))⟩
  · rw [show payS e f b = ((0, false), fitS e f b) from by unfold payS; rw [if_neg hc]]
    rw [class_nat hc] at hcl
    have hne : (fitS e f b != 0) = true := by rw [bne_iff_ne]; exact hc
    clear hc
    go_enter Try.func17, Try.ntmps17
    go_wp2_with fail
    refine (hcl _).mono ?_
    rintro r w1 ⟨rfl, hb1⟩
    obtain ⟨hc1, hf1⟩ := bcell hb1
    have hbw1 : Below w.heap.size w w1 := Below.trans (b := _) (by repeat' (first | (with_reducible assumption) | (with_reducible exact Below.refl _ _) | (with_reducible refine bdn ?_ _) | (with_reducible refine Below.drew ?_) | (with_reducible refine Below.setCell ?_ ?_ _) | (with_reducible refine Below.alloc ?_ ?_ _) | go_size)) (hb1.mono (by go_size))
    have hz1_0 : w.heap.size < w1.heap.size := by have := hb1.size; simp at this; omega
    go_wp2
    go_ret3
    exact ⟨rfl, (by repeat' (first | (with_reducible assumption) | (with_reducible exact Below.refl _ _) | (with_reducible refine bdn ?_ _) | (with_reducible refine Below.drew ?_) | (with_reducible refine Below.setCell ?_ ?_ _) | (with_reducible refine Below.alloc ?_ ?_ _) | go_size))⟩
theorem ref_Payload (e f B : Int) (b : Nat) (hB : B = (b : Int)) (hb64 : b < 18446744073709551616) (w : World) :
    Calls Try.prog 18 #[.agg #[.int .i64 e, .int .i64 f], .int .u64 B] w (Says w (.tuple #[.int .u64 (((payS e f b).1.1 : Nat) : Int), .bool (payS e f b).1.2, .int .i64 (payS e f b).2])) := by
  subst hB
  have hcl := ref_Class e f (b : Int) b rfl hb64
  by_cases hc : fitS e f b = 0
  · by_cases h5 : (classS e f b).1 = 5
    · rw [class_err hc, h5] at hcl
      have hsp := ref_Split e f (b : Int) b rfl hb64
      obtain ⟨E, F, rfl, rfl, hE1, hE2, hF1, hF2, hfit⟩ := fit_ok hc
      rw [show splitS (E : Int) (F : Int) b = (splitF E F b, 0) from by unfold splitS; rw [if_pos hc]; rfl] at hsp
      rw [show payS (E : Int) (F : Int) b = (payF F (b % 2 ^ F), 0) from by unfold payS; rw [if_pos hc, if_pos h5]; rfl]
      clear hc h5 hfit
      obtain ⟨H, hH⟩ : ∃ H, H = 2 ^ (F - 1) := ⟨_, rfl⟩
      have HH := Lib.hid hH
      have hH0 : 0 < H := by rw [hH]; exact Nat.two_pow_pos _
      obtain ⟨⟨ng, X, y⟩, hp⟩ : ∃ p, p = splitF E F b := ⟨_, rfl⟩
      rw [← hp] at hsp
      have hy : b % 2 ^ F = y := by rw [show y = (splitF E F b).2.2 from by rw [← hp]]; rfl
      have hpy : payF F y = (y % H, decide (H ≤ y)) := by unfold payF; rw [hH]
      rw [hy, hpy]
      have hHz : ¬ H = 0 := by omega
      have hHy : (H : Int) ≠ 0 := by omega
      clear hp hy hpy hH
      go_enter Try.func18, Try.ntmps18
      go_wp2_with fail
      refine (hcl _).mono ?_
      rintro r w1 ⟨rfl, hb1⟩
      obtain ⟨hc1, hf1⟩ := bcell hb1
      have hbw1 : Below w.heap.size w w1 := Below.trans (b := _) (by repeat' (first | (with_reducible assumption) | (with_reducible exact Below.refl _ _) | (with_reducible refine bdn ?_ _) | (with_reducible refine Below.drew ?_) | (with_reducible refine Below.setCell ?_ ?_ _) | (with_reducible refine Below.alloc ?_ ?_ _) | go_size)) (hb1.mono (by go_size))
      have hz1_0 : w.heap.size < w1.heap.size := by have := hb1.size; simp at this; omega
      have s0 : w1.cell? ⟨w.heap.size, 0, none⟩ = some (.int .i64 (E : Int)) := by rw [hc1 _ _ (by go_size)]; simp [go_sem]
      have s1 : w1.cell? ⟨w.heap.size, 1, none⟩ = some (.int .i64 (F : Int)) := by rw [hc1 _ _ (by go_size)]; simp [go_sem]
      clear hc1 hf1
      go_wp2_with fail
      refine (hsp _).mono ?_
      rintro r w2 ⟨rfl, hb2⟩
      have s0' := cell_keep hb2 s0
      have s1' := cell_keep hb2 s1
      have hbw2 := hbw1.trans (hb2.mono hbw1.size)
      have z2 : w.heap.size < w2.heap.size := cell_lt s0'
      clear hb1 hb2 s0 s1
      go_wp2_with fail
      refine (ref_Pow2 _ (F - 1) H (by omega) (by omega) HH.out _).mono ?_
      rintro r w3 ⟨rfl, rfl⟩
      go_wp2
      go_quiet (fail)
      go_wp2
      go_ret3
      exact ⟨by simp, (by repeat' (first | (with_reducible assumption) | (with_reducible exact Below.refl _ _) | (with_reducible refine bdn ?_ _) | (with_reducible refine Below.drew ?_) | (with_reducible refine Below.setCell ?_ ?_ _) | (with_reducible refine Below.alloc ?_ ?_ _) | go_size))⟩
    · rw [class_err hc] at hcl
      rw [show payS e f b = ((0, false), 2) from by unfold payS; rw [if_pos hc, if_neg h5]]
      obtain ⟨c, hcc⟩ : ∃ c, c = (classS e f b).1 := ⟨_, rfl⟩
      rw [← hcc] at h5 hcl
      have hne : ((c : Int) != 5) = true := by rw [bne_iff_ne]; omega
      clear hcc hc
      go_enter Try.func18, Try.ntmps18
      go_wp2_with fail
      refine (hcl _).mono ?_
      rintro r w1 ⟨rfl, hb1⟩
      obtain ⟨hc1, hf1⟩ := bcell hb1
      have hbw1 : Below w.heap.size w w1 := Below.trans (b := _) (by repeat' (first | (with_reducible assumption) | (with_reducible exact Below.refl _ _) | (with_reducible refine bdn ?_ _) | (with_reducible refine Below.drew ?_) | (with_reducible refine Below.setCell ?_ ?_ _) | (with_reducible refine Below.alloc ?_ ?_ _) | go_size)) (hb1.mono (by go_size))
      have hz1_0 : w.heap.size < w1.heap.size := by have := hb1.size; simp at this; omega
      go_wp2
      go_ret3
      exact ⟨rfl, (by repeat' (first | (with_reducible assumption) | (with_reducible exact Below.refl _ _) | (with_reducible refine bdn ?_ _) | (with_reducible refine Below.drew ?_) | (with_reducible refine Below.setCell ?_ ?_ _) | (with_reducible refine Below.alloc ?_ ?_ _) | go_size))⟩
  · rw [show payS e f b = ((0, false), fitS e f b) from by unfold payS; rw [if_neg hc]]
    rw [class_nat hc] at hcl
    have hne : (fitS e f b != 0) = true := by rw [bne_iff_ne]; exact hc
    clear hc
    go_enter Try.func18, Try.ntmps18
    go_wp2_with fail
    refine (hcl _).mono ?_
    rintro r w1 ⟨rfl, hb1⟩
    obtain ⟨hc1, hf1⟩ := bcell hb1
    have hbw1 : Below w.heap.size w w1 := Below.trans (b := _) (by repeat' (first | (with_reducible assumption) | (with_reducible exact Below.refl _ _) | (with_reducible refine bdn ?_ _) | (with_reducible refine Below.drew ?_) | (with_reducible refine Below.setCell ?_ ?_ _) | (with_reducible refine Below.alloc ?_ ?_ _) | go_size)) (hb1.mono (by go_size))
    have hz1_0 : w.heap.size < w1.heap.size := by have := hb1.size; simp at this; omega
    go_wp2
    go_ret3
    exact ⟨rfl, (by repeat' (first | (with_reducible assumption) | (with_reducible exact Below.refl _ _) | (with_reducible refine bdn ?_ _) | (with_reducible refine Below.drew ?_) | (with_reducible refine Below.setCell ?_ ?_ _) | (with_reducible refine Below.alloc ?_ ?_ _) | go_size))⟩
end Go.Proofs.Ytmneicbagcimdaa
