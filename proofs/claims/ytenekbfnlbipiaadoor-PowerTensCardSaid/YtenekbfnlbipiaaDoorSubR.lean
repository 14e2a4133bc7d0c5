/- Walks: the document's Sub; Twin. -/
import Derived.Test.YtenekbfnlbipiaaDoorSubN
import Derived.Test.YtenekbfnlbipiaaDoorSd
namespace Go.Proofs.YtenekbfnlbipiaaDoor
open Go.RowKit
set_option linter.unusedVariables false
set_option linter.unusedSimpArgs false
set_option maxHeartbeats 4000000
set_option maxRecDepth 100000

theorem ref_Sub (A B : Option Addr) (a b : List Nat) (n m c d : Nat) (hn : n = a.length) (hm : m = b.length) (w : World) (ha : Rd w A a) (hb : Rd w B b) :
    Calls Tryd.prog 61 #[.agg #[.slice A n c], .agg #[.slice B m d]] w (NatSub w (subS a b)) := by
  have ha2 := ((ha.alloc (Obj.cells #[Value.slice A n c] 56)).alloc (Obj.cells #[Value.slice B m d] 56)).alloc (Obj.cells #[Value.slice none 0 0] 56)
  have hb2 := ((hb.alloc (Obj.cells #[Value.slice A n c] 56)).alloc (Obj.cells #[Value.slice B m d] 56)).alloc (Obj.cells #[Value.slice none 0 0] 56)
  have HN := Lib.hid hn
  have HM := Lib.hid hm
  by_cases hz : chk2 a b = 0
  · have hl1 : n ≤ 16384 := by rw [hn]; exact (chk_zero (chk2_zero hz).1).1
    have hl2 : m ≤ 16384 := by rw [hm]; exact (chk_zero (chk2_zero hz).2).1
    have HZ := Lib.hid hz
    have hneg := cmp_neg hz ha.sm hb.sm
    by_cases hlt : val a < val b
    · have e : subS a b = ([], false, 0) := by unfold subS; rw [if_pos hz, if_pos hlt]
      have hcmp : decide (cmpL a b < 0) = true := by rw [decide_eq_true_iff]; exact hneg.2 hlt
      rw [e]
      clear hz e hn hm hneg hlt
      go_enter Tryd.func61, Tryd.ntmps61
      go_wp2_with fail
      refine (ref_two A B a b _ _ c d HN.out HM.out _ ha2 hb2).mono ?_
      rintro e w1 ⟨rfl, hb1⟩
      rw [HZ.out]
      obtain ⟨hc1, hf1⟩ := bcell hb1
      have hbw1 : Below w.heap.size w w1 := Below.trans (b := _) (by repeat' (first | (with_reducible assumption) | (with_reducible exact Below.refl _ _) | (with_reducible refine bdn ?_ _) | (with_reducible refine Below.drew ?_) | (with_reducible refine Below.setCell ?_ ?_ _) | (with_reducible refine Below.alloc ?_ ?_ _) | go_size)) (hb1.mono (by go_size))
      have hz1_0 : w.heap.size < w1.heap.size := by have := hb1.size; simp at this; omega
      have hz1_1 : w.heap.size + 1 < w1.heap.size := by have := hb1.size; simp at this; omega
      have hz1_2 : w.heap.size + 2 < w1.heap.size := by have := hb1.size; simp at this; omega
      go_wp2_with fail
      refine (ref_cmp A B a b _ _ c d HN.out HM.out _ (ha2.below hb1) (hb2.below hb1)).mono ?_
      rintro e w2 ⟨rfl, hb2'⟩
      have hbw2 := hbw1.trans (hb2'.mono hbw1.size)
      have c2 : w2.cell? ⟨w.heap.size + 2, 0, none⟩ = some (Value.slice none 0 0) := by rw [below_cell hb2' hz1_2, hc1 _ _ (by go_size)]; simp [go_sem]
      have f2 : w2.frozen? ⟨w.heap.size + 2, 0, none⟩ = false := by rw [below_frozen hb2' hz1_2, hf1 _ _ (by go_size)]; simp [go_sem]
      have z2 := cell_lt c2
      simp only at z2
      clear ha2 hb2 hb1 hc1 hf1
      go_wp2
      (try simp only [Exit.inBlock, Exit.then]); refine bodyPost_ret (by simp (maxDischargeDepth := 9) [results, Tryd.results61, go_sem, c2, z2]; try rfl) rfl ?_
      exact ⟨none, 0, rfl, Own.nil _ _ _, hbw2.setCell (p := ⟨w.heap.size + 2, 0, none⟩) (Nat.le_add_right _ _) _⟩
    · have e : subS a b = (limbs (val a - val b), true, 0) := by unfold subS; rw [if_pos hz, if_neg hlt]
      have hcmp : decide (cmpL a b < 0) = false := by rw [decide_eq_false_iff_not]; exact fun h => hlt (hneg.1 h)
      have hlen : b.length ≤ a.length := len_le_of_val ha.sm (chk_zero (chk2_zero hz).2).2 hb.sm (by omega)
      have hle : val b ≤ val a := by omega
      have hal : a.length ≤ 1000000 := by omega
      rw [e]
      clear hz e hn hm hneg hlt
      go_enter Tryd.func61, Tryd.ntmps61
      go_wp2_with fail
      refine (ref_two A B a b _ _ c d HN.out HM.out _ ha2 hb2).mono ?_
      rintro e w1 ⟨rfl, hb1⟩
      rw [HZ.out]
      obtain ⟨hc1, hf1⟩ := bcell hb1
      have hbw1 : Below w.heap.size w w1 := Below.trans (b := _) (by repeat' (first | (with_reducible assumption) | (with_reducible exact Below.refl _ _) | (with_reducible refine bdn ?_ _) | (with_reducible refine Below.drew ?_) | (with_reducible refine Below.setCell ?_ ?_ _) | (with_reducible refine Below.alloc ?_ ?_ _) | go_size)) (hb1.mono (by go_size))
      have hz1_0 : w.heap.size < w1.heap.size := by have := hb1.size; simp at this; omega
      have hz1_1 : w.heap.size + 1 < w1.heap.size := by have := hb1.size; simp at this; omega
      have hz1_2 : w.heap.size + 2 < w1.heap.size := by have := hb1.size; simp at this; omega
      go_wp2_with fail
      refine (ref_cmp A B a b _ _ c d HN.out HM.out _ (ha2.below hb1) (hb2.below hb1)).mono ?_
      rintro e w2 ⟨rfl, hb2'⟩
      have hbw2 := hbw1.trans (hb2'.mono hbw1.size)
      have c0 : w2.cell? ⟨w.heap.size, 0, none⟩ = some (Value.slice A n c) := by rw [below_cell hb2' hz1_0, hc1 _ _ (by go_size)]; simp [go_sem]
      have c1 : w2.cell? ⟨w.heap.size + 1, 0, none⟩ = some (Value.slice B m d) := by rw [below_cell hb2' hz1_1, hc1 _ _ (by go_size)]; simp [go_sem]
      have c2 : w2.cell? ⟨w.heap.size + 2, 0, none⟩ = some (Value.slice none 0 0) := by rw [below_cell hb2' hz1_2, hc1 _ _ (by go_size)]; simp [go_sem]
      have f2 : w2.frozen? ⟨w.heap.size + 2, 0, none⟩ = false := by rw [below_frozen hb2' hz1_2, hf1 _ _ (by go_size)]; simp [go_sem]
      have z0 := cell_lt c0
      have z1 := cell_lt c1
      have z2 := cell_lt c2
      simp only at z0 z1 z2
      have hx := (ha2.below hb1).below hb2'
      have hy := (hb2.below hb1).below hb2'
      clear ha2 hb2 hb1 hc1 hf1 hb2' hbw1 hz1_0 hz1_1 hz1_2
      go_wp2_with fail
      refine (ref_less A B a b _ _ c d HN.out HM.out hal hle hlen _ hx hy).mono ?_
      rintro e w3 ⟨A3, c3, rfl, hle3, ho3, hb3⟩
      go_wp2_with fail
      refine (ref_nat A3 _ c3 _).mono ?_
      rintro e w4 ⟨rfl, hb4⟩
      have hb34 := hb3.trans (hb4.mono hb3.size)
      have ho4 := ho3.below hb4 (Nat.le_refl _)
      have e2 := cell_keep hb34 c2
      have ef2 := (below_frozen hb34 (b := w.heap.size + 2) (o := 0) z2).trans f2
      have x2 := cell_lt e2
      simp only at x2
      have hbw4 := hbw2.trans (hb34.mono hbw2.size)
      go_wp2
      (try simp only [Exit.inBlock, Exit.then]); refine bodyPost_ret (by simp (maxDischargeDepth := 9) [results, Tryd.results61, go_sem, e2, x2]; try rfl) rfl ?_
      exact ⟨A3, c3, rfl, (ho4.setCell (p := ⟨w.heap.size + 2, 0, none⟩) z2 _).mono hbw2.size, hbw4.setCell (p := ⟨w.heap.size + 2, 0, none⟩) (Nat.le_add_right _ _) _⟩
  · have e : subS a b = ([], false, chk2 a b) := by unfold subS; rw [if_neg hz]
    have hne : (chk2 a b != 0) = true := by rw [bne_iff_ne]; exact hz
    rw [e]
    clear hz e hn hm
    go_enter Tryd.func61, Tryd.ntmps61
    go_wp2_with fail
    refine (ref_two A B a b _ _ c d HN.out HM.out _ ha2 hb2).mono ?_
    rintro e w1 ⟨rfl, hb1⟩
    obtain ⟨hc1, hf1⟩ := bcell hb1
    have hbw1 : Below w.heap.size w w1 := Below.trans (b := _) (by repeat' (first | (with_reducible assumption) | (with_reducible exact Below.refl _ _) | (with_reducible refine bdn ?_ _) | (with_reducible refine Below.drew ?_) | (with_reducible refine Below.setCell ?_ ?_ _) | (with_reducible refine Below.alloc ?_ ?_ _) | go_size)) (hb1.mono (by go_size))
    have hz1_0 : w.heap.size < w1.heap.size := by have := hb1.size; simp at this; omega
    have hz1_1 : w.heap.size + 1 < w1.heap.size := by have := hb1.size; simp at this; omega
    have hz1_2 : w.heap.size + 2 < w1.heap.size := by have := hb1.size; simp at this; omega
    go_wp2
    (try simp only [Exit.inBlock, Exit.then]); refine bodyPost_ret (by simp (maxDischargeDepth := 9) [results, Tryd.results61, go_sem, hc1, hz1_2]; try rfl) rfl ?_
    exact ⟨none, 0, rfl, Own.nil _ _ _, (by repeat' (first | (with_reducible assumption) | (with_reducible exact Below.refl _ _) | (with_reducible refine bdn ?_ _) | (with_reducible refine Below.drew ?_) | (with_reducible refine Below.setCell ?_ ?_ _) | (with_reducible refine Below.alloc ?_ ?_ _) | go_size))⟩

end Go.Proofs.YtenekbfnlbipiaaDoor
