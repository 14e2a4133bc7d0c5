/- Walks: the products. -/
import Derived.Test.YtenekbfnlbipiaaDoorK
namespace Go.Proofs.YtenekbfnlbipiaaDoor
open Go.RowKit
set_option linter.unusedVariables false
set_option linter.unusedSimpArgs false
set_option maxHeartbeats 4000000
set_option maxRecDepth 100000

theorem ref_Mul (A B : Option Addr) (a b : List Nat) (n m c d : Nat) (hn : n = a.length) (hm : m = b.length) (w : World) (ha : Rd w A a) (hb : Rd w B b) :
    Calls Tryd.prog 27 #[.agg #[.slice A n c], .agg #[.slice B m d]] w (NatAns 90 w (mulS a b)) := by
  subst hn hm
  have hla := ha.len
  have hlb := hb.len
  have ha2 := ((ha.alloc (Obj.cells #[Value.slice A a.length c] 56)).alloc (Obj.cells #[Value.slice B b.length d] 56)).alloc (Obj.cells #[Value.slice none 0 0] 56)
  have hb2 := ((hb.alloc (Obj.cells #[Value.slice A a.length c] 56)).alloc (Obj.cells #[Value.slice B b.length d] 56)).alloc (Obj.cells #[Value.slice none 0 0] 56)
  by_cases hz : chk2 a b = 0
  · have hl1 := (chk_zero (chk2_zero hz).1).1
    have hl2 := (chk_zero (chk2_zero hz).2).1
    have HZ := Lib.hid hz
    by_cases hbig : 16385 < a.length + b.length
    · have e : mulS a b = ([], 4) := by unfold mulS; rw [if_pos hz, if_pos hbig]
      rw [e]
      clear hz
      go_enter Tryd.func27, Tryd.ntmps27
      go_wp2_with fail
      refine (ref_two A B a b _ _ c d rfl rfl _ ha2 hb2).mono ?_
      rintro e w1 ⟨rfl, hb1⟩
      rw [HZ.out]
      obtain ⟨hc1, hf1⟩ := bcell hb1
      have hbw1 : Below w.heap.size w w1 := Below.trans (b := _) (by repeat' (first | (with_reducible assumption) | (with_reducible exact Below.refl _ _) | (with_reducible refine bdn ?_ _) | (with_reducible refine Below.drew ?_) | (with_reducible refine Below.setCell ?_ ?_ _) | (with_reducible refine Below.alloc ?_ ?_ _) | go_size)) (hb1.mono (by go_size))
      have hz1_0 : w.heap.size < w1.heap.size := by have := hb1.size; simp at this; omega
      have hz1_1 : w.heap.size + 1 < w1.heap.size := by have := hb1.size; simp at this; omega
      have hz1_2 : w.heap.size + 2 < w1.heap.size := by have := hb1.size; simp at this; omega
      go_wp2
      (try simp only [Exit.inBlock, Exit.then]); refine bodyPost_ret (by simp (maxDischargeDepth := 9) [results, Tryd.results27, go_sem, hc1, hz1_0, hz1_1, hz1_2]; try rfl) rfl ?_
      exact ⟨none, 0, rfl, Own.nil _ _ _, (by repeat' (first | (with_reducible assumption) | (with_reducible exact Below.refl _ _) | (with_reducible refine bdn ?_ _) | (with_reducible refine Below.drew ?_) | (with_reducible refine Below.setCell ?_ ?_ _) | (with_reducible refine Below.alloc ?_ ?_ _) | go_size))⟩
    · have e : mulS a b = fitS (val a * val b) := by unfold mulS; rw [if_pos hz, if_neg hbig]
      rw [e]
      clear hz
      go_enter Tryd.func27, Tryd.ntmps27
      go_wp2_with fail
      refine (ref_two A B a b _ _ c d rfl rfl _ ha2 hb2).mono ?_
      rintro e w1 ⟨rfl, hb1⟩
      rw [HZ.out]
      obtain ⟨hc1, hf1⟩ := bcell hb1
      have hbw1 : Below w.heap.size w w1 := Below.trans (b := _) (by repeat' (first | (with_reducible assumption) | (with_reducible exact Below.refl _ _) | (with_reducible refine bdn ?_ _) | (with_reducible refine Below.drew ?_) | (with_reducible refine Below.setCell ?_ ?_ _) | (with_reducible refine Below.alloc ?_ ?_ _) | go_size)) (hb1.mono (by go_size))
      have hz1_0 : w.heap.size < w1.heap.size := by have := hb1.size; simp at this; omega
      have hz1_1 : w.heap.size + 1 < w1.heap.size := by have := hb1.size; simp at this; omega
      have hz1_2 : w.heap.size + 2 < w1.heap.size := by have := hb1.size; simp at this; omega
      go_wp2_with fail
      refine (ref_times A B a b _ _ c d rfl rfl (by omega) _ (ha2.below hb1) (hb2.below hb1)).mono ?_
      rintro e w2 ⟨A2, c2, rfl, hle2, ho2, hb2'⟩
      have hz2 : w.heap.size + 2 < w2.heap.size := by have := hb2'.size; omega
      have hc2 : w2.cell? ⟨w.heap.size + 2, 0, none⟩ = some (Value.slice none 0 0) := by
        rw [below_cell hb2' (by omega), hc1 _ _ (by simp)]
        simp [go_sem]
      have hf2 : w2.frozen? ⟨w.heap.size + 2, 0, none⟩ = false := by
        rw [below_frozen hb2' (by omega), hf1 _ _ (by simp)]
        simp [go_sem]
      go_wp2_with fail
      refine (ref_fits A2 c2 _ w1.heap.size _ rfl hle2 _ ho2 hb2'.size).mono ?_
      rw [val_limbs]
      rintro e w3 ⟨A3, c3, rfl, ho3, hb3⟩
      have hz3 : w.heap.size + 2 < w3.heap.size := by have := hb3.size; omega
      have hc3 : w3.cell? ⟨w.heap.size + 2, 0, none⟩ = some (Value.slice none 0 0) := by rw [below_cell hb3 hz2]; exact hc2
      have hf3 : w3.frozen? ⟨w.heap.size + 2, 0, none⟩ = false := by rw [below_frozen hb3 hz2]; exact hf2
      have hbw3 : Below w.heap.size w w3 := (hbw1.trans (hb2'.mono (by omega))).trans (hb3.mono (by omega))
      clear hc1 hf1 hc2 hf2
      go_wp2
      (try simp only [Exit.inBlock, Exit.then]); refine bodyPost_ret (by simp (maxDischargeDepth := 9) [results, Tryd.results27, go_sem, hc3]; try rfl) rfl ?_
      exact ⟨_, _, rfl, (ho3.setCell (by simp; omega) _).mono (by omega), (by repeat' (first | (with_reducible assumption) | (with_reducible exact Below.refl _ _) | (with_reducible refine bdn ?_ _) | (with_reducible refine Below.drew ?_) | (with_reducible refine Below.setCell ?_ ?_ _) | (with_reducible refine Below.alloc ?_ ?_ _) | go_size))⟩
  · have e : mulS a b = ([], chk2 a b) := by unfold mulS; rw [if_neg hz]
    have hne : (chk2 a b != 0) = true := by rw [bne_iff_ne]; exact hz
    rw [e]
    clear hz
    go_enter Tryd.func27, Tryd.ntmps27
    go_wp2_with fail
    refine (ref_two A B a b _ _ c d rfl rfl _ ha2 hb2).mono ?_
    rintro e w1 ⟨rfl, hb1⟩
    obtain ⟨hc1, hf1⟩ := bcell hb1
    have hbw1 : Below w.heap.size w w1 := Below.trans (b := _) (by repeat' (first | (with_reducible assumption) | (with_reducible exact Below.refl _ _) | (with_reducible refine bdn ?_ _) | (with_reducible refine Below.drew ?_) | (with_reducible refine Below.setCell ?_ ?_ _) | (with_reducible refine Below.alloc ?_ ?_ _) | go_size)) (hb1.mono (by go_size))
    have hz1_0 : w.heap.size < w1.heap.size := by have := hb1.size; simp at this; omega
    have hz1_1 : w.heap.size + 1 < w1.heap.size := by have := hb1.size; simp at this; omega
    have hz1_2 : w.heap.size + 2 < w1.heap.size := by have := hb1.size; simp at this; omega
    go_wp2
    (try simp only [Exit.inBlock, Exit.then]); refine bodyPost_ret (by simp (maxDischargeDepth := 9) [results, Tryd.results27, go_sem, hc1, hz1_0, hz1_1, hz1_2]; try rfl) rfl ?_
    exact ⟨none, 0, rfl, Own.nil _ _ _, (by repeat' (first | (with_reducible assumption) | (with_reducible exact Below.refl _ _) | (with_reducible refine bdn ?_ _) | (with_reducible refine Below.drew ?_) | (with_reducible refine Below.setCell ?_ ?_ _) | (with_reducible refine Below.alloc ?_ ?_ _) | go_size))⟩
end Go.Proofs.YtenekbfnlbipiaaDoor
