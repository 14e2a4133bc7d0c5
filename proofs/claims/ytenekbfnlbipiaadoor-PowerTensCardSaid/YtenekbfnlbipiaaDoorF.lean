/- Walks: the document's Up. -/
import Derived.Test.YtenekbfnlbipiaaDoorE
namespace Go.Proofs.YtenekbfnlbipiaaDoor
open Go.RowKit
set_option linter.unusedVariables false
set_option linter.unusedSimpArgs false
set_option maxHeartbeats 4000000
set_option maxRecDepth 100000

theorem ref_Up (A : Option Addr) (l : List Nat) (n c : Nat) (hn : n = l.length) (m : Int) (hm1 : -9223372036854775808 ≤ m) (hm2 : m ≤ 9223372036854775807) (w : World) (h : Rd w A l) :
    Calls Tryd.prog 30 #[.agg #[.slice A n c], .int .i64 m] w (NatAns 90 w (upS l m)) := by
  subst hn
  have hl := h.len
  have h1 := (h.alloc (Obj.cells #[Value.slice A l.length c] 56)).alloc (Obj.cells #[Value.slice none 0 0] 56)
  by_cases hc0 : chk l = 0
  · have hlen := (chk_zero hc0).1
    have hlast := (chk_zero hc0).2
    have hbits := chk_bits h.sm hc0
    have Hchk : Hid (chk l = 0) := hc0
    have e0 : Hid (upS l m = if m < 0 then ([], 2) else if l = [] then ([], 0) else if 524288 - (bitLen (val l) : Int) < m then ([], 4) else (limbs (val l * 2 ^ m.toNat), 0)) := by
      show upS l m = _
      unfold upS; rw [if_pos hc0]
    clear hc0
    by_cases hm0 : m < 0
    · rw [e0.out, if_pos hm0]
      go_enter Tryd.func30, Tryd.ntmps30
      go_wp2_with fail
      refine (ref_Check A l _ c rfl _ h1).mono ?_
      rintro e w1 ⟨rfl, hb1⟩
      rw [Hchk.out]
      obtain ⟨hc1, hf1⟩ := bcell hb1
      have hbw1 : Below w.heap.size w w1 := Below.trans (b := _) (by repeat' (first | (with_reducible assumption) | (with_reducible exact Below.refl _ _) | (with_reducible refine bdn ?_ _) | (with_reducible refine Below.drew ?_) | (with_reducible refine Below.setCell ?_ ?_ _) | (with_reducible refine Below.alloc ?_ ?_ _) | go_size)) (hb1.mono (by go_size))
      have hz1_0 : w.heap.size < w1.heap.size := by have := hb1.size; simp at this; omega
      have hz1_1 : w.heap.size + 1 < w1.heap.size := by have := hb1.size; simp at this; omega
      go_wp2
      (try simp only [Exit.inBlock, Exit.then]); refine bodyPost_ret (by simp (maxDischargeDepth := 9) [results, Tryd.results30, go_sem, hc1, hz1_0, hz1_1]; try rfl) rfl ?_
      exact ⟨none, 0, rfl, Own.nil _ _ _, (by repeat' (first | (with_reducible assumption) | (with_reducible exact Below.refl _ _) | (with_reducible refine bdn ?_ _) | (with_reducible refine Below.drew ?_) | (with_reducible refine Below.setCell ?_ ?_ _) | (with_reducible refine Below.alloc ?_ ?_ _) | go_size))⟩
    · by_cases hl0 : l.length = 0
      · have hl1 : l = [] := List.eq_nil_of_length_eq_zero hl0
        rw [e0.out, if_neg hm0, if_pos hl1]
        have h3 : ((l.length : Int) == 0) = true := by rw [beq_iff_eq]; omega
        clear hl0 hl1
        go_enter Tryd.func30, Tryd.ntmps30
        go_wp2_with fail
        refine (ref_Check A l _ c rfl _ h1).mono ?_
        rintro e w1 ⟨rfl, hb1⟩
        rw [Hchk.out]
        obtain ⟨hc1, hf1⟩ := bcell hb1
        have hbw1 : Below w.heap.size w w1 := Below.trans (b := _) (by repeat' (first | (with_reducible assumption) | (with_reducible exact Below.refl _ _) | (with_reducible refine bdn ?_ _) | (with_reducible refine Below.drew ?_) | (with_reducible refine Below.setCell ?_ ?_ _) | (with_reducible refine Below.alloc ?_ ?_ _) | go_size)) (hb1.mono (by go_size))
        have hz1_0 : w.heap.size < w1.heap.size := by have := hb1.size; simp at this; omega
        have hz1_1 : w.heap.size + 1 < w1.heap.size := by have := hb1.size; simp at this; omega
        go_wp2
        (try simp only [Exit.inBlock, Exit.then]); refine bodyPost_ret (by simp (maxDischargeDepth := 9) [results, Tryd.results30, go_sem, hc1, hz1_0, hz1_1]; try rfl) rfl ?_
        exact ⟨none, 0, rfl, Own.nil _ _ _, (by repeat' (first | (with_reducible assumption) | (with_reducible exact Below.refl _ _) | (with_reducible refine bdn ?_ _) | (with_reducible refine Below.drew ?_) | (with_reducible refine Below.setCell ?_ ?_ _) | (with_reducible refine Below.alloc ?_ ?_ _) | go_size))⟩
      · have hl1 : ¬ l = [] := fun e => hl0 (by rw [e]; rfl)
        have h3 : ((l.length : Int) == 0) = false := by rw [beq_eq_false_iff_ne]; omega
        by_cases hbig : 524288 - (bitLen (val l) : Int) < m
        · rw [e0.out, if_neg hm0, if_neg hl1, if_pos hbig]
          clear hl1 hl0
          go_enter Tryd.func30, Tryd.ntmps30
          go_wp2_with fail
          refine (ref_Check A l _ c rfl _ h1).mono ?_
          rintro e w1 ⟨rfl, hb1⟩
          rw [Hchk.out]
          obtain ⟨hc1, hf1⟩ := bcell hb1
          have hbw1 : Below w.heap.size w w1 := Below.trans (b := _) (by repeat' (first | (with_reducible assumption) | (with_reducible exact Below.refl _ _) | (with_reducible refine bdn ?_ _) | (with_reducible refine Below.drew ?_) | (with_reducible refine Below.setCell ?_ ?_ _) | (with_reducible refine Below.alloc ?_ ?_ _) | go_size)) (hb1.mono (by go_size))
          have hz1_0 : w.heap.size < w1.heap.size := by have := hb1.size; simp at this; omega
          have hz1_1 : w.heap.size + 1 < w1.heap.size := by have := hb1.size; simp at this; omega
          go_wp2_with fail
          refine (ref_size A l _ c rfl (by omega) _ (h1.below hb1) hlast).mono ?_
          rintro e w2 ⟨rfl, rfl⟩
          go_wp2
          (try simp only [Exit.inBlock, Exit.then]); refine bodyPost_ret (by simp (maxDischargeDepth := 9) [results, Tryd.results30, go_sem, hc1, hz1_0, hz1_1]; try rfl) rfl ?_
          exact ⟨none, 0, rfl, Own.nil _ _ _, (by repeat' (first | (with_reducible assumption) | (with_reducible exact Below.refl _ _) | (with_reducible refine bdn ?_ _) | (with_reducible refine Below.drew ?_) | (with_reducible refine Below.setCell ?_ ?_ _) | (with_reducible refine Below.alloc ?_ ?_ _) | go_size))⟩
        · rw [e0.out, if_neg hm0, if_neg hl1, if_neg hbig]
          obtain ⟨m, rfl⟩ : ∃ k : Nat, m = (k : Int) := ⟨m.toNat, by omega⟩
          rw [Int.toNat_natCast]
          clear hl1 hl0
          go_enter Tryd.func30, Tryd.ntmps30
          go_wp2_with fail
          refine (ref_Check A l _ c rfl _ h1).mono ?_
          rintro e w1 ⟨rfl, hb1⟩
          rw [Hchk.out]
          obtain ⟨hc1, hf1⟩ := bcell hb1
          have hbw1 : Below w.heap.size w w1 := Below.trans (b := _) (by repeat' (first | (with_reducible assumption) | (with_reducible exact Below.refl _ _) | (with_reducible refine bdn ?_ _) | (with_reducible refine Below.drew ?_) | (with_reducible refine Below.setCell ?_ ?_ _) | (with_reducible refine Below.alloc ?_ ?_ _) | go_size)) (hb1.mono (by go_size))
          have hz1_0 : w.heap.size < w1.heap.size := by have := hb1.size; simp at this; omega
          have hz1_1 : w.heap.size + 1 < w1.heap.size := by have := hb1.size; simp at this; omega
          go_wp2_with fail
          refine (ref_size A l _ c rfl (by omega) _ (h1.below hb1) hlast).mono ?_
          rintro e w2 ⟨rfl, rfl⟩
          go_wp2_with fail
          refine (ref_up A l _ c rfl m (by omega) (by omega) _ (h1.below hb1)).mono ?_
          rintro e w2 ⟨A', c', rfl, ho, hb2⟩
          obtain ⟨hc2, hf2⟩ := bcell hb2
          have hz2 : w.heap.size + 1 < w2.heap.size := by have := hb2.size; omega
          go_wp2_with fail
          refine (ref_nat _ _ _ _).mono ?_
          rintro e w3 ⟨rfl, hb3⟩
          obtain ⟨hc3, hf3⟩ := bcell hb3
          have hz3 : w.heap.size + 1 < w3.heap.size := by have := hb3.size; omega
          have hbw3 : Below w.heap.size w w3 := (hbw1.trans (hb2.mono (by omega))).trans (hb3.mono (by omega))
          go_wp2
          (try simp only [Exit.inBlock, Exit.then]); refine bodyPost_ret (by simp (maxDischargeDepth := 9) [results, Tryd.results30, go_sem, hc3, hc2, hc1, hz1_0, hz1_1, hz2, hz3]; try rfl) rfl ?_
          exact ⟨_, _, rfl, ((ho.below hb3 (Nat.le_refl _)).setCell (by simp; omega) _).mono (by omega), (by repeat' (first | (with_reducible assumption) | (with_reducible exact Below.refl _ _) | (with_reducible refine bdn ?_ _) | (with_reducible refine Below.drew ?_) | (with_reducible refine Below.setCell ?_ ?_ _) | (with_reducible refine Below.alloc ?_ ?_ _) | go_size))⟩
  · have e0 : upS l m = ([], chk l) := by unfold upS; rw [if_neg hc0]
    have hne : (chk l != 0) = true := by rw [bne_iff_ne]; exact hc0
    rw [e0]
    clear hc0
    go_enter Tryd.func30, Tryd.ntmps30
    go_wp2_with fail
    refine (ref_Check A l _ c rfl _ h1).mono ?_
    rintro e w1 ⟨rfl, hb1⟩
    obtain ⟨hc1, hf1⟩ := bcell hb1
    have hbw1 : Below w.heap.size w w1 := Below.trans (b := _) (by repeat' (first | (with_reducible assumption) | (with_reducible exact Below.refl _ _) | (with_reducible refine bdn ?_ _) | (with_reducible refine Below.drew ?_) | (with_reducible refine Below.setCell ?_ ?_ _) | (with_reducible refine Below.alloc ?_ ?_ _) | go_size)) (hb1.mono (by go_size))
    have hz1_0 : w.heap.size < w1.heap.size := by have := hb1.size; simp at this; omega
    have hz1_1 : w.heap.size + 1 < w1.heap.size := by have := hb1.size; simp at this; omega
    go_wp2
    (try simp only [Exit.inBlock, Exit.then]); refine bodyPost_ret (by simp (maxDischargeDepth := 9) [results, Tryd.results30, go_sem, hc1, hz1_0, hz1_1]; try rfl) rfl ?_
    exact ⟨none, 0, rfl, Own.nil _ _ _, (by repeat' (first | (with_reducible assumption) | (with_reducible exact Below.refl _ _) | (with_reducible refine bdn ?_ _) | (with_reducible refine Below.drew ?_) | (with_reducible refine Below.setCell ?_ ?_ _) | (with_reducible refine Below.alloc ?_ ?_ _) | go_size))⟩
end Go.Proofs.YtenekbfnlbipiaaDoor
