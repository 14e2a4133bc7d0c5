/- Walks: both packages' Down. -/
import Derived.Test.YtenekbfnlbipiaaDoorDn
namespace Go.Proofs.YtenekbfnlbipiaaDoor
open Go.RowKit
set_option linter.unusedVariables false
set_option linter.unusedSimpArgs false
set_option maxHeartbeats 4000000
set_option maxRecDepth 100000

theorem ref_Down (A : Option Addr) (l : List Nat) (n c : Nat) (hn : n = l.length) (m : Int) (hm1 : -9223372036854775808 ≤ m) (hm2 : m ≤ 9223372036854775807) (w : World) (h : Rd w A l) :
    Calls Tryd.prog 29 #[.agg #[.slice A n c], .int .i64 m] w (NatAns 90 w (downS l m)) := by
  subst hn
  have hl := h.len
  have h1 := (h.alloc (Obj.cells #[Value.slice A l.length c] 56)).alloc (Obj.cells #[Value.slice none 0 0] 56)
  by_cases hc0 : chk l = 0
  · have hlen := (chk_zero hc0).1
    have Hchk : Hid (chk l = 0) := hc0
    have e0 : Hid (downS l m = if m < 0 then ([], 2) else (limbs (val l / 2 ^ m.toNat), 0)) := by
      show downS l m = _
      unfold downS; rw [if_pos hc0]
    clear hc0
    by_cases hm0 : m < 0
    · rw [e0.out, if_pos hm0]
      go_enter Tryd.func29, Tryd.ntmps29
      go_wp2_with fail
      refine (ref_Check A l _ c rfl _ h1).mono ?_
      rintro e w1 ⟨rfl, hb1⟩
      rw [Hchk.out]
      obtain ⟨hc1, hf1⟩ := bcell hb1
      have hbw1 : Below w.heap.size w w1 := Below.trans (b := _) (by repeat' (first | (with_reducible assumption) | (with_reducible exact Below.refl _ _) | (with_reducible refine bdn ?_ _) | (with_reducible refine Below.drew ?_) | (with_reducible refine Below.setCell ?_ ?_ _) | (with_reducible refine Below.alloc ?_ ?_ _) | go_size)) (hb1.mono (by go_size))
      have hz1_0 : w.heap.size < w1.heap.size := by have := hb1.size; simp at this; omega
      have hz1_1 : w.heap.size + 1 < w1.heap.size := by have := hb1.size; simp at this; omega
      go_wp2
      (try simp only [Exit.inBlock, Exit.then]); refine bodyPost_ret (by simp (maxDischargeDepth := 9) [results, Tryd.results29, go_sem, hc1, hz1_0, hz1_1]; try rfl) rfl ?_
      exact ⟨none, 0, rfl, Own.nil _ _ _, (by repeat' (first | (with_reducible assumption) | (with_reducible exact Below.refl _ _) | (with_reducible refine bdn ?_ _) | (with_reducible refine Below.drew ?_) | (with_reducible refine Below.setCell ?_ ?_ _) | (with_reducible refine Below.alloc ?_ ?_ _) | go_size))⟩
    · rw [e0.out, if_neg hm0]
      obtain ⟨m, rfl⟩ : ∃ k : Nat, m = (k : Int) := ⟨m.toNat, by omega⟩
      rw [Int.toNat_natCast]
      go_enter Tryd.func29, Tryd.ntmps29
      go_wp2_with fail
      refine (ref_Check A l _ c rfl _ h1).mono ?_
      rintro e w1 ⟨rfl, hb1⟩
      rw [Hchk.out]
      obtain ⟨hc1, hf1⟩ := bcell hb1
      have hbw1 : Below w.heap.size w w1 := Below.trans (b := _) (by repeat' (first | (with_reducible assumption) | (with_reducible exact Below.refl _ _) | (with_reducible refine bdn ?_ _) | (with_reducible refine Below.drew ?_) | (with_reducible refine Below.setCell ?_ ?_ _) | (with_reducible refine Below.alloc ?_ ?_ _) | go_size)) (hb1.mono (by go_size))
      have hz1_0 : w.heap.size < w1.heap.size := by have := hb1.size; simp at this; omega
      have hz1_1 : w.heap.size + 1 < w1.heap.size := by have := hb1.size; simp at this; omega
      go_wp2_with fail
      refine (ref_down A l _ c rfl m (by omega) (by omega) _ (h1.below hb1)).mono ?_
      rintro e w2 ⟨A', c', rfl, _, ho, hb2⟩
      have hz2 : w.heap.size + 1 < w2.heap.size := by have := hb2.size; omega
      go_wp2_with fail
      refine (ref_nat _ _ _ _).mono ?_
      rintro e w3 ⟨rfl, hb3⟩
      have hz3 : w.heap.size + 1 < w3.heap.size := by have := hb3.size; omega
      have hc3 : w3.cell? ⟨w.heap.size + 1, 0, none⟩ = some (Value.slice none 0 0) := by
        rw [below_cell hb3 hz2, below_cell hb2 hz1_1, hc1 _ _ (by simp)]; simp [go_sem]
      have hf3 : w3.frozen? ⟨w.heap.size + 1, 0, none⟩ = false := by
        rw [below_frozen hb3 hz2, below_frozen hb2 hz1_1, hf1 _ _ (by simp)]; simp [go_sem]
      have hbw3 : Below w.heap.size w w3 := (hbw1.trans (hb2.mono (by omega))).trans (hb3.mono (by omega))
      clear hc1 hf1
      go_wp2
      (try simp only [Exit.inBlock, Exit.then]); refine bodyPost_ret (by simp (maxDischargeDepth := 9) [results, Tryd.results29, go_sem, hc3]; try rfl) rfl ?_
      exact ⟨_, _, rfl, ((ho.below hb3 (Nat.le_refl _)).setCell (by simp; omega) _).mono (by omega), (by repeat' (first | (with_reducible assumption) | (with_reducible exact Below.refl _ _) | (with_reducible refine bdn ?_ _) | (with_reducible refine Below.drew ?_) | (with_reducible refine Below.setCell ?_ ?_ _) | (with_reducible refine Below.alloc ?_ ?_ _) | go_size))⟩
  · have e0 : downS l m = ([], chk l) := by unfold downS; rw [if_neg hc0]
    have hne : (chk l != 0) = true := by rw [bne_iff_ne]; exact hc0
    rw [e0]
    clear hc0
    go_enter Tryd.func29, Tryd.ntmps29
    go_wp2_with fail
    refine (ref_Check A l _ c rfl _ h1).mono ?_
    rintro e w1 ⟨rfl, hb1⟩
    obtain ⟨hc1, hf1⟩ := bcell hb1
    have hbw1 : Below w.heap.size w w1 := Below.trans (b := _) (by repeat' (first | (with_reducible assumption) | (with_reducible exact Below.refl _ _) | (with_reducible refine bdn ?_ _) | (with_reducible refine Below.drew ?_) | (with_reducible refine Below.setCell ?_ ?_ _) | (with_reducible refine Below.alloc ?_ ?_ _) | go_size)) (hb1.mono (by go_size))
    have hz1_0 : w.heap.size < w1.heap.size := by have := hb1.size; simp at this; omega
    have hz1_1 : w.heap.size + 1 < w1.heap.size := by have := hb1.size; simp at this; omega
    go_wp2
    (try simp only [Exit.inBlock, Exit.then]); refine bodyPost_ret (by simp (maxDischargeDepth := 9) [results, Tryd.results29, go_sem, hc1, hz1_0, hz1_1]; try rfl) rfl ?_
    exact ⟨none, 0, rfl, Own.nil _ _ _, (by repeat' (first | (with_reducible assumption) | (with_reducible exact Below.refl _ _) | (with_reducible refine bdn ?_ _) | (with_reducible refine Below.drew ?_) | (with_reducible refine Below.setCell ?_ ?_ _) | (with_reducible refine Below.alloc ?_ ?_ _) | go_size))⟩

theorem down_drop {l : List Nat} (h : Sm l) (m : Nat) : val (l.drop (m / 32)) / 2 ^ (m % 32) = val l / 2 ^ m := by
  rw [val_drop l h, Nat.div_div_eq_div_mul]
  congr 1
  have : 4294967296 ^ (m / 32) = 2 ^ (32 * (m / 32)) := by rw [Nat.pow_mul]
  rw [this, ← Nat.pow_add]
  congr 1
  omega
theorem Rd.drop {w : World} {b off : Nat} {l : List Nat} (h : Rd w (some ⟨b, off, none⟩) l) (q : Nat) (hq : q < l.length) : Rd w (some ⟨b, off + q, none⟩) (l.drop q) := by
  refine ⟨h.1.drop q, by have := h.2.1; simp; omega, fun hn => ⟨b, off + q, rfl, fun j hj => ?_⟩⟩
  obtain ⟨b', off', e, hc⟩ := h.open_ (by omega)
  injection e with e; injection e with e1 e2
  subst e1 e2
  simp only [List.length_drop] at hj
  have e : nth (l.drop q) j = nth l (q + j) := by
    rw [nth_lt _ (by simp; omega), nth_lt _ (by omega)]; simp
  rw [e, Nat.add_assoc]
  exact hc (q + j) (by omega)

theorem nat_Down (A : Option Addr) (l : List Nat) (n c : Nat) (hn : n = l.length) (hnc : n ≤ c) (m : Int) (hm1 : -9223372036854775808 ≤ m) (hm2 : m ≤ 9223372036854775807) (w : World) (h : Rd w A l) :
    Calls Tryd.prog 47 #[.agg #[.slice A n c], .int .i64 m] w (NatAns 90 w (downS l m)) := by
  subst hn
  have hl := h.len
  have h1 := (h.alloc (Obj.cells #[Value.slice A l.length c] 56)).alloc (Obj.cells #[Value.slice none 0 0] 56)
  by_cases hc0 : chk l = 0
  · have hlen := (chk_zero hc0).1
    have Hchk : Hid (chk l = 0) := hc0
    have e0 : Hid (downS l m = if m < 0 then ([], 2) else (limbs (val l / 2 ^ m.toNat), 0)) := by
      show downS l m = _
      unfold downS; rw [if_pos hc0]
    clear hc0
    by_cases hm0 : m < 0
    · rw [e0.out, if_pos hm0]
      go_enter Tryd.func47, Tryd.ntmps47
      go_wp2_with fail
      refine (nat_Check A l _ c rfl _ h1).mono ?_
      rintro e w1 ⟨rfl, hb1⟩
      rw [Hchk.out]
      obtain ⟨hc1, hf1⟩ := bcell hb1
      have hbw1 : Below w.heap.size w w1 := Below.trans (b := _) (by repeat' (first | (with_reducible assumption) | (with_reducible exact Below.refl _ _) | (with_reducible refine bdn ?_ _) | (with_reducible refine Below.drew ?_) | (with_reducible refine Below.setCell ?_ ?_ _) | (with_reducible refine Below.alloc ?_ ?_ _) | go_size)) (hb1.mono (by go_size))
      have hz1_0 : w.heap.size < w1.heap.size := by have := hb1.size; simp at this; omega
      have hz1_1 : w.heap.size + 1 < w1.heap.size := by have := hb1.size; simp at this; omega
      go_wp2
      (try simp only [Exit.inBlock, Exit.then]); refine bodyPost_ret (by simp (maxDischargeDepth := 9) [results, Tryd.results47, go_sem, hc1, hz1_0, hz1_1]; try rfl) rfl ?_
      exact ⟨none, 0, rfl, Own.nil _ _ _, (by repeat' (first | (with_reducible assumption) | (with_reducible exact Below.refl _ _) | (with_reducible refine bdn ?_ _) | (with_reducible refine Below.drew ?_) | (with_reducible refine Below.setCell ?_ ?_ _) | (with_reducible refine Below.alloc ?_ ?_ _) | go_size))⟩
    · rw [e0.out, if_neg hm0]
      obtain ⟨m, rfl⟩ : ∃ k : Nat, m = (k : Int) := ⟨m.toNat, by omega⟩
      rw [Int.toNat_natCast]
      by_cases hq : l.length ≤ m / 32
      · have hz := down_zero h.sm hq
        rw [hz, limbs_zero]
        clear hz
        go_enter Tryd.func47, Tryd.ntmps47
        go_wp2_with fail
        refine (nat_Check A l _ c rfl _ h1).mono ?_
        rintro e w1 ⟨rfl, hb1⟩
        rw [Hchk.out]
        obtain ⟨hc1, hf1⟩ := bcell hb1
        have hbw1 : Below w.heap.size w w1 := Below.trans (b := _) (by repeat' (first | (with_reducible assumption) | (with_reducible exact Below.refl _ _) | (with_reducible refine bdn ?_ _) | (with_reducible refine Below.drew ?_) | (with_reducible refine Below.setCell ?_ ?_ _) | (with_reducible refine Below.alloc ?_ ?_ _) | go_size)) (hb1.mono (by go_size))
        have hz1_0 : w.heap.size < w1.heap.size := by have := hb1.size; simp at this; omega
        have hz1_1 : w.heap.size + 1 < w1.heap.size := by have := hb1.size; simp at this; omega
        go_wp2
        (try simp only [Exit.inBlock, Exit.then]); refine bodyPost_ret (by simp (maxDischargeDepth := 9) [results, Tryd.results47, go_sem, hc1, hz1_0, hz1_1]; try rfl) rfl ?_
        exact ⟨none, 0, rfl, Own.nil _ _ _, (by repeat' (first | (with_reducible assumption) | (with_reducible exact Below.refl _ _) | (with_reducible refine bdn ?_ _) | (with_reducible refine Below.drew ?_) | (with_reducible refine Below.setCell ?_ ?_ _) | (with_reducible refine Below.alloc ?_ ?_ _) | go_size))⟩
      · obtain ⟨b, off, rfl, _⟩ := h.open_ (by omega)
        have hne : ¬ c = m / 32 := by omega
        have HDD := Lib.hid (down_drop h.sm m)
        have hsub : (l.drop (m / 32)).length = l.length - m / 32 := by simp
        have HS := Lib.hid hsub
        clear hsub
        go_enter Tryd.func47, Tryd.ntmps47
        go_wp2_with fail
        refine (nat_Check _ l _ c rfl _ h1).mono ?_
        rintro e w1 ⟨rfl, hb1⟩
        rw [Hchk.out]
        obtain ⟨hc1, hf1⟩ := bcell hb1
        have hbw1 : Below w.heap.size w w1 := Below.trans (b := _) (by repeat' (first | (with_reducible assumption) | (with_reducible exact Below.refl _ _) | (with_reducible refine bdn ?_ _) | (with_reducible refine Below.drew ?_) | (with_reducible refine Below.setCell ?_ ?_ _) | (with_reducible refine Below.alloc ?_ ?_ _) | go_size)) (hb1.mono (by go_size))
        have hz1_0 : w.heap.size < w1.heap.size := by have := hb1.size; simp at this; omega
        have hz1_1 : w.heap.size + 1 < w1.heap.size := by have := hb1.size; simp at this; omega
        go_wp2_with fail
        refine (nat_lowered _ (l.drop (m / 32)) _ _ HS.out.symm _ (m % 32) (by omega) (by omega) (by have := HS.out; omega) _ ((h1.below hb1).drop (m / 32) (by omega))).mono ?_
        rintro e w2 ⟨o, g, ⟨hol, hov⟩, hos, hg, hrow, rfl, hb2⟩
        rw [HDD.out] at hov
        have HOL := Lib.hid hol
        have HOV := Lib.hid hov
        clear hol hov
        have hz2 : w.heap.size + 1 < w2.heap.size := by have := hb2.size; omega
        go_wp2_with fail
        refine (nat_trimmed_own g o _ _ w1.heap.size rfl (Nat.le_refl _) _ hrow hos (by have := HOL.out; have := HS.out; omega) hg).mono ?_
        rw [HOV.out]
        rintro e w3 ⟨A', c', rfl, ho, hA, hb3⟩
        have hz3 : w.heap.size + 1 < w3.heap.size := by have := hb3.size; omega
        have hc3 : w3.cell? ⟨w.heap.size + 1, 0, none⟩ = some (Value.slice none 0 0) := by
          rw [below_cell hb3 hz2, below_cell hb2 hz1_1, hc1 _ _ (by simp)]; simp [go_sem]
        have hf3 : w3.frozen? ⟨w.heap.size + 1, 0, none⟩ = false := by
          rw [below_frozen hb3 hz2, below_frozen hb2 hz1_1, hf1 _ _ (by simp)]; simp [go_sem]
        have hbw3 : Below w.heap.size w w3 := (hbw1.trans (hb2.mono (by omega))).trans (hb3.mono (by omega))
        clear hc1 hf1
        go_wp2
        (try simp only [Exit.inBlock, Exit.then]); refine bodyPost_ret (by simp (maxDischargeDepth := 9) [results, Tryd.results47, go_sem, hc3]; try rfl) rfl ?_
        exact ⟨_, _, rfl, (ho.setCell (by simp; omega) _).mono (by omega), (by repeat' (first | (with_reducible assumption) | (with_reducible exact Below.refl _ _) | (with_reducible refine bdn ?_ _) | (with_reducible refine Below.drew ?_) | (with_reducible refine Below.setCell ?_ ?_ _) | (with_reducible refine Below.alloc ?_ ?_ _) | go_size))⟩
  · have e0 : downS l m = ([], chk l) := by unfold downS; rw [if_neg hc0]
    have hne : (chk l != 0) = true := by rw [bne_iff_ne]; exact hc0
    rw [e0]
    clear hc0
    go_enter Tryd.func47, Tryd.ntmps47
    go_wp2_with fail
    refine (nat_Check A l _ c rfl _ h1).mono ?_
    rintro e w1 ⟨rfl, hb1⟩
    obtain ⟨hc1, hf1⟩ := bcell hb1
    have hbw1 : Below w.heap.size w w1 := Below.trans (b := _) (by repeat' (first | (with_reducible assumption) | (with_reducible exact Below.refl _ _) | (with_reducible refine bdn ?_ _) | (with_reducible refine Below.drew ?_) | (with_reducible refine Below.setCell ?_ ?_ _) | (with_reducible refine Below.alloc ?_ ?_ _) | go_size)) (hb1.mono (by go_size))
    have hz1_0 : w.heap.size < w1.heap.size := by have := hb1.size; simp at this; omega
    have hz1_1 : w.heap.size + 1 < w1.heap.size := by have := hb1.size; simp at this; omega
    go_wp2
    (try simp only [Exit.inBlock, Exit.then]); refine bodyPost_ret (by simp (maxDischargeDepth := 9) [results, Tryd.results47, go_sem, hc1, hz1_0, hz1_1]; try rfl) rfl ?_
    exact ⟨none, 0, rfl, Own.nil _ _ _, (by repeat' (first | (with_reducible assumption) | (with_reducible exact Below.refl _ _) | (with_reducible refine bdn ?_ _) | (with_reducible refine Below.drew ?_) | (with_reducible refine Below.setCell ?_ ?_ _) | (with_reducible refine Below.alloc ?_ ?_ _) | go_size))⟩
end Go.Proofs.YtenekbfnlbipiaaDoor
