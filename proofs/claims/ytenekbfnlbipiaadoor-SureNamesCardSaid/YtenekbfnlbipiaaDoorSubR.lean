/- Walks: the document's Sub; Twin. -/
import Derived.Test.YtenekbfnlbipiaaDoorSubN
import Derived.Test.YtenekbfnlbipiaaDoorSd
import Derived.Test.YtenekbfnlbipiaaDoorDn
import Derived.Test.YtenekbfnlbipiaaDoorTnC5
import Derived.Test.YtenekbfnlbipiaaDoorE
namespace Go.Proofs.YtenekbfnlbipiaaDoor
open Go.RowKit
set_option linter.unusedVariables false
set_option linter.unusedSimpArgs false
set_option maxHeartbeats 4000000
set_option maxRecDepth 100000

theorem ref_Sub (A B : Option Addr) (a b : List Nat) (n m c d : Nat) (hn : n = a.length) (hm : m = b.length) (w : World) (ha : Rd w A a) (hb : Rd w B b) :
    Calls Tryd.prog 61 #[.agg #[.slice A n c], .agg #[.slice B m d]] w (NatSub w (subS a b)) := by
  have ha2 := ((ha.alloc (Obj.cells #[Value.slice A n c] 56)).alloc (Obj.cells #[Value.slice B m d] 56)).alloc (Obj.cells #[Value.slice none 0 0] 56)
  have hb2 := ((hb.alloc (Obj.cells #[Value.slice A n c] 56)).alloc (Obj.cells #[Value.slice B m d] 56)).alloc (Obj.cells #[Value.slice none 0 0] 56)
  have HN := Lib.hid hn
  have HM := Lib.hid hm
  by_cases hz : chk2 a b = 0
  · have hl1 : n ≤ 16384 := by rw [hn]; exact (chk_zero (chk2_zero hz).1).1
    have hl2 : m ≤ 16384 := by rw [hm]; exact (chk_zero (chk2_zero hz).2).1
    have HZ := Lib.hid hz
    have hneg := cmp_neg hz ha.sm hb.sm
    by_cases hlt : val a < val b
    · have e : subS a b = ([], false, 0) := by unfold subS; rw [if_pos hz, if_pos hlt]
      have hcmp : decide (cmpL a b < 0) = true := by rw [decide_eq_true_iff]; exact hneg.2 hlt
      rw [e]
      clear hz e hn hm hneg hlt
      go_enter Tryd.func61, Tryd.ntmps61
      go_wp2_with fail
      refine (ref_two A B a b _ _ c d HN.out HM.out _ ha2 hb2).mono ?_
      rintro e w1 ⟨rfl, hb1⟩
      rw [HZ.out]
      obtain ⟨hc1, hf1⟩ := bcell hb1
      have hbw1 : Below w.heap.size w w1 := Below.trans (b := _) (by repeat' (first | (with_reducible assumption) | (with_reducible exact Below.refl _ _) | (with_reducible refine bdn ?_ _) | (with_reducible refine Below.drew ?_) | (with_reducible refine Below.setCell ?_ ?_ _) | (with_reducible refine Below.alloc ?_ ?_ _) | go_size)) (hb1.mono (by go_size))
      have hz1_0 : w.heap.size < w1.heap.size := by have := hb1.size; simp at this; omega
      have hz1_1 : w.heap.size + 1 < w1.heap.size := by have := hb1.size; simp at this; omega
      have hz1_2 : w.heap.size + 2 < w1.heap.size := by have := hb1.size; simp at this; omega
      go_wp2_with fail
      refine (ref_cmp A B a b _ _ c d HN.out HM.out _ (ha2.below hb1) (hb2.below hb1)).mono ?_
      rintro e w2 ⟨rfl, hb2'⟩
      have hbw2 := hbw1.trans (hb2'.mono hbw1.size)
      have c2 : w2.cell? ⟨w.heap.size + 2, 0, none⟩ = some (Value.slice none 0 0) := by rw [below_cell hb2' hz1_2, hc1 _ _ (by go_size)]; simp [go_sem]
      have f2 : w2.frozen? ⟨w.heap.size + 2, 0, none⟩ = false := by rw [below_frozen hb2' hz1_2, hf1 _ _ (by go_size)]; simp [go_sem]
      have z2 := cell_lt c2
      simp only at z2
      clear ha2 hb2 hb1 hc1 hf1
      go_wp2
      (try simp only [Exit.inBlock, Exit.then]); refine bodyPost_ret (by simp (maxDischargeDepth := 9) [results, Tryd.results61, go_sem, c2, z2]; try rfl) rfl ?_
      exact ⟨none, 0, rfl, Own.nil _ _ _, hbw2.setCell (p := ⟨w.heap.size + 2, 0, none⟩) (Nat.le_add_right _ _) _⟩
    · have e : subS a b = (limbs (val a - val b), true, 0) := by unfold subS; rw [if_pos hz, if_neg hlt]
      have hcmp : decide (cmpL a b < 0) = false := by rw [decide_eq_false_iff_not]; exact fun h => hlt (hneg.1 h)
      have hlen : b.length ≤ a.length := len_le_of_val ha.sm (chk_zero (chk2_zero hz).2).2 hb.sm (by omega)
      have hle : val b ≤ val a := by omega
      have hal : a.length ≤ 1000000 := by omega
      rw [e]
      clear hz e hn hm hneg hlt
      go_enter Tryd.func61, Tryd.ntmps61
      go_wp2_with fail
      refine (ref_two A B a b _ _ c d HN.out HM.out _ ha2 hb2).mono ?_
      rintro e w1 ⟨rfl, hb1⟩
      rw [HZ.out]
      obtain ⟨hc1, hf1⟩ := bcell hb1
      have hbw1 : Below w.heap.size w w1 := Below.trans (b := _) (by repeat' (first | (with_reducible assumption) | (with_reducible exact Below.refl _ _) | (with_reducible refine bdn ?_ _) | (with_reducible refine Below.drew ?_) | (with_reducible refine Below.setCell ?_ ?_ _) | (with_reducible refine Below.alloc ?_ ?_ _) | go_size)) (hb1.mono (by go_size))
      have hz1_0 : w.heap.size < w1.heap.size := by have := hb1.size; simp at this; omega
      have hz1_1 : w.heap.size + 1 < w1.heap.size := by have := hb1.size; simp at this; omega
      have hz1_2 : w.heap.size + 2 < w1.heap.size := by have := hb1.size; simp at this; omega
      go_wp2_with fail
      refine (ref_cmp A B a b _ _ c d HN.out HM.out _ (ha2.below hb1) (hb2.below hb1)).mono ?_
      rintro e w2 ⟨rfl, hb2'⟩
      have hbw2 := hbw1.trans (hb2'.mono hbw1.size)
      have c0 : w2.cell? ⟨w.heap.size, 0, none⟩ = some (Value.slice A n c) := by rw [below_cell hb2' hz1_0, hc1 _ _ (by go_size)]; simp [go_sem]
      have c1 : w2.cell? ⟨w.heap.size + 1, 0, none⟩ = some (Value.slice B m d) := by rw [below_cell hb2' hz1_1, hc1 _ _ (by go_size)]; simp [go_sem]
      have c2 : w2.cell? ⟨w.heap.size + 2, 0, none⟩ = some (Value.slice none 0 0) := by rw [below_cell hb2' hz1_2, hc1 _ _ (by go_size)]; simp [go_sem]
      have f2 : w2.frozen? ⟨w.heap.size + 2, 0, none⟩ = false := by rw [below_frozen hb2' hz1_2, hf1 _ _ (by go_size)]; simp [go_sem]
      have z0 := cell_lt c0
      have z1 := cell_lt c1
      have z2 := cell_lt c2
      simp only at z0 z1 z2
      have hx := (ha2.below hb1).below hb2'
      have hy := (hb2.below hb1).below hb2'
      clear ha2 hb2 hb1 hc1 hf1 hb2' hbw1 hz1_0 hz1_1 hz1_2
      go_wp2_with fail
      refine (ref_less A B a b _ _ c d HN.out HM.out hal hle hlen _ hx hy).mono ?_
      rintro e w3 ⟨A3, c3, rfl, hle3, ho3, hb3⟩
      go_wp2_with fail
      refine (ref_nat A3 _ c3 _).mono ?_
      rintro e w4 ⟨rfl, hb4⟩
      have hb34 := hb3.trans (hb4.mono hb3.size)
      have ho4 := ho3.below hb4 (Nat.le_refl _)
      have e2 := cell_keep hb34 c2
      have ef2 := (below_frozen hb34 (b := w.heap.size + 2) (o := 0) z2).trans f2
      have x2 := cell_lt e2
      simp only at x2
      have hbw4 := hbw2.trans (hb34.mono hbw2.size)
      go_wp2
      (try simp only [Exit.inBlock, Exit.then]); refine bodyPost_ret (by simp (maxDischargeDepth := 9) [results, Tryd.results61, go_sem, e2, x2]; try rfl) rfl ?_
      exact ⟨A3, c3, rfl, (ho4.setCell (p := ⟨w.heap.size + 2, 0, none⟩) z2 _).mono hbw2.size, hbw4.setCell (p := ⟨w.heap.size + 2, 0, none⟩) (Nat.le_add_right _ _) _⟩
  · have e : subS a b = ([], false, chk2 a b) := by unfold subS; rw [if_neg hz]
    have hne : (chk2 a b != 0) = true := by rw [bne_iff_ne]; exact hz
    rw [e]
    clear hz e hn hm
    go_enter Tryd.func61, Tryd.ntmps61
    go_wp2_with fail
    refine (ref_two A B a b _ _ c d HN.out HM.out _ ha2 hb2).mono ?_
    rintro e w1 ⟨rfl, hb1⟩
    obtain ⟨hc1, hf1⟩ := bcell hb1
    have hbw1 : Below w.heap.size w w1 := Below.trans (b := _) (by repeat' (first | (with_reducible assumption) | (with_reducible exact Below.refl _ _) | (with_reducible refine bdn ?_ _) | (with_reducible refine Below.drew ?_) | (with_reducible refine Below.setCell ?_ ?_ _) | (with_reducible refine Below.alloc ?_ ?_ _) | go_size)) (hb1.mono (by go_size))
    have hz1_0 : w.heap.size < w1.heap.size := by have := hb1.size; simp at this; omega
    have hz1_1 : w.heap.size + 1 < w1.heap.size := by have := hb1.size; simp at this; omega
    have hz1_2 : w.heap.size + 2 < w1.heap.size := by have := hb1.size; simp at this; omega
    go_wp2
    (try simp only [Exit.inBlock, Exit.then]); refine bodyPost_ret (by simp (maxDischargeDepth := 9) [results, Tryd.results61, go_sem, hc1, hz1_2]; try rfl) rfl ?_
    exact ⟨none, 0, rfl, Own.nil _ _ _, (by repeat' (first | (with_reducible assumption) | (with_reducible exact Below.refl _ _) | (with_reducible refine bdn ?_ _) | (with_reducible refine Below.drew ?_) | (with_reducible refine Below.setCell ?_ ?_ _) | (with_reducible refine Below.alloc ?_ ?_ _) | go_size))⟩

end Go.Proofs.YtenekbfnlbipiaaDoor
namespace Go.Proofs.YtenekbfnlbipiaaDoor
open Go.RowKit
set_option linter.unusedVariables false
set_option linter.unusedSimpArgs false
set_option maxHeartbeats 4000000
set_option maxRecDepth 100000

theorem ref_Down (A : Option Addr) (l : List Nat) (n c : Nat) (hn : n = l.length) (m : Int) (hm1 : -9223372036854775808 ≤ m) (hm2 : m ≤ 9223372036854775807) (w : World) (h : Rd w A l) :
    Calls Tryd.prog 29 #[.agg #[.slice A n c], .int .i64 m] w (NatAns 90 w (downS l m)) := by
  subst hn
  have hl := h.len
  have h1 := (h.alloc (Obj.cells #[Value.slice A l.length c] 56)).alloc (Obj.cells #[Value.slice none 0 0] 56)
  by_cases hc0 : chk l = 0
  · have hlen := (chk_zero hc0).1
    have Hchk : Hid (chk l = 0) := hc0
    have e0 : Hid (downS l m = if m < 0 then ([], 2) else (limbs (val l / 2 ^ m.toNat), 0)) := by
      show downS l m = _
      unfold downS; rw [if_pos hc0]
    clear hc0
    by_cases hm0 : m < 0
    · rw [e0.out, if_pos hm0]
      go_enter Tryd.func29, Tryd.ntmps29
      go_wp2_with fail
      refine (ref_Check A l _ c rfl _ h1).mono ?_
      rintro e w1 ⟨rfl, hb1⟩
      rw [Hchk.out]
      obtain ⟨hc1, hf1⟩ := bcell hb1
      have hbw1 : Below w.heap.size w w1 := Below.trans (b := _) (by repeat' (first | (with_reducible assumption) | (with_reducible exact Below.refl _ _) | (with_reducible refine bdn ?_ _) | (with_reducible refine Below.drew ?_) | (with_reducible refine Below.setCell ?_ ?_ _) | (with_reducible refine Below.alloc ?_ ?_ _) | go_size)) (hb1.mono (by go_size))
      have hz1_0 : w.heap.size < w1.heap.size := by have := hb1.size; simp at this; omega
      have hz1_1 : w.heap.size + 1 < w1.heap.size := by have := hb1.size; simp at this; omega
      go_wp2
      (try simp only [Exit.inBlock, Exit.then]); refine bodyPost_ret (by simp (maxDischargeDepth := 9) [results, Tryd.results29, go_sem, hc1, hz1_0, hz1_1]; try rfl) rfl ?_
      exact ⟨none, 0, rfl, Own.nil _ _ _, (by repeat' (first | (with_reducible assumption) | (with_reducible exact Below.refl _ _) | (with_reducible refine bdn ?_ _) | (with_reducible refine Below.drew ?_) | (with_reducible refine Below.setCell ?_ ?_ _) | (with_reducible refine Below.alloc ?_ ?_ _) | go_size))⟩
    · rw [e0.out, if_neg hm0]
      obtain ⟨m, rfl⟩ : ∃ k : Nat, m = (k : Int) := ⟨m.toNat, by omega⟩
      rw [Int.toNat_natCast]
      go_enter Tryd.func29, Tryd.ntmps29
      go_wp2_with fail
      refine (ref_Check A l _ c rfl _ h1).mono ?_
      rintro e w1 ⟨rfl, hb1⟩
      rw [Hchk.out]
      obtain ⟨hc1, hf1⟩ := bcell hb1
      have hbw1 : Below w.heap.size w w1 := Below.trans (b := _) (by repeat' (first | (with_reducible assumption) | (with_reducible exact Below.refl _ _) | (with_reducible refine bdn ?_ _) | (with_reducible refine Below.drew ?_) | (with_reducible refine Below.setCell ?_ ?_ _) | (with_reducible refine Below.alloc ?_ ?_ _) | go_size)) (hb1.mono (by go_size))
      have hz1_0 : w.heap.size < w1.heap.size := by have := hb1.size; simp at this; omega
      have hz1_1 : w.heap.size + 1 < w1.heap.size := by have := hb1.size; simp at this; omega
      go_wp2_with fail
      refine (ref_down A l _ c rfl m (by omega) (by omega) _ (h1.below hb1)).mono ?_
      rintro e w2 ⟨A', c', rfl, _, ho, hb2⟩
      have hz2 : w.heap.size + 1 < w2.heap.size := by have := hb2.size; omega
      go_wp2_with fail
      refine (ref_nat _ _ _ _).mono ?_
      rintro e w3 ⟨rfl, hb3⟩
      have hz3 : w.heap.size + 1 < w3.heap.size := by have := hb3.size; omega
      have hc3 : w3.cell? ⟨w.heap.size + 1, 0, none⟩ = some (Value.slice none 0 0) := by
        rw [below_cell hb3 hz2, below_cell hb2 hz1_1, hc1 _ _ (by simp)]; simp [go_sem]
      have hf3 : w3.frozen? ⟨w.heap.size + 1, 0, none⟩ = false := by
        rw [below_frozen hb3 hz2, below_frozen hb2 hz1_1, hf1 _ _ (by simp)]; simp [go_sem]
      have hbw3 : Below w.heap.size w w3 := (hbw1.trans (hb2.mono (by omega))).trans (hb3.mono (by omega))
      clear hc1 hf1
      go_wp2
      (try simp only [Exit.inBlock, Exit.then]); refine bodyPost_ret (by simp (maxDischargeDepth := 9) [results, Tryd.results29, go_sem, hc3]; try rfl) rfl ?_
      exact ⟨_, _, rfl, ((ho.below hb3 (Nat.le_refl _)).setCell (by simp; omega) _).mono (by omega), (by repeat' (first | (with_reducible assumption) | (with_reducible exact Below.refl _ _) | (with_reducible refine bdn ?_ _) | (with_reducible refine Below.drew ?_) | (with_reducible refine Below.setCell ?_ ?_ _) | (with_reducible refine Below.alloc ?_ ?_ _) | go_size))⟩
  · have e0 : downS l m = ([], chk l) := by unfold downS; rw [if_neg hc0]
    have hne : (chk l != 0) = true := by rw [bne_iff_ne]; exact hc0
    rw [e0]
    clear hc0
    go_enter Tryd.func29, Tryd.ntmps29
    go_wp2_with fail
    refine (ref_Check A l _ c rfl _ h1).mono ?_
    rintro e w1 ⟨rfl, hb1⟩
    obtain ⟨hc1, hf1⟩ := bcell hb1
    have hbw1 : Below w.heap.size w w1 := Below.trans (b := _) (by repeat' (first | (with_reducible assumption) | (with_reducible exact Below.refl _ _) | (with_reducible refine bdn ?_ _) | (with_reducible refine Below.drew ?_) | (with_reducible refine Below.setCell ?_ ?_ _) | (with_reducible refine Below.alloc ?_ ?_ _) | go_size)) (hb1.mono (by go_size))
    have hz1_0 : w.heap.size < w1.heap.size := by have := hb1.size; simp at this; omega
    have hz1_1 : w.heap.size + 1 < w1.heap.size := by have := hb1.size; simp at this; omega
    go_wp2
    (try simp only [Exit.inBlock, Exit.then]); refine bodyPost_ret (by simp (maxDischargeDepth := 9) [results, Tryd.results29, go_sem, hc1, hz1_0, hz1_1]; try rfl) rfl ?_
    exact ⟨none, 0, rfl, Own.nil _ _ _, (by repeat' (first | (with_reducible assumption) | (with_reducible exact Below.refl _ _) | (with_reducible refine bdn ?_ _) | (with_reducible refine Below.drew ?_) | (with_reducible refine Below.setCell ?_ ?_ _) | (with_reducible refine Below.alloc ?_ ?_ _) | go_size))⟩

theorem down_drop {l : List Nat} (h : Sm l) (m : Nat) : val (l.drop (m / 32)) / 2 ^ (m % 32) = val l / 2 ^ m := by
  rw [val_drop l h, Nat.div_div_eq_div_mul]
  congr 1
  have : 4294967296 ^ (m / 32) = 2 ^ (32 * (m / 32)) := by rw [Nat.pow_mul]
  rw [this, ← Nat.pow_add]
  congr 1
  omega
theorem Rd.drop {w : World} {b off : Nat} {l : List Nat} (h : Rd w (some ⟨b, off, none⟩) l) (q : Nat) (hq : q < l.length) : Rd w (some ⟨b, off + q, none⟩) (l.drop q) := by
  refine ⟨h.1.drop q, by have := h.2.1; simp; omega, fun hn => ⟨b, off + q, rfl, fun j hj => ?_⟩⟩
  obtain ⟨b', off', e, hc⟩ := h.open_ (by omega)
  injection e with e; injection e with e1 e2
  subst e1 e2
  simp only [List.length_drop] at hj
  have e : nth (l.drop q) j = nth l (q + j) := by
    rw [nth_lt _ (by simp; omega), nth_lt _ (by omega)]; simp
  rw [e, Nat.add_assoc]
  exact hc (q + j) (by omega)

theorem nat_Down (A : Option Addr) (l : List Nat) (n c : Nat) (hn : n = l.length) (hnc : n ≤ c) (m : Int) (hm1 : -9223372036854775808 ≤ m) (hm2 : m ≤ 9223372036854775807) (w : World) (h : Rd w A l) :
    Calls Tryd.prog 47 #[.agg #[.slice A n c], .int .i64 m] w (NatAns 90 w (downS l m)) := by
  subst hn
  have hl := h.len
  have h1 := (h.alloc (Obj.cells #[Value.slice A l.length c] 56)).alloc (Obj.cells #[Value.slice none 0 0] 56)
  by_cases hc0 : chk l = 0
  · have hlen := (chk_zero hc0).1
    have Hchk : Hid (chk l = 0) := hc0
    have e0 : Hid (downS l m = if m < 0 then ([], 2) else (limbs (val l / 2 ^ m.toNat), 0)) := by
      show downS l m = _
      unfold downS; rw [if_pos hc0]
    clear hc0
    by_cases hm0 : m < 0
    · rw [e0.out, if_pos hm0]
      go_enter Tryd.func47, Tryd.ntmps47
      go_wp2_with fail
      refine (nat_Check A l _ c rfl _ h1).mono ?_
      rintro e w1 ⟨rfl, hb1⟩
      rw [Hchk.out]
      obtain ⟨hc1, hf1⟩ := bcell hb1
      have hbw1 : Below w.heap.size w w1 := Below.trans (b := _) (by repeat' (first | (with_reducible assumption) | (with_reducible exact Below.refl _ _) | (with_reducible refine bdn ?_ _) | (with_reducible refine Below.drew ?_) | (with_reducible refine Below.setCell ?_ ?_ _) | (with_reducible refine Below.alloc ?_ ?_ _) | go_size)) (hb1.mono (by go_size))
      have hz1_0 : w.heap.size < w1.heap.size := by have := hb1.size; simp at this; omega
      have hz1_1 : w.heap.size + 1 < w1.heap.size := by have := hb1.size; simp at this; omega
      go_wp2
      (try simp only [Exit.inBlock, Exit.then]); refine bodyPost_ret (by simp (maxDischargeDepth := 9) [results, Tryd.results47, go_sem, hc1, hz1_0, hz1_1]; try rfl) rfl ?_
      exact ⟨none, 0, rfl, Own.nil _ _ _, (by repeat' (first | (with_reducible assumption) | (with_reducible exact Below.refl _ _) | (with_reducible refine bdn ?_ _) | (with_reducible refine Below.drew ?_) | (with_reducible refine Below.setCell ?_ ?_ _) | (with_reducible refine Below.alloc ?_ ?_ _) | go_size))⟩
    · rw [e0.out, if_neg hm0]
      obtain ⟨m, rfl⟩ : ∃ k : Nat, m = (k : Int) := ⟨m.toNat, by omega⟩
      rw [Int.toNat_natCast]
      by_cases hq : l.length ≤ m / 32
      · have hz := down_zero h.sm hq
        rw [hz, limbs_zero]
        clear hz
        go_enter Tryd.func47, Tryd.ntmps47
        go_wp2_with fail
        refine (nat_Check A l _ c rfl _ h1).mono ?_
        rintro e w1 ⟨rfl, hb1⟩
        rw [Hchk.out]
        obtain ⟨hc1, hf1⟩ := bcell hb1
        have hbw1 : Below w.heap.size w w1 := Below.trans (b := _) (by repeat' (first | (with_reducible assumption) | (with_reducible exact Below.refl _ _) | (with_reducible refine bdn ?_ _) | (with_reducible refine Below.drew ?_) | (with_reducible refine Below.setCell ?_ ?_ _) | (with_reducible refine Below.alloc ?_ ?_ _) | go_size)) (hb1.mono (by go_size))
        have hz1_0 : w.heap.size < w1.heap.size := by have := hb1.size; simp at this; omega
        have hz1_1 : w.heap.size + 1 < w1.heap.size := by have := hb1.size; simp at this; omega
        go_wp2
        (try simp only [Exit.inBlock, Exit.then]); refine bodyPost_ret (by simp (maxDischargeDepth := 9) [results, Tryd.results47, go_sem, hc1, hz1_0, hz1_1]; try rfl) rfl ?_
        exact ⟨none, 0, rfl, Own.nil _ _ _, (by repeat' (first | (with_reducible assumption) | (with_reducible exact Below.refl _ _) | (with_reducible refine bdn ?_ _) | (with_reducible refine Below.drew ?_) | (with_reducible refine Below.setCell ?_ ?_ _) | (with_reducible refine Below.alloc ?_ ?_ _) | go_size))⟩
      · obtain ⟨b, off, rfl, _⟩ := h.open_ (by omega)
        have hne : ¬ c = m / 32 := by omega
        have HDD := Lib.hid (down_drop h.sm m)
        have hsub : (l.drop (m / 32)).length = l.length - m / 32 := by simp
        have HS := Lib.hid hsub
        clear hsub
        go_enter Tryd.func47, Tryd.ntmps47
        go_wp2_with fail
        refine (nat_Check _ l _ c rfl _ h1).mono ?_
        rintro e w1 ⟨rfl, hb1⟩
        rw [Hchk.out]
        obtain ⟨hc1, hf1⟩ := bcell hb1
        have hbw1 : Below w.heap.size w w1 := Below.trans (b := _) (by repeat' (first | (with_reducible assumption) | (with_reducible exact Below.refl _ _) | (with_reducible refine bdn ?_ _) | (with_reducible refine Below.drew ?_) | (with_reducible refine Below.setCell ?_ ?_ _) | (with_reducible refine Below.alloc ?_ ?_ _) | go_size)) (hb1.mono (by go_size))
        have hz1_0 : w.heap.size < w1.heap.size := by have := hb1.size; simp at this; omega
        have hz1_1 : w.heap.size + 1 < w1.heap.size := by have := hb1.size; simp at this; omega
        go_wp2_with fail
        refine (nat_lowered _ (l.drop (m / 32)) _ _ HS.out.symm _ (m % 32) (by omega) (by omega) (by have := HS.out; omega) _ ((h1.below hb1).drop (m / 32) (by omega))).mono ?_
        rintro e w2 ⟨o, g, ⟨hol, hov⟩, hos, hg, hrow, rfl, hb2⟩
        rw [HDD.out] at hov
        have HOL := Lib.hid hol
        have HOV := Lib.hid hov
        clear hol hov
        have hz2 : w.heap.size + 1 < w2.heap.size := by have := hb2.size; omega
        go_wp2_with fail
        refine (nat_trimmed_own g o _ _ w1.heap.size rfl (Nat.le_refl _) _ hrow hos (by have := HOL.out; have := HS.out; omega) hg).mono ?_
        rw [HOV.out]
        rintro e w3 ⟨A', c', rfl, ho, hA, hb3⟩
        have hz3 : w.heap.size + 1 < w3.heap.size := by have := hb3.size; omega
        have hc3 : w3.cell? ⟨w.heap.size + 1, 0, none⟩ = some (Value.slice none 0 0) := by
          rw [below_cell hb3 hz2, below_cell hb2 hz1_1, hc1 _ _ (by simp)]; simp [go_sem]
        have hf3 : w3.frozen? ⟨w.heap.size + 1, 0, none⟩ = false := by
          rw [below_frozen hb3 hz2, below_frozen hb2 hz1_1, hf1 _ _ (by simp)]; simp [go_sem]
        have hbw3 : Below w.heap.size w w3 := (hbw1.trans (hb2.mono (by omega))).trans (hb3.mono (by omega))
        clear hc1 hf1
        go_wp2
        (try simp only [Exit.inBlock, Exit.then]); refine bodyPost_ret (by simp (maxDischargeDepth := 9) [results, Tryd.results47, go_sem, hc3]; try rfl) rfl ?_
        exact ⟨_, _, rfl, (ho.setCell (by simp; omega) _).mono (by omega), (by repeat' (first | (with_reducible assumption) | (with_reducible exact Below.refl _ _) | (with_reducible refine bdn ?_ _) | (with_reducible refine Below.drew ?_) | (with_reducible refine Below.setCell ?_ ?_ _) | (with_reducible refine Below.alloc ?_ ?_ _) | go_size))⟩
  · have e0 : downS l m = ([], chk l) := by unfold downS; rw [if_neg hc0]
    have hne : (chk l != 0) = true := by rw [bne_iff_ne]; exact hc0
    rw [e0]
    clear hc0
    go_enter Tryd.func47, Tryd.ntmps47
    go_wp2_with fail
    refine (nat_Check A l _ c rfl _ h1).mono ?_
    rintro e w1 ⟨rfl, hb1⟩
    obtain ⟨hc1, hf1⟩ := bcell hb1
    have hbw1 : Below w.heap.size w w1 := Below.trans (b := _) (by repeat' (first | (with_reducible assumption) | (with_reducible exact Below.refl _ _) | (with_reducible refine bdn ?_ _) | (with_reducible refine Below.drew ?_) | (with_reducible refine Below.setCell ?_ ?_ _) | (with_reducible refine Below.alloc ?_ ?_ _) | go_size)) (hb1.mono (by go_size))
    have hz1_0 : w.heap.size < w1.heap.size := by have := hb1.size; simp at this; omega
    have hz1_1 : w.heap.size + 1 < w1.heap.size := by have := hb1.size; simp at this; omega
    go_wp2
    (try simp only [Exit.inBlock, Exit.then]); refine bodyPost_ret (by simp (maxDischargeDepth := 9) [results, Tryd.results47, go_sem, hc1, hz1_0, hz1_1]; try rfl) rfl ?_
    exact ⟨none, 0, rfl, Own.nil _ _ _, (by repeat' (first | (with_reducible assumption) | (with_reducible exact Below.refl _ _) | (with_reducible refine bdn ?_ _) | (with_reducible refine Below.drew ?_) | (with_reducible refine Below.setCell ?_ ?_ _) | (with_reducible refine Below.alloc ?_ ?_ _) | go_size))⟩
end Go.Proofs.YtenekbfnlbipiaaDoor
namespace Go.Proofs.YtenekbfnlbipiaaDoor
open Go.RowKit
set_option linter.unusedVariables false
set_option linter.unusedSimpArgs false
set_option maxHeartbeats 4000000
set_option maxRecDepth 100000

theorem chk_lim {v k : Nat} (h : v < 4294967296 ^ k) (hk : k ≤ 16384) : chk (limbs v) = 0 := chk_limbs_of (Nat.le_trans ((length_limbs_le v k).2 h) hk)
theorem downS_lim {v k : Nat} (h : v < 4294967296 ^ k) (hk : k ≤ 16384) (n : Nat) : downS (limbs v) (n : Int) = (limbs (v / 2 ^ n), 0) := by
  unfold downS; rw [if_pos (chk_lim h hk), if_neg (by omega), val_limbs, Int.toNat_natCast]
theorem upS_lim {v k : Nat} (h : v < 4294967296 ^ k) (hk : k ≤ 10000) (n : Nat) (hn : n ≤ 100000) : upS (limbs v) (n : Int) = (limbs (v * 2 ^ n), 0) := by
  unfold upS
  rw [if_pos (chk_lim h (by omega)), if_neg (by omega), val_limbs, Int.toNat_natCast]
  by_cases h0 : limbs v = []
  · rw [if_pos h0]
    have : v = 0 := limbs_eq_nil.1 h0
    rw [this, Nat.zero_mul]; rfl
  · rw [if_neg h0, if_neg]
    have h1 : v < 2 ^ (32 * k) := by rw [Nat.pow_mul]; exact h
    have h2 : bitLen v ≤ 32 * k := by
      unfold bitLen
      split
      · omega
      · rename_i h3; have := (Nat.log2_lt h3).2 h1; omega
    omega
theorem lowS_lim {v : Nat} (h : v < 4294967296 ^ 2) : lowS (limbs v) = (v, true) := by
  unfold lowS; rw [if_pos ⟨chk_lim h (by decide), (length_limbs_le v 2).2 h⟩, val_limbs]
theorem subS_lim {u v k : Nat} (hu : u < 4294967296 ^ k) (hv : v < 4294967296 ^ k) (hk : k ≤ 16384) (h : v ≤ u) : subS (limbs u) (limbs v) = (limbs (u - v), true, 0) := by
  unfold subS
  rw [if_pos (by unfold chk2; rw [if_pos (chk_lim hu hk)]; exact chk_lim hv hk), val_limbs, val_limbs, if_neg (by omega)]
theorem bitsS_lim {v k : Nat} (h : v < 4294967296 ^ k) (hk : k ≤ 16384) : bitsS (limbs v) = (((bitLen v : Nat) : Int), 0) := by
  unfold bitsS; rw [if_pos (chk_lim h hk), val_limbs]
theorem ref_bits (A : Option Addr) (v n c : Nat) (hn : n = (limbs v).length) (hv4 : v < 4294967296 ^ 4) (w : World) (hrd : Rd w A (limbs v)) :
    Calls Tryd.prog 31 #[.agg #[.slice A n c]] w (Says w (.tuple #[.int .u64 ((v / 2 ^ 64 : Nat) : Int), .int .u64 ((v % 2 ^ 64 : Nat) : Int)])) := by
  have hD := downS_lim (k := 4) hv4 (by decide) 64
  have hU := upS_lim (v := v / 2 ^ 64) (k := 4) (Nat.lt_of_le_of_lt (Nat.div_le_self _ _) hv4) (by decide) 64 (by decide)
  have hH2 : v / 2 ^ 64 < 4294967296 ^ 2 := by
    rw [Nat.div_lt_iff_lt_mul (by decide)]
    exact Nat.lt_of_lt_of_le hv4 (by decide)
  have hL1 := lowS_lim hH2
  have hle : v / 2 ^ 64 * 2 ^ 64 ≤ v := Nat.div_mul_le_self _ _
  have hS := subS_lim (k := 4) hv4 (Nat.lt_of_le_of_lt hle hv4) (by decide) hle
  have hmod : v - v / 2 ^ 64 * 2 ^ 64 = v % 2 ^ 64 := by have := Nat.div_add_mod v (2 ^ 64); rw [Nat.mul_comm] at this; omega
  rw [hmod] at hS
  have hL2 := lowS_lim (v := v % 2 ^ 64) (Nat.lt_of_lt_of_le (Nat.mod_lt _ (by decide)) (by decide))
  obtain ⟨H, hH⟩ : ∃ H, H = v / 2 ^ 64 := ⟨_, rfl⟩
  obtain ⟨L, hL⟩ : ∃ L, L = v % 2 ^ 64 := ⟨_, rfl⟩
  obtain ⟨U, hUe⟩ : ∃ U, U = H * 2 ^ 64 := ⟨_, rfl⟩
  rw [← hH] at hD hU hL1 hS hH2 ⊢
  rw [← hUe] at hU hS
  rw [← hL] at hS hL2 ⊢
  have HD := Lib.hid (show downS (limbs v) 64 = (limbs H, 0) from hD)
  have HU := Lib.hid (show upS (limbs H) 64 = (limbs U, 0) from hU)
  have HL1 := Lib.hid hL1
  have HL2 := Lib.hid hL2
  have HS := Lib.hid hS
  clear hD hU hL1 hL2 hS hmod hle hH hL hUe hH2 hv4
  subst hn
  have hb0 : Below w.heap.size w w := Below.refl _ _
  go_enter Tryd.func31, Tryd.ntmps31
  go_wp2_with fail
  have hv1 : Below w.heap.size w (w.alloc (.cells #[.slice A (limbs v).length c] 56)) := (Below.refl _ _).alloc (by first | exact Nat.le_refl _ | (simp; done) | (simp; omega)) _
  have k1 : Blk (w.alloc (.cells #[.slice A (limbs v).length c] 56)) (w.heap.size) 56 #[.slice A (limbs v).length c] := Blk.new w 56 #[.slice A (limbs v).length c]
  replace hb0 := hb0.trans (hv1.mono hb0.size)
  replace hrd := hrd.below hv1
  generalize (w.alloc (.cells #[.slice A (limbs v).length c] 56)) = v1 at *
  clear hv1
  refine (ref_Down A (limbs v) _ c rfl 64 (by decide) (by decide) _ hrd).mono ?_
  rw [HD.out]
  rintro e w2 ⟨A1, c1, rfl, o1, hb2⟩
  replace hb0 := hb0.trans (hb2.mono hb0.size)
  replace hrd := hrd.below hb2
  replace k1 := k1.below hb2 k1.lt
  clear hb2
  have k1_c0 := k1.cell 0
  have k1_f0 := k1.frozen 0
  have k1_z := k1.lt
  simp only [List.getElem?_toArray, List.getElem?_cons_zero, List.getElem?_cons_succ] at k1_c0
  go_wp2_with fail
  clear k1_c0 k1_f0 k1_z
  have hv3 : Below w2.heap.size w2 (w2.alloc (.cells #[.slice A1 (limbs H).length c1] 56)) := (Below.refl _ _).alloc (by first | exact Nat.le_refl _ | (simp; done) | (simp; omega)) _
  have k4 : Blk (w2.alloc (.cells #[.slice A1 (limbs H).length c1] 56)) (w2.heap.size) 56 #[.slice A1 (limbs H).length c1] := Blk.new w2 56 #[.slice A1 (limbs H).length c1]
  replace hb0 := hb0.trans (hv3.mono hb0.size)
  replace hrd := hrd.below hv3
  replace k1 := k1.below hv3 k1.lt
  replace o1 := o1.below hv3 (Nat.le_refl _)
  generalize (w2.alloc (.cells #[.slice A1 (limbs H).length c1] 56)) = v3 at *
  clear hv3
  refine (ref_Low A1 (limbs H) _ c1 rfl _ o1.rd).mono ?_
  rw [HL1.out]
  rintro e w4 ⟨rfl, hb4⟩
  replace hb0 := hb0.trans (hb4.mono hb0.size)
  replace hrd := hrd.below hb4
  replace k1 := k1.below hb4 k1.lt
  replace o1 := o1.below hb4 (Nat.le_refl _)
  replace k4 := k4.below hb4 k4.lt
  clear hb4
  have k1_c0 := k1.cell 0
  have k1_f0 := k1.frozen 0
  have k1_z := k1.lt
  have k4_c0 := k4.cell 0
  have k4_f0 := k4.frozen 0
  have k4_z := k4.lt
  simp only [List.getElem?_toArray, List.getElem?_cons_zero, List.getElem?_cons_succ] at k1_c0 k4_c0
  go_wp2_with fail
  clear k1_c0 k1_f0 k1_z k4_c0 k4_f0 k4_z
  refine (ref_Up A1 (limbs H) _ c1 rfl 64 (by decide) (by decide) _ o1.rd).mono ?_
  rw [HU.out]
  rintro e w5 ⟨A2, c2, rfl, o2, hb5⟩
  replace hb0 := hb0.trans (hb5.mono hb0.size)
  replace hrd := hrd.below hb5
  replace k1 := k1.below hb5 k1.lt
  replace o1 := o1.below hb5 (Nat.le_refl _)
  replace k4 := k4.below hb5 k4.lt
  clear hb5
  have k1_c0 := k1.cell 0
  have k1_f0 := k1.frozen 0
  have k1_z := k1.lt
  have k4_c0 := k4.cell 0
  have k4_f0 := k4.frozen 0
  have k4_z := k4.lt
  simp only [List.getElem?_toArray, List.getElem?_cons_zero, List.getElem?_cons_succ] at k1_c0 k4_c0
  go_wp2_with fail
  clear k1_c0 k1_f0 k1_z k4_c0 k4_f0 k4_z
  have hv6 : Below w5.heap.size w5 (w5.alloc (.cells #[.slice A2 (limbs U).length c2] 56)) := (Below.refl _ _).alloc (by first | exact Nat.le_refl _ | (simp; done) | (simp; omega)) _
  have k8 : Blk (w5.alloc (.cells #[.slice A2 (limbs U).length c2] 56)) (w5.heap.size) 56 #[.slice A2 (limbs U).length c2] := Blk.new w5 56 #[.slice A2 (limbs U).length c2]
  replace hb0 := hb0.trans (hv6.mono hb0.size)
  replace hrd := hrd.below hv6
  replace k1 := k1.below hv6 k1.lt
  replace o1 := o1.below hv6 (Nat.le_refl _)
  replace k4 := k4.below hv6 k4.lt
  replace o2 := o2.below hv6 (Nat.le_refl _)
  generalize (w5.alloc (.cells #[.slice A2 (limbs U).length c2] 56)) = v6 at *
  clear hv6
  refine (ref_Sub A A2 (limbs v) (limbs U) _ _ c c2 rfl rfl _ hrd o2.rd).mono ?_
  rw [HS.out]
  rintro e w7 ⟨A3, c3, rfl, o3, hb7⟩
  replace hb0 := hb0.trans (hb7.mono hb0.size)
  replace hrd := hrd.below hb7
  replace k1 := k1.below hb7 k1.lt
  replace o1 := o1.below hb7 (Nat.le_refl _)
  replace k4 := k4.below hb7 k4.lt
  replace o2 := o2.below hb7 (Nat.le_refl _)
  replace k8 := k8.below hb7 k8.lt
  clear hb7
  have k1_c0 := k1.cell 0
  have k1_f0 := k1.frozen 0
  have k1_z := k1.lt
  have k4_c0 := k4.cell 0
  have k4_f0 := k4.frozen 0
  have k4_z := k4.lt
  have k8_c0 := k8.cell 0
  have k8_f0 := k8.frozen 0
  have k8_z := k8.lt
  simp only [List.getElem?_toArray, List.getElem?_cons_zero, List.getElem?_cons_succ] at k1_c0 k4_c0 k8_c0
  go_wp2_with fail
  clear k1_c0 k1_f0 k1_z k4_c0 k4_f0 k4_z k8_c0 k8_f0 k8_z
  have hv8 : Below w7.heap.size w7 (w7.alloc (.cells #[.slice A3 (limbs L).length c3] 56)) := (Below.refl _ _).alloc (by first | exact Nat.le_refl _ | (simp; done) | (simp; omega)) _
  have k10 : Blk (w7.alloc (.cells #[.slice A3 (limbs L).length c3] 56)) (w7.heap.size) 56 #[.slice A3 (limbs L).length c3] := Blk.new w7 56 #[.slice A3 (limbs L).length c3]
  replace hb0 := hb0.trans (hv8.mono hb0.size)
  replace hrd := hrd.below hv8
  replace k1 := k1.below hv8 k1.lt
  replace o1 := o1.below hv8 (Nat.le_refl _)
  replace k4 := k4.below hv8 k4.lt
  replace o2 := o2.below hv8 (Nat.le_refl _)
  replace k8 := k8.below hv8 k8.lt
  replace o3 := o3.below hv8 (Nat.le_refl _)
  generalize (w7.alloc (.cells #[.slice A3 (limbs L).length c3] 56)) = v8 at *
  clear hv8
  refine (ref_Low A3 (limbs L) _ c3 rfl _ o3.rd).mono ?_
  rw [HL2.out]
  rintro e w9 ⟨rfl, hb9⟩
  replace hb0 := hb0.trans (hb9.mono hb0.size)
  replace hrd := hrd.below hb9
  replace k1 := k1.below hb9 k1.lt
  replace o1 := o1.below hb9 (Nat.le_refl _)
  replace k4 := k4.below hb9 k4.lt
  replace o2 := o2.below hb9 (Nat.le_refl _)
  replace k8 := k8.below hb9 k8.lt
  replace o3 := o3.below hb9 (Nat.le_refl _)
  replace k10 := k10.below hb9 k10.lt
  clear hb9
  go_wp2
  go_ret2
  exact ⟨rfl, hb0⟩
end Go.Proofs.YtenekbfnlbipiaaDoor
