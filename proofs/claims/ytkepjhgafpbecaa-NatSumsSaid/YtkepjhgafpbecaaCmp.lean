/- Walks: Cmp. -/
import Derived.Test.YtkepjhgafpbecaaI
namespace Go.Proofs.Ytkepjhgafpbecaa
open Go.RowKit
set_option linter.unusedVariables false
set_option linter.unusedSimpArgs false
set_option maxHeartbeats 4000000
set_option maxRecDepth 100000

def cmpS (a b : List Nat) : Int × Int := if chk2 a b = 0 then (cmpL a b, 0) else (0, chk2 a b)
theorem nat_Cmp (A B : Option Addr) (a b : List Nat) (n m c d : Nat) (hn : n = a.length) (hm : m = b.length) (w : World) (ha : Rd w A a) (hb : Rd w B b) :
    Calls Try.prog 51 #[.agg #[.slice A n c], .agg #[.slice B m d]] w (Says w (.tuple #[.int .i64 (cmpS a b).1, .int .i64 (cmpS a b).2])) := by
  subst hn hm
  have hla := ha.len
  have hlb := hb.len
  have ha2 := ((ha.alloc (Obj.cells #[Value.slice A a.length c] 35)).alloc (Obj.cells #[Value.slice B b.length d] 35)).alloc (Obj.cells #[Value.slice A a.length c, Value.slice B b.length d] 35)
  have hb2 := ((hb.alloc (Obj.cells #[Value.slice A a.length c] 35)).alloc (Obj.cells #[Value.slice B b.length d] 35)).alloc (Obj.cells #[Value.slice A a.length c, Value.slice B b.length d] 35)
  by_cases hz : chk2 a b = 0
  · have e : cmpS a b = (cmpL a b, 0) := by unfold cmpS; rw [if_pos hz]
    have HZ := Lib.hid hz
    rw [e]
    clear hz e
    go_enter Try.func51, Try.ntmps51
    go_wp2_with fail
    refine (nat_checks _ A B a b _ _ c d rfl rfl _ ha2 hb2 (by simp [go_sem]) (by simp [go_sem])).mono ?_
    rintro e w1 ⟨rfl, hb1⟩
    rw [HZ.out]
    obtain ⟨hc1, hf1⟩ := bcell hb1
    have hbw1 : Below w.heap.size w w1 := Below.trans (b := _) (by repeat' (first | (with_reducible assumption) | (with_reducible exact Below.refl _ _) | (with_reducible refine bdn ?_ _) | (with_reducible refine Below.drew ?_) | (with_reducible refine Below.setCell ?_ ?_ _) | (with_reducible refine Below.alloc ?_ ?_ _) | go_size)) (hb1.mono (by go_size))
    have hz1_0 : w.heap.size < w1.heap.size := by have := hb1.size; simp at this; omega
    have hz1_1 : w.heap.size + 1 < w1.heap.size := by have := hb1.size; simp at this; omega
    have hz1_2 : w.heap.size + 2 < w1.heap.size := by have := hb1.size; simp at this; omega
    go_wp2_with fail
    refine (nat_cmp A B a b _ _ c d rfl rfl _ (ha2.below hb1) (hb2.below hb1)).mono ?_
    rintro e w2 ⟨rfl, hb2'⟩
    have hbw2 := hbw1.trans (hb2'.mono hbw1.size)
    go_wp2
    go_ret2
    exact ⟨rfl, hbw2⟩
  · have e : cmpS a b = (0, chk2 a b) := by unfold cmpS; rw [if_neg hz]
    have hne : (chk2 a b != 0) = true := by rw [bne_iff_ne]; exact hz
    rw [e]
    clear hz e
    go_enter Try.func51, Try.ntmps51
    go_wp2_with fail
    refine (nat_checks _ A B a b _ _ c d rfl rfl _ ha2 hb2 (by simp [go_sem]) (by simp [go_sem])).mono ?_
    rintro e w1 ⟨rfl, hb1⟩
    obtain ⟨hc1, hf1⟩ := bcell hb1
    have hbw1 : Below w.heap.size w w1 := Below.trans (b := _) (by repeat' (first | (with_reducible assumption) | (with_reducible exact Below.refl _ _) | (with_reducible refine bdn ?_ _) | (with_reducible refine Below.drew ?_) | (with_reducible refine Below.setCell ?_ ?_ _) | (with_reducible refine Below.alloc ?_ ?_ _) | go_size)) (hb1.mono (by go_size))
    have hz1_0 : w.heap.size < w1.heap.size := by have := hb1.size; simp at this; omega
    have hz1_1 : w.heap.size + 1 < w1.heap.size := by have := hb1.size; simp at this; omega
    have hz1_2 : w.heap.size + 2 < w1.heap.size := by have := hb1.size; simp at this; omega
    go_wp2
    go_ret2
    exact ⟨rfl, hbw1⟩
theorem ref_Cmp (A B : Option Addr) (a b : List Nat) (n m c d : Nat) (hn : n = a.length) (hm : m = b.length) (w : World) (ha : Rd w A a) (hb : Rd w B b) :
    Calls Try.prog 68 #[.agg #[.slice A n c], .agg #[.slice B m d]] w (Says w (.tuple #[.int .i64 (cmpS a b).1, .int .i64 (cmpS a b).2])) := by
  subst hn hm
  have hla := ha.len
  have hlb := hb.len
  have ha2 := (ha.alloc (Obj.cells #[Value.slice A a.length c] 35)).alloc (Obj.cells #[Value.slice B b.length d] 35)
  have hb2 := (hb.alloc (Obj.cells #[Value.slice A a.length c] 35)).alloc (Obj.cells #[Value.slice B b.length d] 35)
  by_cases hz : chk2 a b = 0
  · have e : cmpS a b = (cmpL a b, 0) := by unfold cmpS; rw [if_pos hz]
    have HZ := Lib.hid hz
    rw [e]
    clear hz e
    go_enter Try.func68, Try.ntmps68
    go_wp2_with fail
    refine (ref_two A B a b _ _ c d rfl rfl _ ha2 hb2).mono ?_
    rintro e w1 ⟨rfl, hb1⟩
    rw [HZ.out]
    obtain ⟨hc1, hf1⟩ := bcell hb1
    have hbw1 : Below w.heap.size w w1 := Below.trans (b := _) (by repeat' (first | (with_reducible assumption) | (with_reducible exact Below.refl _ _) | (with_reducible refine bdn ?_ _) | (with_reducible refine Below.drew ?_) | (with_reducible refine Below.setCell ?_ ?_ _) | (with_reducible refine Below.alloc ?_ ?_ _) | go_size)) (hb1.mono (by go_size))
    have hz1_0 : w.heap.size < w1.heap.size := by have := hb1.size; simp at this; omega
    have hz1_1 : w.heap.size + 1 < w1.heap.size := by have := hb1.size; simp at this; omega
    go_wp2_with fail
    refine (ref_cmp A B a b _ _ c d rfl rfl _ (ha2.below hb1) (hb2.below hb1)).mono ?_
    rintro e w2 ⟨rfl, hb2'⟩
    have hbw2 := hbw1.trans (hb2'.mono hbw1.size)
    go_wp2
    go_ret2
    exact ⟨rfl, hbw2⟩
  · have e : cmpS a b = (0, chk2 a b) := by unfold cmpS; rw [if_neg hz]
    have hne : (chk2 a b != 0) = true := by rw [bne_iff_ne]; exact hz
    rw [e]
    clear hz e
    go_enter Try.func68, Try.ntmps68
    go_wp2_with fail
    refine (ref_two A B a b _ _ c d rfl rfl _ ha2 hb2).mono ?_
    rintro e w1 ⟨rfl, hb1⟩
    obtain ⟨hc1, hf1⟩ := bcell hb1
    have hbw1 : Below w.heap.size w w1 := Below.trans (b := _) (by repeat' (first | (with_reducible assumption) | (with_reducible exact Below.refl _ _) | (with_reducible refine bdn ?_ _) | (with_reducible refine Below.drew ?_) | (with_reducible refine Below.setCell ?_ ?_ _) | (with_reducible refine Below.alloc ?_ ?_ _) | go_size)) (hb1.mono (by go_size))
    have hz1_0 : w.heap.size < w1.heap.size := by have := hb1.size; simp at this; omega
    have hz1_1 : w.heap.size + 1 < w1.heap.size := by have := hb1.size; simp at this; omega
    go_wp2
    go_ret2
    exact ⟨rfl, hbw1⟩
end Go.Proofs.Ytkepjhgafpbecaa
