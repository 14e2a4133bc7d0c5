/- Walks: the document's Same. -/
import Derived.Test.YtenekbfnlbipiaaDoorA
import Derived.Handy
namespace Go.Proofs.YtenekbfnlbipiaaDoor
open Go.RowKit
set_option linter.unusedVariables false
set_option linter.unusedSimpArgs false
set_option maxHeartbeats 4000000
set_option maxRecDepth 100000

theorem ref_Same (A B : Option Addr) (a b : List Nat) (n m c d : Nat) (hn : n = a.length) (hm : m = b.length) (w : World) (ha : Rd w A a) (hb : Rd w B b) :
    Calls Tryd.prog 32 #[.agg #[.slice A n c], .agg #[.slice B m d]] w (Says w (.bool (decide (a = b)))) := by
  subst hn hm
  have hla := ha.len
  have hlb := hb.len
  have h1 := (ha.alloc (Obj.cells #[Value.slice A a.length c] 56)).alloc (Obj.cells #[Value.slice B b.length d] 56)
  have h2 := (hb.alloc (Obj.cells #[Value.slice A a.length c] 56)).alloc (Obj.cells #[Value.slice B b.length d] 56)
  by_cases hl : a.length = b.length
  · have e : cmpL a b = 0 ↔ a = b := cmpL_zero ha.sm hb.sm
    have E : Hid (decide (a = b) = (cmpL a b == 0)) := by
      show decide (a = b) = _
      by_cases h : a = b
      · rw [decide_eq_true h, e.2 h]; rfl
      · rw [decide_eq_false h]; symm; rw [beq_eq_false_iff_ne]; exact fun h' => h (e.1 h')
    have hl1 : ((a.length : Int) == (b.length : Int)) = true := by rw [beq_iff_eq]; omega
    clear hl e
    go_enter Tryd.func32, Tryd.ntmps32
    go_wp2_with fail
    refine (ref_cmp A B a b _ _ c d rfl rfl _ h1 h2).mono ?_
    rintro e w1 ⟨rfl, hb1⟩
    obtain ⟨hc1, hf1⟩ := bcell hb1
    have hbw1 : Below w.heap.size w w1 := Below.trans (b := _) (by repeat' (first | (with_reducible assumption) | (with_reducible exact Below.refl _ _) | (with_reducible refine bdn ?_ _) | (with_reducible refine Below.drew ?_) | (with_reducible refine Below.setCell ?_ ?_ _) | (with_reducible refine Below.alloc ?_ ?_ _) | go_size)) (hb1.mono (by go_size))
    have hz1_0 : w.heap.size < w1.heap.size := by have := hb1.size; simp at this; omega
    have hz1_1 : w.heap.size + 1 < w1.heap.size := by have := hb1.size; simp at this; omega
    go_wp2
    go_ret
    rw [E.out]
    exact ⟨rfl, (by repeat' (first | (with_reducible assumption) | (with_reducible exact Below.refl _ _) | (with_reducible refine bdn ?_ _) | (with_reducible refine Below.drew ?_) | (with_reducible refine Below.setCell ?_ ?_ _) | (with_reducible refine Below.alloc ?_ ?_ _) | go_size))⟩
  · have E : Hid (decide (a = b) = false) := by
      show decide (a = b) = _
      rw [decide_eq_false]; intro h; rw [h] at hl; exact hl rfl
    have hl1 : ((a.length : Int) == (b.length : Int)) = false := by rw [beq_eq_false_iff_ne]; omega
    clear hl
    go_enter Tryd.func32, Tryd.ntmps32
    go_wp2
    go_ret
    rw [E.out]
    exact ⟨rfl, (by repeat' (first | (with_reducible assumption) | (with_reducible exact Below.refl _ _) | (with_reducible refine bdn ?_ _) | (with_reducible refine Below.drew ?_) | (with_reducible refine Below.setCell ?_ ?_ _) | (with_reducible refine Below.alloc ?_ ?_ _) | go_size))⟩
end Go.Proofs.YtenekbfnlbipiaaDoor
