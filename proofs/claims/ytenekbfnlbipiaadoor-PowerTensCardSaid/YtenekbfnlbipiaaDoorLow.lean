/- Walks: both packages' Low. -/
import Derived.Test.YtenekbfnlbipiaaDoorD
import Derived.Test.YtenekbfnlbipiaaDoorN
namespace Go.Proofs.YtenekbfnlbipiaaDoor
open Go.RowKit
set_option linter.unusedVariables false
set_option linter.unusedSimpArgs false
set_option maxHeartbeats 4000000
set_option maxRecDepth 100000

def lowS (l : List Nat) : Nat × Bool := if chk l = 0 ∧ l.length ≤ 2 then (val l, true) else (0, false)
theorem lowS_no {l : List Nat} (h : ¬(chk l = 0 ∧ l.length ≤ 2)) : lowS l = (0, false) := by unfold lowS; rw [if_neg h]
theorem lowS_yes {l : List Nat} (h : chk l = 0) (h2 : l.length ≤ 2) : lowS l = (val l, true) := by unfold lowS; rw [if_pos ⟨h, h2⟩]
theorem or_lo (x y : Nat) (hx : x < 4294967296) (hy : y < 4294967296) : bits BinOp.or IntKind.u64 (x : Int) ((y : Int) * 4294967296) = ((x + 4294967296 * y : Nat) : Int) := by
  have e : ((y : Int) * 4294967296) = ((y * 4294967296 : Nat) : Int) := by omega
  rw [e, u64_or_nat _ _ (by omega) (by omega), Nat.or_comm]
  have := Nat.two_pow_add_eq_or_of_lt (i := 32) (b := x) hx y
  rw [show y * 4294967296 = 2 ^ 32 * y from by omega, ← this]
  omega

theorem ref_limb' (A : Option Addr) (l : List Nat) (n c : Nat) (hn : n = l.length) (i : Int) (hi : 0 ≤ i) (w : World) (h : Rd w A l) :
    Calls Tryd.prog 87 #[.slice A n c, .int .i64 i] w fun e w' => e = .returned (.int .u64 ((nth l i.toNat : Nat) : Int)) ∧ w' = w := by
  refine (ref_limb A l n c hn i hi w h).mono ?_
  rintro e w' ⟨rfl, rfl⟩
  exact ⟨rfl, rfl⟩

theorem ref_Low (A : Option Addr) (l : List Nat) (n c : Nat) (hn : n = l.length) (w : World) (h : Rd w A l) :
    Calls Tryd.prog 60 #[.agg #[.slice A n c]] w (Says w (.tuple #[.int .u64 (((lowS l).1 : Nat) : Int), .bool (lowS l).2])) := by
  subst hn
  have hl := h.len
  have h1 := h.alloc (Obj.cells #[Value.slice A l.length c] 56)
  by_cases hc0 : chk l = 0
  · have Hchk : Hid (chk l = 0) := hc0
    by_cases h2 : l.length ≤ 2
    · rw [lowS_yes hc0 h2]
      clear hc0
      have hB : decide ((2 : Int) < (l.length : Int)) = false := by simp; omega
      have hx := h.sm.nth 0
      have hy := h.sm.nth 1
      have HO := or_lo _ _ hx hy
      have HV : Hid (val l = nth l 0 + 4294967296 * nth l 1) := by
        show _ = _
        match l, h2 with
        | [], _ => rfl
        | [x], _ => simp [val, nth]
        | [x, y], _ => simp [val, nth]
      go_enter Tryd.func60, Tryd.ntmps60
      go_wp2_with fail
      refine (ref_Check _ _ _ c rfl _ h1).mono ?_
      rintro e w1 ⟨rfl, hb1⟩
      rw [Hchk.out]
      obtain ⟨hc1, hf1⟩ := bcell hb1
      have hbw1 : Below w.heap.size w w1 := Below.trans (b := _) (by repeat' (first | (with_reducible assumption) | (with_reducible exact Below.refl _ _) | (with_reducible refine bdn ?_ _) | (with_reducible refine Below.drew ?_) | (with_reducible refine Below.setCell ?_ ?_ _) | (with_reducible refine Below.alloc ?_ ?_ _) | go_size)) (hb1.mono (by go_size))
      have hz1_0 : w.heap.size < w1.heap.size := by have := hb1.size; simp at this; omega
      have hrd := h1.below hb1
      go_wp2
      go_quiet ((go_at_call 87; exact Calls.quiet_of_same (ref_limb' A l _ c rfl _ (by decide) _ (by exact hrd.drewN _))))
      go_wp2
      go_ret2
      exact ⟨by rw [HV.out]; simp, (by repeat' (first | (with_reducible assumption) | (with_reducible exact Below.refl _ _) | (with_reducible refine bdn ?_ _) | (with_reducible refine Below.drew ?_) | (with_reducible refine Below.setCell ?_ ?_ _) | (with_reducible refine Below.alloc ?_ ?_ _) | go_size))⟩
    · rw [lowS_no (fun h => h2 h.2)]
      clear hc0
      have hB : decide ((2 : Int) < (l.length : Int)) = true := by simp; omega
      go_enter Tryd.func60, Tryd.ntmps60
      go_wp2_with fail
      refine (ref_Check _ _ _ c rfl _ h1).mono ?_
      rintro e w1 ⟨rfl, hb1⟩
      rw [Hchk.out]
      obtain ⟨hc1, hf1⟩ := bcell hb1
      have hbw1 : Below w.heap.size w w1 := Below.trans (b := _) (by repeat' (first | (with_reducible assumption) | (with_reducible exact Below.refl _ _) | (with_reducible refine bdn ?_ _) | (with_reducible refine Below.drew ?_) | (with_reducible refine Below.setCell ?_ ?_ _) | (with_reducible refine Below.alloc ?_ ?_ _) | go_size)) (hb1.mono (by go_size))
      have hz1_0 : w.heap.size < w1.heap.size := by have := hb1.size; simp at this; omega
      go_wp2
      go_ret2
      exact ⟨rfl, hbw1⟩
  · rw [lowS_no (fun h => hc0 h.1)]
    have hne : (chk l != 0) = true := by rw [bne_iff_ne]; exact hc0
    clear hc0
    go_enter Tryd.func60, Tryd.ntmps60
    go_wp2_with fail
    refine (ref_Check _ _ _ c rfl _ h1).mono ?_
    rintro e w1 ⟨rfl, hb1⟩
    obtain ⟨hc1, hf1⟩ := bcell hb1
    have hbw1 : Below w.heap.size w w1 := Below.trans (b := _) (by repeat' (first | (with_reducible assumption) | (with_reducible exact Below.refl _ _) | (with_reducible refine bdn ?_ _) | (with_reducible refine Below.drew ?_) | (with_reducible refine Below.setCell ?_ ?_ _) | (with_reducible refine Below.alloc ?_ ?_ _) | go_size)) (hb1.mono (by go_size))
    have hz1_0 : w.heap.size < w1.heap.size := by have := hb1.size; simp at this; omega
    go_wp2
    go_ret2
    exact ⟨rfl, hbw1⟩
end Go.Proofs.YtenekbfnlbipiaaDoor
