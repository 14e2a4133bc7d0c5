/- Walks: the document's fits and Mul. -/
import Derived.Test.YtenekbfnlbipiaaDoorJ
namespace Go.Proofs.YtenekbfnlbipiaaDoor
open Go.RowKit
set_option linter.unusedVariables false
set_option linter.unusedSimpArgs false
set_option maxHeartbeats 4000000
set_option maxRecDepth 100000

/-- A number out of a function, in memory from block B on. -/
def FitAns (B : Nat) (w : World) (r : List Nat × Int) (e : Ending) (w' : World) : Prop :=
  ∃ A c, e = .returned (.tuple #[.agg #[.slice A r.1.length c], .int .i64 r.2]) ∧ Own w' 90 B A c r.1 ∧ Below w.heap.size w w'

theorem ref_fits (A : Option Addr) (c : Nat) (l : List Nat) (B : Nat) (n : Nat) (hn : n = l.length) (hc : n ≤ c) (w : World) (h : Own w 90 B A c l) (hB : B ≤ w.heap.size) :
    Calls Tryd.prog 52 #[.slice A n c] w (FitAns B w (fitS (val l))) := by
  subst hn
  have h1 := (h.alloc (Obj.cells #[Value.slice none 0 0] 56))
  have hle := limbs_length_le h.sm
  have ht := h1.trim
  by_cases h5 : 16384 < (limbs (val l)).length
  · have e : fitS (val l) = ([], 4) := by unfold fitS; rw [if_pos h5]
    rw [e]
    go_enter Tryd.func52, Tryd.ntmps52
    go_wp2_with fail
    refine (ref_Trim A l _ c rfl hc _ h1.rd).mono ?_
    rintro e w1 ⟨rfl, rfl⟩
    go_wp2
    (try simp only [Exit.inBlock, Exit.then]); refine bodyPost_ret (by simp (maxDischargeDepth := 9) [results, Tryd.results52, go_sem, World.cell?_alloc_past]; try rfl) rfl ?_
    exact ⟨none, 0, rfl, Own.nil _ _ _, (by repeat' (first | (with_reducible assumption) | (with_reducible exact Below.refl _ _) | (with_reducible refine bdn ?_ _) | (with_reducible refine Below.drew ?_) | (with_reducible refine Below.setCell ?_ ?_ _) | (with_reducible refine Below.alloc ?_ ?_ _) | go_size))⟩
  · have e : fitS (val l) = (limbs (val l), 0) := by unfold fitS; rw [if_neg h5]
    rw [e]
    go_enter Tryd.func52, Tryd.ntmps52
    go_wp2_with fail
    refine (ref_Trim A l _ c rfl hc _ h1.rd).mono ?_
    rintro e w1 ⟨rfl, rfl⟩
    go_wp2_with fail
    refine (ref_nat _ _ _ _).mono ?_
    rintro e w1 ⟨rfl, hb1⟩
    obtain ⟨hc1, hf1⟩ := bcell hb1
    have hbw1 : Below w.heap.size w w1 := Below.trans (b := _) (by repeat' (first | (with_reducible assumption) | (with_reducible exact Below.refl _ _) | (with_reducible refine bdn ?_ _) | (with_reducible refine Below.drew ?_) | (with_reducible refine Below.setCell ?_ ?_ _) | (with_reducible refine Below.alloc ?_ ?_ _) | go_size)) (hb1.mono (by go_size))
    have hz1_0 : w.heap.size < w1.heap.size := by have := hb1.size; simp at this; omega
    go_wp2
    (try simp only [Exit.inBlock, Exit.then]); refine bodyPost_ret (by simp (maxDischargeDepth := 9) [results, Tryd.results52, go_sem, hc1, hz1_0]; try rfl) rfl ?_
    refine ⟨_, _, rfl, ?_, (by repeat' (first | (with_reducible assumption) | (with_reducible exact Below.refl _ _) | (with_reducible refine bdn ?_ _) | (with_reducible refine Below.drew ?_) | (with_reducible refine Below.setCell ?_ ?_ _) | (with_reducible refine Below.alloc ?_ ?_ _) | go_size))⟩
    refine (ht.below hb1 (by simp)).setFar ?_ _
    intro a ha
    exact Nat.ne_of_lt (h.lt a ha)
end Go.Proofs.YtenekbfnlbipiaaDoor
