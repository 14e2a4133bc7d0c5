/- The table of the powers of five out of what the text lays. -/
import Derived.Test.YtenekbfnlbipiaaDoorRows
import Derived.Test.YtenekbfnlbipiaaDoorTnH
import Derived.ProofKit
import Derived.OpenShut
import Derived.ShutString
import Derived.ChangeOld
import Derived.SizedLaws
import Derived.Below
import Derived.LaidMore
import Derived.Lib.SmallJoins
import Derived.Stop.Joined
namespace Go.Proofs.YtenekbfnlbipiaaDoor
open Go.ChangeShapes Go.WideShapes Go.ChangeAt Go.WideMaps Go.WideElems Go.RowKit
open Go.RowKit
set_option linter.unusedVariables false
set_option linter.unusedSimpArgs false
set_option maxHeartbeats 4000000
set_option maxRecDepth 100000

/-- What the rows list. -/
def laid5 : List (String × DataW Unit) := [("numeral/power.fives", Rows.laid_numeral_power_fives)]
def fiveL : List Nat := (List.range 28).map (5 ^ ·)
theorem g5 : Tryd.prog.globalNamed "numeral/power.fives" = some 1 := by kernel_rfl
theorem t5 : (Tryd.prog.globals[1]?).map (·.type) = some 119 := by kernel_rfl
theorem laid_five {H : Type} : (Rows.laid_numeral_power_fives : DataW H) = .agg (List.map (fun n : Nat => (DataW.lit (.int .u64 (n : Int)) : DataW H)) fiveL) := rfl
theorem spot_none {w : World} {a : Addr} {u : Value} (h : w.cell? a = some u) : a.spot = none := by
  unfold World.cell? at h
  split at h
  · split at h
    · cases h
    · rename_i h'; cases hs : a.spot with
      | none => rfl
      | some _ => rw [hs] at h'; simp at h'
  · cases h
theorem tab5_of_laid {W : World} (h : laidMetH Tryd.prog laid5 W) : Tab5 W := by
  rw [MakeChecks.laidMetH_plain _ _ _ (by kernel_rfl)] at h
  obtain ⟨ps, ⟨g0, t0, cs0, f0, p0, q0, hg0, ht0, hv0, hd0, _⟩, _, _⟩ := h
  obtain rfl := Option.some.inj (g5.symm.trans hg0)
  obtain rfl := Option.some.inj (t5.symm.trans ht0)
  obtain ⟨xs, m1, _, hx1, hlen, hn, hel⟩ := DataW.trod_array Tryd.underlying119 hd0
  have c1 : Tryd.prog.cellsOf 22 = 1 := by kernel_rfl
  have c28 : Tryd.prog.cellsOf 119 = 28 := by kernel_rfl
  rw [laid_five] at hx1
  simp only [Prod.mk.injEq, DataW.agg.injEq] at hx1
  have hl : fiveL.length = 28 := rfl
  intro j hj
  have hj2 := hel j hj
  rw [c1, Nat.mul_one] at hj2
  have hxj : xs[j]? = some xs[j] := List.getElem?_eq_getElem (by omega)
  rw [hxj] at hj2
  obtain ⟨k, e1, e2, _⟩ := DataW.trod_int Tryd.underlying22 hj2
  have h3 : (xs.map (·.1))[j]? = (List.map (fun n : Nat => (DataW.lit (.int .u64 (n : Int)) : DataW Unit)) fiveL)[j]? := by rw [hx1.1]
  rw [List.getElem?_map, hxj, List.getElem?_map, List.getElem?_eq_getElem (show j < fiveL.length from hj)] at h3
  simp only [Option.map_some, Option.some.injEq] at h3
  rw [e2] at h3
  simp only [DataW.lit.injEq, Lit.int.injEq, true_and] at h3
  have hc := World.var?_cell hg0 hv0 j
  rw [hc]
  rw [c28] at hlen
  have e3 : cs0[j]? = some (.int .u64 k) := by
    have h4 := congrArg (fun l : List Value => l[0]?) e1
    simp only [List.getElem?_take, List.getElem?_drop] at h4
    simpa using h4
  rw [e3, h3]
  simp only [fiveL, List.getElem_map, List.getElem_range]
set_option maxRecDepth 100000 in
theorem door_met5 (os : Os) (args : Array Value) : laidMetH Tryd.prog laid5 ((World.doorLaid Tryd.prog 400 os).forCall (fun _ _ => 0) ⟨#[], args, []⟩).memory :=
  laidMetH_of_parts3 (fuel := 8) (laidMet_of_run' 8 (by kernel_rfl) (by kernel_rfl)) (by kernel_rfl) (by kernel_rfl)
end Go.Proofs.YtenekbfnlbipiaaDoor
