/- A law's arguments opened: rows of numbers; the library's table out of what the text lays. -/
import Derived.Test.YtefhannaofknnaaDoorRows
import Derived.Test.YtefhannaofknnaaDoorPkD
import Derived.ProofKit
import Derived.OpenShut
import Derived.ShutString
import Derived.ChangeOld
import Derived.SizedLaws
import Derived.Below
import Derived.LaidMore
import Derived.Lib.SmallJoins
import Derived.Stop.Joined
namespace Go.Proofs.YtefhannaofknnaaDoor
open Go.ChangeShapes Go.WideShapes Go.ChangeAt Go.WideMaps Go.WideElems Go.RowKit
open Go.RowKit
set_option linter.unusedVariables false
set_option linter.unusedSimpArgs false
set_option maxHeartbeats 4000000
set_option maxRecDepth 100000

/-- What the rows list. -/
def laidT : List (String × DataW Unit) := [("math/bits.deBruijn64tab", Rows.laid_math_bits_deBruijn64tab)]
theorem gTab : Tryd.prog.globalNamed "math/bits.deBruijn64tab" = some 0 := by kernel_rfl
theorem tTab : (Tryd.prog.globals[0]?).map (·.type) = some 84 := by kernel_rfl
theorem laid_tab {H : Type} : (Rows.laid_math_bits_deBruijn64tab : DataW H) = .agg (List.map (fun n : Nat => (DataW.lit (.int .u8 (n : Int)) : DataW H)) Lib.deBruijn64tab) := rfl
theorem spot_none {w : World} {a : Addr} {u : Value} (h : w.cell? a = some u) : a.spot = none := by
  unfold World.cell? at h
  split at h
  · split at h
    · cases h
    · rename_i h'; cases hs : a.spot with
      | none => rfl
      | some _ => rw [hs] at h'; simp at h'
  · cases h
theorem tab_of_laid {W : World} (h : laidMetH Tryd.prog laidT W) : Tab W := by
  rw [MakeChecks.laidMetH_plain _ _ _ (by kernel_rfl)] at h
  obtain ⟨ps, ⟨g0, t0, cs0, f0, p0, q0, hg0, ht0, hv0, hd0, _⟩, _, _⟩ := h
  obtain rfl := Option.some.inj (gTab.symm.trans hg0)
  obtain rfl := Option.some.inj (tTab.symm.trans ht0)
  obtain ⟨xs, m1, _, hx1, hlen, hn, hel⟩ := DataW.trod_array Tryd.underlying84 hd0
  have c1 : Tryd.prog.cellsOf 5 = 1 := by kernel_rfl
  have c64 : Tryd.prog.cellsOf 84 = 64 := by kernel_rfl
  rw [laid_tab] at hx1
  simp only [Prod.mk.injEq, DataW.agg.injEq] at hx1
  have hl : Lib.deBruijn64tab.length = 64 := rfl
  intro j hj
  rw [hl] at hj
  have hj2 := hel j hj
  rw [c1, Nat.mul_one] at hj2
  have hxj : xs[j]? = some xs[j] := List.getElem?_eq_getElem (by omega)
  rw [hxj] at hj2
  obtain ⟨k, e1, e2, _⟩ := DataW.trod_int Tryd.underlying5 hj2
  have h3 : (xs.map (·.1))[j]? = (List.map (fun n : Nat => (DataW.lit (.int .u8 (n : Int)) : DataW Unit)) Lib.deBruijn64tab)[j]? := by rw [hx1.1]
  rw [List.getElem?_map, hxj, List.getElem?_map, List.getElem?_eq_getElem (show j < Lib.deBruijn64tab.length by rw [hl]; exact hj)] at h3
  simp only [Option.map_some, Option.some.injEq] at h3
  rw [e2] at h3
  simp only [DataW.lit.injEq, Lit.int.injEq, true_and] at h3
  have hc := World.var?_cell hg0 hv0 j
  rw [hc]
  rw [c64] at hlen
  have e3 : cs0[j]? = some (.int .u8 k) := by
    have h4 := congrArg (fun l : List Value => l[0]?) e1
    simp only [List.getElem?_take, List.getElem?_drop] at h4
    simpa using h4
  rw [e3, h3, List.getD_eq_getElem?_getD, List.getElem?_eq_getElem (show j < Lib.deBruijn64tab.length by rw [hl]; exact hj)]
  rfl
theorem tab_lt {W : World} (h : Tab W) : 0 < W.heap.size := cell_lt (h 0 (by decide))
set_option maxRecDepth 100000 in
theorem door_met (os : Os) (args : Array Value) : laidMetH Tryd.prog laidT ((World.doorLaid Tryd.prog 400 os).forCall (fun _ _ => 0) ⟨#[], args, []⟩).memory :=
  laidMetH_of_parts3 (fuel := 8) (laidMet_of_run' 8 (by kernel_rfl) (by kernel_rfl)) (by kernel_rfl) (by kernel_rfl)
/-- What a law's walk is told of a row of floats that came in. -/
structure InU (w : World) (v : Value) (A : Option Addr) (n c : Nat) (l : List Nat) : Prop where
  val_ : v = .slice A n c
  len : n = l.length
  cap : n ≤ c
  b64 : ∀ x ∈ l, x < 18446744073709551616
  rd : RdK .u64 w A l
  short : l.length * 8 ≤ 140737488351232
section
variable {H : Type} {enc : TypeId × Value → H} {w : World} {b0 : Nat} {r : Reach}
theorem open_us {v : Value} {d : DataW H} {p : List MemPlace} (hv : Value.okWide Tryd.prog w r b0 24 v) (h : DataW.Trod enc Tryd.prog w 0 (fun _ => true) true 24 v d p)
    {ts : List TypeId} {ds : List (DataW H)} (hsz : (DataW.weightsEach Tryd.prog ts ds).all (· ≤ reachBytes) = true) {j : Nat} (ht : ts[j]? = some 24) (hd : ds[j]? = some d) :
    ∃ A n c l, InU w v A n c l := by
  obtain ⟨fuel, hf⟩ := h
  obtain ⟨a0, n0, c0, rfl⟩ := okWide_slice Tryd.underlying24 hv
  rcases open_ints Tryd.underlying24 Tryd.underlying34 (by kernel_rfl) hf with ⟨e, _⟩ | ⟨a, len, cap, zs, e, _, hl, hm, hzl, hy, hcell, hwf⟩
  · simp only [Value.cells, List.cons.injEq, and_true, Value.slice.injEq] at e
    obtain ⟨rfl, rfl, rfl⟩ := e
    exact ⟨none, 0, 0, [], rfl, rfl, Nat.le_refl _, by simp, fun h => by simp at h, by simp⟩
  · simp only [Value.cells, List.cons.injEq, and_true, Value.slice.injEq] at e
    obtain ⟨rfl, e2, e3⟩ := e
    have e2' := e2.symm
    have e3' := e3.symm
    subst e2' e3'
    rw [if_pos rfl] at hzl
    have hn : ((zs.take len).map Int.toNat).length = len := by simp; omega
    simp only [Prod.mk.injEq] at hy
    have hsz' : len * 8 ≤ 140737488351232 := by
      have hd2 : ds[j]? = some (.slice (lits .u64 (zs.take len)) (lits .u64 (zs.drop len))) := by
        rw [hd, hy.1]
      have hb4 : Tryd.prog.bytesOf 34 = 8 := by kernel_rfl
      have := List.all_eq_true.1 hsz _ (DataW.weights_mem_each ht hd2 (((lits (H := H) .u64 (zs.take len)).length + (lits (H := H) .u64 (zs.drop len)).length) * Tryd.prog.bytesOf 34) (by simp [DataW.weights, DataW.weightsEach, Tryd.underlying24]))
      rw [hb4] at this
      simp only [lits, List.length_map, List.length_take, List.length_drop, reachBytes, decide_eq_true_eq] at this
      omega
    have hget : ∀ k, k < len → ∃ z : Nat, z < 18446744073709551616 ∧ nth ((zs.take len).map Int.toNat) k = z ∧ w.cell? (a.add k) = some (.int .u64 (z : Int)) := by
      intro k hk
      have hz : zs.getD k 0 ∈ zs := by
        rw [List.getD_eq_getElem?_getD, List.getElem?_eq_getElem (by omega)]; simp
      have hb := bounds_u64 (hwf _ hz)
      refine ⟨(zs.getD k 0).toNat, by omega, ?_, ?_⟩
      · rw [nth_lt _ (by omega)]
        simp [List.getD_eq_getElem?_getD, List.getElem?_eq_getElem (show k < zs.length by omega)]
      · rw [hcell k (by omega)]
        congr 2
        omega
    refine ⟨some a, len, cap, (zs.take len).map Int.toNat, rfl, hn.symm, hl, ?_, fun h0 => ?_, by rw [hn]; exact hsz'⟩
    · intro x hx'
      simp only [List.mem_map] at hx'
      obtain ⟨z, hz, rfl⟩ := hx'
      have hb := bounds_u64 (hwf _ (List.mem_of_mem_take hz))
      omega
    · obtain ⟨z0, _, _, hc0⟩ := hget 0 (by omega)
      have hs := spot_none hc0
      have ha : a.add 0 = a := by simp [Addr.add]
      rw [ha] at hs
      obtain ⟨b, off, sp⟩ := a
      simp at hs
      subst hs
      refine ⟨b, off, rfl, fun k hk => ?_⟩
      obtain ⟨z, _, hz, hc⟩ := hget k (by omega)
      rw [hz, ← hc]
      congr 1
      unfold Addr.add
      split <;> simp_all
end
end Go.Proofs.YtefhannaofknnaaDoor
