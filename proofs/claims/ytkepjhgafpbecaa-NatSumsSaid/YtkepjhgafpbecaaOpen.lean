/- An argument that is a number of limbs, opened. -/
import Derived.Test.YtkepjhgafpbecaaC
import Derived.ProofKit
import Derived.OpenShut
import Derived.ShutString
import Derived.ChangeOld
import Derived.SizedLaws
import Derived.Below
namespace Go.Proofs.Ytkepjhgafpbecaa
open Go.ChangeShapes Go.WideShapes Go.ChangeAt Go.RowKit
open Go.RowKit
set_option linter.unusedVariables false
set_option linter.unusedSimpArgs false
set_option maxHeartbeats 4000000
set_option maxRecDepth 100000

/-- What a law's walk is told of a number that came in. -/
structure InNat (w : World) (v : Value) (A : Option Addr) (n c : Nat) (l : List Nat) : Prop where
  val_ : v = .agg #[.slice A n c]
  len : n = l.length
  cap : n ≤ c
  rd : Rd w A l
  short : l.length * 4 ≤ 140737488351232
  room : 0 < c → ∃ a, A = some a
section
variable {H : Type} {enc : TypeId × Value → H} {w : World} {b0 : Nat} {r : Reach}
theorem spot_none {w : World} {a : Addr} {u : Value} (h : w.cell? a = some u) : a.spot = none := by
  unfold World.cell? at h
  split at h
  · split at h
    · cases h
    · rename_i h'; cases hs : a.spot with
      | none => rfl
      | some _ => rw [hs] at h'; simp at h'
  · cases h
theorem open_nat {v : Value} {d : DataW H} {p : List MemPlace} (hv : Value.okWide Try.prog w r b0 35 v) (h : DataW.Trod enc Try.prog w 0 (fun _ => true) true 35 v d p)
    {ts : List TypeId} {ds : List (DataW H)} (hsz : (DataW.weightsEach Try.prog ts ds).all (· ≤ reachBytes) = true) {j : Nat} (ht : ts[j]? = some 35) (hd : ds[j]? = some d) :
    ∃ A n c l, InNat w v A n c l := by
  obtain ⟨cs, rfl, hcs⟩ := okWide_struct Try.underlying35 hv
  have hc1 : Try.prog.cellsOf 35 = 1 := by kernel_rfl
  have hc2 : Try.prog.cellsOf 33 = 1 := by kernel_rfl
  obtain ⟨l⟩ := cs
  match l, hcs.trans hc1 with
  | [c0], _ =>
    obtain ⟨fuel, hf⟩ := h
    obtain ⟨xs, n, _, hx, _, hlen, hg⟩ := DataW.trod_struct Try.underlying35 hf
    match xs, hlen with
    | [y0], _ =>
      have h1 := hg 0 _ rfl
      simp only [Value.cells] at h1
      simp only [Prod.mk.injEq] at hx
      have h2 : DataW.trod enc Try.prog w 0 (fun _ => true) true n 33 [c0] = some y0 := by simpa [hc2] using h1
      rcases open_ints Try.underlying33 Try.underlying28 (by kernel_rfl) h2 with ⟨e, _⟩ | ⟨a, len, cap, zs, e, _, hl, hm, hzl, hy, hcell, hwf⟩
      · obtain rfl : c0 = .slice none 0 0 := by simpa using e
        exact ⟨none, 0, 0, [], rfl, rfl, Nat.le_refl _, Rd.nil _ _, by simp, by simp⟩
      · obtain rfl : c0 = .slice (some a) len cap := by simpa using e
        rw [if_pos rfl] at hzl
        have hn : ((zs.take len).map Int.toNat).length = len := by simp; omega
        have hsz' : len * 4 ≤ 140737488351232 := by
          have hd2 : ds[j]? = some (.agg [.slice (lits .u32 (zs.take len)) (lits .u32 (zs.drop len))]) := by
            rw [hd, hx.1, hy]; rfl
          have hb4 : Try.prog.bytesOf 28 = 4 := by kernel_rfl
          have := List.all_eq_true.1 hsz _ (DataW.weights_mem_each ht hd2 (((lits (H := H) .u32 (zs.take len)).length + (lits (H := H) .u32 (zs.drop len)).length) * Try.prog.bytesOf 28) (by simp [DataW.weights, DataW.weightsEach, Try.underlying35, Try.underlying33]))
          rw [hb4] at this
          simp only [lits, List.length_map, List.length_take, List.length_drop, reachBytes, decide_eq_true_eq] at this
          omega
        have hget : ∀ k, k < len → ∃ z : Nat, z < 4294967296 ∧ nth ((zs.take len).map Int.toNat) k = z ∧ w.cell? (a.add k) = some (.int .u32 (z : Int)) := by
          intro k hk
          have hz : zs.getD k 0 ∈ zs := by
            rw [List.getD_eq_getElem?_getD, List.getElem?_eq_getElem (by omega)]; simp
          have hb := bounds_u32 (hwf _ hz)
          refine ⟨(zs.getD k 0).toNat, by omega, ?_, ?_⟩
          · rw [nth_lt _ (by omega)]
            simp [List.getD_eq_getElem?_getD, List.getElem?_eq_getElem (show k < zs.length by omega)]
          · rw [hcell k (by omega)]
            congr 2
            omega
        refine ⟨some a, len, cap, (zs.take len).map Int.toNat, rfl, hn.symm, hl, ⟨?_, by omega, fun h0 => ?_⟩, by rw [hn]; exact hsz', fun _ => ⟨_, rfl⟩⟩
        · intro x hx'
          simp only [List.mem_map] at hx'
          obtain ⟨z, hz, rfl⟩ := hx'
          have hb := bounds_u32 (hwf _ (List.mem_of_mem_take hz))
          omega
        · obtain ⟨z0, _, _, hc0⟩ := hget 0 (by omega)
          have hs := spot_none hc0
          have ha : a.add 0 = a := by simp [Addr.add]
          rw [ha] at hs
          obtain ⟨b, off, sp⟩ := a
          simp at hs
          subst hs
          refine ⟨b, off, rfl, fun k hk => ?_⟩
          obtain ⟨z, _, hz, hc⟩ := hget k (by omega)
          rw [hz, ← hc]
          congr 1
          unfold Addr.add
          split <;> simp_all
end
end Go.Proofs.Ytkepjhgafpbecaa
