/- append of a slice that reads as numbers, inside a region that draws its order. -/
import Derived.Test.YtenekbfnlbipiaaDoorSd
import Derived.Deep.AppendLies
import Derived.Deep.RegionHeld3
namespace Go.Proofs.YtenekbfnlbipiaaDoor
open Go.RowKit
set_option linter.unusedVariables false
set_option linter.unusedSimpArgs false
set_option maxHeartbeats 4000000
set_option maxRecDepth 100000

section
variable {P : Program} {ops : Array Oper} {o : Oper} {a : Act} {w : World} {K : Act → World → Prop} {Q : Exit → Act → World → Prop} {E' : Prop} {B : Nat} {t e : TypeId} {v : Value} {l : List Nat}
theorem step_apps {k : IntKind} (E : ElemOf P t e k) (hgd : o.guard = none) (s x : Operand) (ho : o.op = .call { callee := .builtin .append, args := #[s, x], argTypes := #[t, t] })
    (hown : OwnR w B e k v l) (hs : a.eval s = v) (A : Option Addr) (m : List Nat) (mm c : Nat) (hm : mm = m.length) (hx : a.eval x = .slice A mm c)
    (hcell : 0 < m.length → ∃ b off, A = some ⟨b, off, none⟩ ∧ ∀ j, j < m.length → w.cell? ⟨b, off + j, none⟩ = some (.int k ((nth m j : Nat) : Int)))
    (hlen : (l.length + m.length) * 8 ≤ 140737488355328) (hB : B ≤ w.heap.size)
    (h : ∀ v' w', OwnR w' B e k v' (l ++ m) → w.grownBy w' v.ownBlock → Below B w w' → K (a.put o.dst v') w') :
    if Region.wanted o (yielded ops a.tmps) = true then Oper.wp P o a w K Q else E' := by
  subst hm
  have hw : Region.wanted o (yielded ops a.tmps) = true := by simp [Region.wanted, hgd]
  rw [if_pos hw]
  obtain ⟨i, b, hi, hz, hsz, hby, hb8⟩ := E.hi
  have hbytes : (l.length + m.length) * b ≤ 140737488355328 := by
    have : (l.length + m.length) * b ≤ (l.length + m.length) * 8 := Nat.mul_le_mul_left _ hb8
    omega
  have hlen' : l.length + m.length ≤ maxLen := by unfold maxLen; omega
  by_cases h0 : 0 < m.length
  · obtain ⟨bb, off, rfl, hc⟩ := hcell h0
    refine wp_append_lies w s x t ho B e i (.int k 0) 1 b E.ht hi hz hsz hby rfl (by decide) v l.length (ints k l) hs hown ⟨bb, off, none⟩ m.length c (ints k m) hx (by simp) ?_ ?_ h0 hlen' hbytes hB _ rfl ?_
    · intro j u hj
      have hjl : j < m.length := by
        rcases Nat.lt_or_ge j m.length with h1 | h1
        · exact h1
        · rw [List.getElem?_eq_none (by simpa using h1)] at hj; cases hj
      rw [ints_get k m j hjl] at hj
      injection hj with hj
      subst hj
      have : (⟨bb, off, none⟩ : Addr).add j = ⟨bb, off + j, none⟩ := by unfold Addr.add; split <;> simp_all
      rw [this]; exact hc j hjl
    · intro u hu
      simp only [ints, List.mem_map] at hu
      obtain ⟨z, _, rfl⟩ := hu
      rfl
    · intro g cap w' h1 h2 _ _
      refine h _ w' ?_ h2 (below_grown h2 hown hB)
      unfold OwnR
      rw [List.length_append, ints_append]
      exact h1
  · have hm0 : m = [] := List.eq_nil_of_length_eq_zero (by omega)
    subst hm0
    have hrun : (Builtin.append_ #[t, t] o.type #[v, .slice A 0 c]).run P w = .ok v w := by
      rcases hown.2 with ⟨rfl, _⟩ | ⟨g, cap, cur, rfl, _, _, hnc, _⟩
      · cases A <;> simp [Builtin.append_, run_underlying E.ht, sizeOf, typeInfo, hi, Builtin.lenOf, Builtin.firstCells, loadCells, loadCellsFrom]
      · cases A <;> simp [Builtin.append_, run_underlying E.ht, sizeOf, typeInfo, hi, Builtin.lenOf, Builtin.firstCells, loadCells, loadCellsFrom, hnc, storeCells]
    unfold Oper.wp execOp
    simp only [ho, resolve, invoke, builtin, Sem.run_bind, Sem.run_pure, Result.andThen_ok, List.map_toArray, List.map_cons, List.map_nil, hs, hx, List.length_nil, hrun]
    refine h v w ?_ (World.grownBy.refl w _) (Below.refl _ _)
    simpa using hown
end
end Go.Proofs.YtenekbfnlbipiaaDoor
