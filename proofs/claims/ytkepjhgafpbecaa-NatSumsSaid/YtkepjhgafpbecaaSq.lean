/- What a walk carries from call to call: the cells of its variables, the answers; no book. -/
import Derived.Test.YtkepjhgafpbecaaSd
import Derived.Test.YtkepjhgafpbecaaDiv
namespace Go.Proofs.Ytkepjhgafpbecaa
open Go.RowKit
set_option linter.unusedVariables false
set_option linter.unusedSimpArgs false
set_option maxHeartbeats 4000000
set_option maxRecDepth 100000

structure Sq (w wk : World) (cells : List (Nat × Value)) (pend : List Ent) : Prop where
  bel : Below w.heap.size w wk
  cl : ∀ p ∈ cells, wk.cell? ⟨p.1, 0, none⟩ = some p.2 ∧ wk.frozen? ⟨p.1, 0, none⟩ = false
  ow : ∀ e ∈ pend, Own wk 28 w.heap.size e.A e.c e.l
section
variable {w wk w' : World} {cells : List (Nat × Value)} {pend : List Ent}
theorem Sq.init (w : World) : Sq w w [] [] := ⟨Below.refl _ _, by simp, by simp⟩
theorem Sq.below (S : Sq w wk cells pend) (hb : Below wk.heap.size wk w') : Sq w w' cells pend :=
  ⟨S.bel.trans (hb.mono S.bel.size), fun p hp => by
    obtain ⟨h1, h2⟩ := S.cl p hp
    exact ⟨(hb.cell (p := ⟨p.1, 0, none⟩) (cell_lt h1)).trans h1, (hb.frozen (p := ⟨p.1, 0, none⟩) (cell_lt h1)).trans h2⟩, fun e he => (S.ow e he).below hb (Nat.le_refl _)⟩
theorem Sq.size (S : Sq w wk cells pend) : w.heap.size ≤ wk.heap.size := S.bel.size
theorem Sq.put (S : Sq w wk cells pend) (v : Value) : Sq w (wk.alloc (.cells #[v] 35)) ((wk.heap.size, v) :: cells) pend := by
  have S' := S.below ((Below.refl _ wk).alloc (Nat.le_refl _) (Obj.cells #[v] 35))
  refine ⟨S'.bel, fun p hp => ?_, S'.ow⟩
  rcases List.mem_cons.1 hp with rfl | hp
  · exact ⟨by simp, by simp⟩
  · exact S'.cl p hp
theorem Sq.pend_ (S : Sq w wk cells pend) {A : Option Addr} {c B : Nat} {l : List Nat} (ho : Own wk 28 B A c l) (hB : w.heap.size ≤ B) : Sq w wk cells (⟨A, c, l⟩ :: pend) :=
  ⟨S.bel, S.cl, fun e he => by
    rcases List.mem_cons.1 he with rfl | he
    · exact ho.mono hB
    · exact S.ow e he⟩
theorem Sq.cell (S : Sq w wk cells pend) (k : Nat) {b : Nat} {v : Value} (hk : cells[k]? = some (b, v)) : wk.cell? ⟨b, 0, none⟩ = some v ∧ b < wk.heap.size ∧ wk.frozen? ⟨b, 0, none⟩ = false := by
  obtain ⟨h1, h2⟩ := S.cl _ (List.mem_of_getElem? hk)
  exact ⟨h1, cell_lt h1, h2⟩
theorem Sq.rd (S : Sq w wk cells pend) {A : Option Addr} {l : List Nat} (h : Rd w A l) : Rd wk A l := h.below S.bel
theorem Sq.own (S : Sq w wk cells pend) (k : Nat) {A : Option Addr} {c : Nat} {l : List Nat} (hk : pend[k]? = some ⟨A, c, l⟩) : Own wk 28 w.heap.size A c l := S.ow _ (List.mem_of_getElem? hk)
theorem Sq.prd (S : Sq w wk cells pend) (k : Nat) {A : Option Addr} {c : Nat} {l : List Nat} (hk : pend[k]? = some ⟨A, c, l⟩) : Rd wk A l := (S.own k hk).rd
theorem Sq.drew (S : Sq w wk cells pend) : Sq w wk.drew cells pend := S.below (Below.refl _ _).drew
end
end Go.Proofs.Ytkepjhgafpbecaa
