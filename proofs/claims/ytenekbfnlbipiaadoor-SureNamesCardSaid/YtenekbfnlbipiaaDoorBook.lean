/- The book of answers: what it holds; adding to it. -/
import Derived.Test.YtenekbfnlbipiaaDoorSubN
import Derived.Deep.AppendLies
import Derived.Deep.RegionLaw
import Derived.Deep.DrawnRows

import Derived.ProofKit
namespace Go.Proofs.YtenekbfnlbipiaaDoor
open Go.RowKit
set_option linter.unusedVariables false
set_option linter.unusedSimpArgs false
set_option maxHeartbeats 4000000
set_option maxRecDepth 100000
attribute [local go_sem ↓] Go.wp_at_zero Go.wp_at_succ

/-- An entry: where the limbs lie, and which. -/
structure Ent where
  A : Option Addr
  c : Nat
  l : List Nat
def Ent.v (e : Ent) : Value := .slice e.A e.l.length e.c
theorem ent_one (es : List Ent) : ∀ u ∈ es.map Ent.v, u.oneCell' = true := by
  intro u hu
  simp only [List.mem_map] at hu
  obtain ⟨e, _, rfl⟩ := hu
  rfl
theorem ownsRow_below {w w' : World} {B : Nat} {e : TypeId} {s n : Nat} {v : Value} {xs : List Value} (h : w.ownsRow B e s v n xs) (hb : Below w.heap.size w w') : w'.ownsRow B e s v n xs :=
  h.kept ⟨hb.os, hb.tape, hb.output, hb.size, fun k hk _ => hb.block k hk⟩ (by cases h' : v.ownBlock with | none => exact .inl rfl | some _ => exact .inr (by simp)) (row := none)
theorem ownsRow_ne {w : World} {B : Nat} {e t : TypeId} {s n g : Nat} {cs : Array Value} {v : Value} {xs : List Value} (h : w.ownsRow B e s v n xs) (hb : Blk w g t cs) (hne : e ≠ t) : ∀ g', v.ownBlock = some g' → g' ≠ g := by
  intro g' hg'
  rcases h.2 with ⟨rfl, _⟩ | ⟨g0, cap, cur, rfl, _, hh, _⟩
  · simp [Value.ownBlock] at hg'
  · have : g0 = g' := by simpa [Value.ownBlock] using hg'
    subst this
    exact Blk.ne_ (t := e) hh hb hne
theorem ownsRow_far {w : World} {B : Nat} {e t : TypeId} {s n : Nat} {cs : Array Value} {v u : Value} {p : Addr} {xs : List Value} (h : w.ownsRow B e s v n xs) (hb : Blk w p.block t cs) (hne : e ≠ t) : (w.setCell p u).ownsRow B e s v n xs := by
  refine h.kept (row := some p.block) ⟨rfl, rfl, rfl, by simp, fun k hk hkn => Below.heap_setCell w p u k (by intro e; exact hkn (by rw [e]))⟩ ?_
  cases h' : v.ownBlock with
  | none => exact .inl rfl
  | some g' => exact .inr (by have := ownsRow_ne h hb hne g' h'; simpa using this)
theorem keep3 {w : World} {p q : Addr} {u v : Value} (o : Obj) (h1 : w.cell? p = some u) (h2 : w.cell? q = some v) (h3 : w.frozen? p = false) :
    (w.alloc o).drew.cell? p = some u ∧ (w.alloc o).drew.cell? q = some v ∧ (w.alloc o).drew.frozen? p = false :=
  ⟨(World.cell?_alloc_lt w o p (cell_lt h1)).trans h1, (World.cell?_alloc_lt w o q (cell_lt h2)).trans h2, (World.frozen?_of_block (w := w) (heap_alloc_old w o (cell_lt h1))).trans h3⟩
/-- What the book's own doing leaves. -/
structure Left (B : Nat) (Fr : List Nat) (w w' : World) : Prop where
  below : Below B w w'
  fr : ∀ g ∈ Fr, w'.heap[g]? = w.heap[g]?
  limbs : ∀ g cs, Blk w g 90 cs → Blk w' g 90 cs
theorem Left.trans {B : Nat} {Fr : List Nat} {w w1 w2 : World} (h : Left B Fr w w1) (h' : Left B Fr w1 w2) : Left B Fr w w2 :=
  ⟨h.below.trans h'.below, fun g hg => (h'.fr g hg).trans (h.fr g hg), fun g cs hb => h'.limbs g cs (h.limbs g cs hb)⟩
theorem Left.of_below {B : Nat} {Fr : List Nat} {w w' : World} (h : Below w.heap.size w w') (hB : B ≤ w.heap.size) (hF : ∀ g ∈ Fr, g < w.heap.size) : Left B Fr w w' :=
  ⟨h.mono hB, fun g hg => h.block g (hF g hg), fun g cs hb => hb.below h hb.lt⟩
theorem Left.own {B B' c : Nat} {Fr : List Nat} {w w' : World} {A : Option Addr} {l : List Nat} (h : Left B Fr w w') (ho : Own w 90 B' A c l) : Own w' 90 B' A c l := by
  refine ⟨ho.1, ho.2.1, ?_⟩
  rcases ho.2.2 with h0 | ⟨g, cur, e, hg, hk, r⟩
  · exact .inl h0
  · exact .inr ⟨g, cur, e, hg, h.limbs _ _ hk, r⟩
theorem Left.sub {B : Nat} {Fr Fr' : List Nat} {w w' : World} (h : Left B Fr w w') (hs : ∀ g ∈ Fr', g ∈ Fr) : Left B Fr' w w' := ⟨h.below, fun g hg => h.fr g (hs g hg), h.limbs⟩
section
variable {w w' : World} {B kb n m : Nat} {gv wv : Value} {xs ys : List Value} {Fr : List Nat}
end
theorem info_nat : (Tryd.prog.info? 56).map (fun i => (i.zero, i.size, i.bytes)) = some (some (.agg #[.slice none 0 0]), 1, 24) := by kernel_rfl

end Go.Proofs.YtenekbfnlbipiaaDoor
