/- What a law's walk carries from call to call: the book, the cells of its variables, the answers that are not yet booked, what was lent. -/
import Derived.Test.YtkepjhgafpbecaaLent
import Derived.Test.YtkepjhgafpbecaaStand
namespace Go.Proofs.Ytkepjhgafpbecaa
open Go.RowKit
set_option linter.unusedVariables false
set_option linter.unusedSimpArgs false
set_option maxHeartbeats 4000000
set_option maxRecDepth 100000

structure LentE where
  g : Nat
  cap : Nat
  l : List Nat
def LentE.ent (x : LentE) : Ent := ⟨some ⟨x.g, 0, none⟩, x.cap, x.l⟩
structure St (w wk : World) (kb : Nat) (gv wv : Value) (es ws : List Ent) (Fr : List Nat) (cells : List (Nat × Value)) (pend : List Ent) (ls : List LentE) : Prop where
  bel : Below w.heap.size w wk
  bk : Book wk w.heap.size kb gv wv es ws Fr
  cl : ∀ p ∈ cells, p.1 ∈ Fr ∧ wk.cell? ⟨p.1, 0, none⟩ = some p.2 ∧ wk.frozen? ⟨p.1, 0, none⟩ = false
  ow : ∀ e ∈ pend, Own wk 28 w.heap.size e.A e.c e.l
  ln : ∀ x ∈ ls, Lent wk w.heap.size x.g x.cap x.l
  lap : ∀ e ∈ es, ∀ x ∈ ls, e.A ≠ some ⟨x.g, 0, none⟩
  ldist : ls.Pairwise (fun x y => x.g ≠ y.g)
section
variable {w wk w' : World} {kb : Nat} {gv wv : Value} {es ws : List Ent} {Fr : List Nat} {cells : List (Nat × Value)} {pend : List Ent} {ls : List LentE}
theorem St.below (S : St w wk kb gv wv es ws Fr cells pend ls) (hb : Below wk.heap.size wk w') : St w w' kb gv wv es ws Fr cells pend ls :=
  ⟨S.bel.trans (hb.mono S.bel.size), by simpa using S.bk.below hb [] (by simp), fun p hp => by
    obtain ⟨h1, h2, h3⟩ := S.cl p hp
    exact ⟨h1, (hb.cell (p := ⟨p.1, 0, none⟩) (cell_lt h2)).trans h2, (hb.frozen (p := ⟨p.1, 0, none⟩) (cell_lt h2)).trans h3⟩, fun e he => (S.ow e he).below hb (Nat.le_refl _), fun x hx => (S.ln x hx).below hb, S.lap, S.ldist⟩
theorem St.size (S : St w wk kb gv wv es ws Fr cells pend ls) : w.heap.size ≤ wk.heap.size := S.bel.size
theorem St.put (S : St w wk kb gv wv es ws Fr cells pend ls) (v : Value) : St w (wk.alloc (.cells #[v] 35)) kb gv wv es ws (wk.heap.size :: Fr) ((wk.heap.size, v) :: cells) pend ls := by
  have hb : Below wk.heap.size wk (wk.alloc (.cells #[v] 35)) := (Below.refl _ wk).alloc (Nat.le_refl _) _
  have S' := S.below hb
  refine ⟨S'.bel, by simpa using S.bk.below hb [wk.heap.size] (by simp), fun p hp => ?_, S'.ow, S'.ln, S.lap, S.ldist⟩
  rcases List.mem_cons.1 hp with rfl | hp
  · exact ⟨by simp, by simp, by simp⟩
  · obtain ⟨h1, h2, h3⟩ := S'.cl p hp
    exact ⟨List.mem_cons_of_mem _ h1, h2, h3⟩
theorem St.pend_ (S : St w wk kb gv wv es ws Fr cells pend ls) {A : Option Addr} {c B : Nat} {l : List Nat} (ho : Own wk 28 B A c l) (hB : w.heap.size ≤ B) : St w wk kb gv wv es ws Fr cells (⟨A, c, l⟩ :: pend) ls :=
  ⟨S.bel, S.bk, S.cl, fun e he => by
    rcases List.mem_cons.1 he with rfl | he
    · exact ho.mono hB
    · exact S.ow e he, S.ln, S.lap, S.ldist⟩
theorem St.cell (S : St w wk kb gv wv es ws Fr cells pend ls) (k : Nat) {b : Nat} {v : Value} (hk : cells[k]? = some (b, v)) : wk.cell? ⟨b, 0, none⟩ = some v ∧ b < wk.heap.size ∧ wk.frozen? ⟨b, 0, none⟩ = false := by
  obtain ⟨h1, h2, h3⟩ := S.cl _ (List.mem_of_getElem? hk)
  exact ⟨h2, cell_lt h2, h3⟩
theorem St.rd (S : St w wk kb gv wv es ws Fr cells pend ls) {A : Option Addr} {l : List Nat} (h : Rd w A l) : Rd wk A l := h.below S.bel
theorem St.lrd (S : St w wk kb gv wv es ws Fr cells pend ls) (k : Nat) {g cap : Nat} {l : List Nat} (hk : ls[k]? = some ⟨g, cap, l⟩) : Rd wk (some ⟨g, 0, none⟩) l := (S.ln _ (List.mem_of_getElem? hk)).own.rd
/-- What is said of an answer that is made now. -/
def Fresh (es : List Ent) (ls : List LentE) (A : Option Addr) : Prop := (∀ e ∈ es, e.A = none ∨ e.A ≠ A) ∧ ∀ x ∈ ls, A ≠ some ⟨x.g, 0, none⟩
theorem St.fresh (S : St w wk kb gv wv es ws Fr cells pend ls) {A : Option Addr} {c : Nat} {l : List Nat} {t : TypeId} (ho : Own w' t wk.heap.size A c l) : Fresh es ls A := by
  refine ⟨S.bk.fresh ho, fun x hx e => ?_⟩
  have h1 := ((S.ln x hx).1.block (g := x.g) rfl).2
  have h2 := (ho.block (g := x.g) (by rw [e]; rfl)).1
  omega
theorem st_adds (S : St w wk kb gv wv es ws Fr cells pend ls) (i j : Nat) {A A' : Option Addr} {c c' n n' : Nat} {l : List Nat} (hi : pend[i]? = some ⟨A, c, l⟩) (hj : pend[j]? = some ⟨A', c', l⟩) (hf : Fresh es ls A) (hfew : es.length < 60) (code : Int) (hn : n = l.length) (hn' : n' = l.length) :
    Calls Try.prog 20 #[.pointer (some ⟨kb, 0, none⟩), .agg #[.slice A n c], .int .i64 code, .agg #[.slice A' n' c'], .int .i64 code] wk fun e w' => ∃ gv' wv', e = .returned (.tuple #[]) ∧ St w w' kb gv' wv' (es ++ [⟨A, c, l⟩]) (ws ++ [⟨A', c', l⟩]) Fr cells pend ls := by
  have o1 := S.ow _ (List.mem_of_getElem? hi)
  have o2 := S.ow _ (List.mem_of_getElem? hj)
  refine (book_adds kb w.heap.size gv wv es ws Fr code A A' n c n' c' l hn hn' wk S.size S.bk o1 o2 hf.1 (by omega)).mono ?_
  rintro e w' ⟨gv', wv', rfl, hk, L⟩
  refine ⟨gv', wv', rfl, S.bel.trans L.below, hk, fun p hp => ?_, fun e he => L.own (S.ow e he), fun x hx => (S.ln x hx).left L, ?_, S.ldist⟩
  · obtain ⟨h1, h2, h3⟩ := S.cl p hp
    exact ⟨h1, (L.cell h1).trans h2, (L.frozen h1).trans h3⟩
  · intro e he x hx
    rcases List.mem_append.1 he with he | he
    · exact S.lap e he x hx
    · simp at he; subst he; exact hf.2 x hx
theorem st_stands (S : St w wk kb gv wv es ws Fr cells pend ls) (h0 : 0 < es.length) (hfew : es.length ≤ 64) (hlew : ls.length ≤ 8) (LA : Option Addr) (m lc : Nat) (hm : m = ls.length)
    (hle : 0 < m → ∃ ad, LA = some ad ∧ ∀ j u, (ls.map fun x => x.ent.v)[j]? = some u → wk.cell? (ad.add j) = some u) :
    Calls Try.prog 23 #[.pointer (some ⟨kb, 0, none⟩), .slice LA m lc] wk fun e w' => e = .returned (.bool true) ∧ Below w.heap.size w w' := by
  refine (book_stands kb w.heap.size gv wv es ws (ls.map LentE.ent) Fr LA m lc (by simpa using hm) wk S.size S.bk h0 hfew (by simpa using hlew) (fun h => ?_) ?_ ?_).mono ?_
  · obtain ⟨ad, e, hc⟩ := hle h
    exact ⟨ad, e, fun j u hu => hc j u (by rw [List.map_map] at hu; exact hu)⟩
  · intro e he
    simp only [List.mem_map] at he
    obtain ⟨x, hx, rfl⟩ := he
    exact (S.ln x hx).own
  · refine List.pairwise_append.2 ⟨S.bk.dist, List.pairwise_map.2 (S.ldist.imp ?_), ?_⟩
    · intro x y hxy
      refine .inr fun e => hxy ?_
      simp only [LentE.ent] at e
      injection e with e
      injection e
    · intro a ha b hb
      simp only [List.mem_map] at hb
      obtain ⟨x, hx, rfl⟩ := hb
      exact .inr (S.lap a ha x hx)
  · rintro e w' ⟨rfl, hb⟩
    exact ⟨rfl, S.bel.trans hb⟩
/-- The book, made. -/
theorem St.start (hb : Below w.heap.size w wk) (cells : List (Nat × Value)) (ls : List LentE) (hcl : ∀ p ∈ cells, wk.cell? ⟨p.1, 0, none⟩ = some p.2 ∧ wk.frozen? ⟨p.1, 0, none⟩ = false) (hln : ∀ x ∈ ls, Lent wk w.heap.size x.g x.cap x.l) (hld : ls.Pairwise (fun x y => x.g ≠ y.g)) :
    St w (wk.alloc (.cells #[.slice none 0 0, .slice none 0 0, .bool false] 32)) wk.heap.size (.slice none 0 0) (.slice none 0 0) [] [] (cells.map (·.1)) cells [] ls := by
  have hlt : ∀ g ∈ cells.map (·.1), g < wk.heap.size := by
    intro g hg
    simp only [List.mem_map] at hg
    obtain ⟨p, hp, rfl⟩ := hg
    exact cell_lt (hcl p hp).1
  refine ⟨hb.alloc hb.size _, Book.empty _ _ hb.size (Blk.new wk _ _) (fun h => by have := hlt _ h; omega) (fun g hg => by have := hlt g hg; simp; omega), fun p hp => ?_, by simp, fun x hx => (hln x hx).alloc _, by simp, hld⟩
  have hm : p.1 ∈ cells.map (·.1) := List.mem_map_of_mem hp
  exact ⟨hm, (World.cell?_alloc_lt _ _ _ (hlt _ hm)).trans (hcl p hp).1, (World.frozen?_alloc_past _ _ _ (hlt _ hm)).trans (hcl p hp).2⟩
theorem Lent.mono {B B' g cap : Nat} {l : List Nat} (h : Lent w B g cap l) (hB : B' ≤ B) : Lent w B' g cap l := ⟨h.1.mono hB, h.2.1, Nat.le_trans hB h.2.2⟩
end
end Go.Proofs.Ytkepjhgafpbecaa
