/- What a law's walk carries from call to call: the book, the cells of its variables, the answers that are not yet booked, what was lent. -/
import Derived.Test.YtkepjhgafpbecaaLent
import Derived.Test.YtkepjhgafpbecaaStand
import Derived.Test.YtkepjhgafpbecaaI
namespace Go.Proofs.Ytkepjhgafpbecaa
open Go.RowKit
set_option linter.unusedVariables false
set_option linter.unusedSimpArgs false
set_option maxHeartbeats 4000000
set_option maxRecDepth 100000

structure LentE where
  g : Nat
  cap : Nat
  l : List Nat
def LentE.ent (x : LentE) : Ent := ⟨some ⟨x.g, 0, none⟩, x.cap, x.l⟩
structure St (w wk : World) (kb : Nat) (gv wv : Value) (es ws : List Ent) (Fr : List Nat) (cells : List (Nat × Value)) (pend : List Ent) (ls : List LentE) : Prop where
  bel : Below w.heap.size w wk
  bk : Book wk w.heap.size kb gv wv es ws Fr
  cl : ∀ p ∈ cells, p.1 ∈ Fr ∧ wk.cell? ⟨p.1, 0, none⟩ = some p.2 ∧ wk.frozen? ⟨p.1, 0, none⟩ = false
  ow : ∀ e ∈ pend, Own wk 28 w.heap.size e.A e.c e.l
  ln : ∀ x ∈ ls, Lent wk w.heap.size x.g x.cap x.l
  lap : ∀ e ∈ es, ∀ x ∈ ls, e.A ≠ some ⟨x.g, 0, none⟩
  ldist : ls.Pairwise (fun x y => x.g ≠ y.g)
  wlap : ∀ e ∈ ws ++ pend, ∀ x ∈ ls, e.A ≠ some ⟨x.g, 0, none⟩
section
variable {w wk w' : World} {kb : Nat} {gv wv : Value} {es ws : List Ent} {Fr : List Nat} {cells : List (Nat × Value)} {pend : List Ent} {ls : List LentE}
theorem St.below (S : St w wk kb gv wv es ws Fr cells pend ls) (hb : Below wk.heap.size wk w') : St w w' kb gv wv es ws Fr cells pend ls :=
  ⟨S.bel.trans (hb.mono S.bel.size), by simpa using S.bk.below hb [] (by simp), fun p hp => by
    obtain ⟨h1, h2, h3⟩ := S.cl p hp
    exact ⟨h1, (hb.cell (p := ⟨p.1, 0, none⟩) (cell_lt h2)).trans h2, (hb.frozen (p := ⟨p.1, 0, none⟩) (cell_lt h2)).trans h3⟩, fun e he => (S.ow e he).below hb (Nat.le_refl _), fun x hx => (S.ln x hx).below hb, S.lap, S.ldist, S.wlap⟩
theorem St.size (S : St w wk kb gv wv es ws Fr cells pend ls) : w.heap.size ≤ wk.heap.size := S.bel.size
theorem St.put (S : St w wk kb gv wv es ws Fr cells pend ls) (v : Value) : St w (wk.alloc (.cells #[v] 35)) kb gv wv es ws (wk.heap.size :: Fr) ((wk.heap.size, v) :: cells) pend ls := by
  have hb : Below wk.heap.size wk (wk.alloc (.cells #[v] 35)) := (Below.refl _ wk).alloc (Nat.le_refl _) _
  have S' := S.below hb
  refine ⟨S'.bel, by simpa using S.bk.below hb [wk.heap.size] (by simp), fun p hp => ?_, S'.ow, S'.ln, S.lap, S.ldist, S.wlap⟩
  rcases List.mem_cons.1 hp with rfl | hp
  · exact ⟨by simp, by simp, by simp⟩
  · obtain ⟨h1, h2, h3⟩ := S'.cl p hp
    exact ⟨List.mem_cons_of_mem _ h1, h2, h3⟩
theorem St.pend_ (S : St w wk kb gv wv es ws Fr cells pend ls) {A : Option Addr} {c B : Nat} {l : List Nat} (ho : Own wk 28 B A c l) (hB : w.heap.size ≤ B) (hf : ∀ x ∈ ls, A ≠ some ⟨x.g, 0, none⟩) : St w wk kb gv wv es ws Fr cells (⟨A, c, l⟩ :: pend) ls :=
  ⟨S.bel, S.bk, S.cl, fun e he => by
    rcases List.mem_cons.1 he with rfl | he
    · exact ho.mono hB
    · exact S.ow e he, S.ln, S.lap, S.ldist, fun e he x hx => by
      rcases List.mem_append.1 he with he | he
      · exact S.wlap e (List.mem_append_left _ he) x hx
      · rcases List.mem_cons.1 he with rfl | he
        · exact hf x hx
        · exact S.wlap e (List.mem_append_right _ he) x hx⟩
theorem St.cell (S : St w wk kb gv wv es ws Fr cells pend ls) (k : Nat) {b : Nat} {v : Value} (hk : cells[k]? = some (b, v)) : wk.cell? ⟨b, 0, none⟩ = some v ∧ b < wk.heap.size ∧ wk.frozen? ⟨b, 0, none⟩ = false := by
  obtain ⟨h1, h2, h3⟩ := S.cl _ (List.mem_of_getElem? hk)
  exact ⟨h2, cell_lt h2, h3⟩
theorem St.rd (S : St w wk kb gv wv es ws Fr cells pend ls) {A : Option Addr} {l : List Nat} (h : Rd w A l) : Rd wk A l := h.below S.bel
theorem St.lrd (S : St w wk kb gv wv es ws Fr cells pend ls) (k : Nat) {g cap : Nat} {l : List Nat} (hk : ls[k]? = some ⟨g, cap, l⟩) : Rd wk (some ⟨g, 0, none⟩) l := (S.ln _ (List.mem_of_getElem? hk)).own.rd
/-- What is said of an answer that is made now. -/
def Fresh (es : List Ent) (ls : List LentE) (A : Option Addr) : Prop := (∀ e ∈ es, e.A = none ∨ e.A ≠ A) ∧ ∀ x ∈ ls, A ≠ some ⟨x.g, 0, none⟩
theorem St.fresh (S : St w wk kb gv wv es ws Fr cells pend ls) {A : Option Addr} {c : Nat} {l : List Nat} {t : TypeId} (ho : Own w' t wk.heap.size A c l) : Fresh es ls A := by
  refine ⟨S.bk.fresh ho, fun x hx e => ?_⟩
  have h1 := ((S.ln x hx).1.block (g := x.g) rfl).2
  have h2 := (ho.block (g := x.g) (by rw [e]; rfl)).1
  omega
theorem St.next (S : St w wk kb gv wv es ws Fr cells pend ls) {A : Option Addr} {c : Nat} {l : List Nat} (hb : Below wk.heap.size wk w') (o : Own w' 28 wk.heap.size A c l) : St w w' kb gv wv es ws Fr cells (⟨A, c, l⟩ :: pend) ls :=
  (S.below hb).pend_ o S.size (S.fresh o).2
theorem st_adds (S : St w wk kb gv wv es ws Fr cells pend ls) (i j : Nat) {A A' : Option Addr} {c c' n n' : Nat} {l : List Nat} (hi : pend[i]? = some ⟨A, c, l⟩) (hj : pend[j]? = some ⟨A', c', l⟩) (hf : Fresh es ls A) (hfew : es.length < 60) (code : Int) (hn : n = l.length) (hn' : n' = l.length) :
    Calls Try.prog 20 #[.pointer (some ⟨kb, 0, none⟩), .agg #[.slice A n c], .int .i64 code, .agg #[.slice A' n' c'], .int .i64 code] wk fun e w' => ∃ gv' wv', e = .returned (.tuple #[]) ∧ St w w' kb gv' wv' (es ++ [⟨A, c, l⟩]) (ws ++ [⟨A', c', l⟩]) Fr cells pend ls := by
  have o1 := S.ow _ (List.mem_of_getElem? hi)
  have o2 := S.ow _ (List.mem_of_getElem? hj)
  refine (book_adds kb w.heap.size gv wv es ws Fr code A A' n c n' c' l hn hn' wk S.size S.bk o1 o2 hf.1 (by omega)).mono ?_
  rintro e w' ⟨gv', wv', rfl, hk, L⟩
  refine ⟨gv', wv', rfl, S.bel.trans L.below, hk, fun p hp => ?_, fun e he => L.own (S.ow e he), fun x hx => (S.ln x hx).left L, ?_, S.ldist, ?_⟩
  · obtain ⟨h1, h2, h3⟩ := S.cl p hp
    exact ⟨h1, (L.cell h1).trans h2, (L.frozen h1).trans h3⟩
  · intro e he x hx
    rcases List.mem_append.1 he with he | he
    · exact S.lap e he x hx
    · simp at he; subst he; exact hf.2 x hx
  · intro e he x hx
    rcases List.mem_append.1 he with he | he
    · rcases List.mem_append.1 he with he | he
      · exact S.wlap e (List.mem_append_left _ he) x hx
      · simp at he; subst he; exact S.wlap _ (List.mem_append_right _ (List.mem_of_getElem? hj)) x hx
    · exact S.wlap e (List.mem_append_right _ he) x hx
theorem st_stands (S : St w wk kb gv wv es ws Fr cells pend ls) (h0 : 0 < es.length) (hfew : es.length ≤ 64) (hlew : ls.length ≤ 8) (LA : Option Addr) (m lc : Nat) (hm : m = ls.length)
    (hle : 0 < m → ∃ ad, LA = some ad ∧ ∀ j u, (ls.map fun x => x.ent.v)[j]? = some u → wk.cell? (ad.add j) = some u) :
    Calls Try.prog 23 #[.pointer (some ⟨kb, 0, none⟩), .slice LA m lc] wk fun e w' => e = .returned (.bool true) ∧ Below w.heap.size w w' := by
  refine (book_stands kb w.heap.size gv wv es ws (ls.map LentE.ent) Fr LA m lc (by simpa using hm) wk S.size S.bk h0 hfew (by simpa using hlew) (fun h => ?_) ?_ ?_).mono ?_
  · obtain ⟨ad, e, hc⟩ := hle h
    exact ⟨ad, e, fun j u hu => hc j u (by rw [List.map_map] at hu; exact hu)⟩
  · intro e he
    simp only [List.mem_map] at he
    obtain ⟨x, hx, rfl⟩ := he
    exact (S.ln x hx).own
  · refine List.pairwise_append.2 ⟨S.bk.dist, List.pairwise_map.2 (S.ldist.imp ?_), ?_⟩
    · intro x y hxy
      refine .inr fun e => hxy ?_
      simp only [LentE.ent] at e
      injection e with e
      injection e
    · intro a ha b hb
      simp only [List.mem_map] at hb
      obtain ⟨x, hx, rfl⟩ := hb
      exact .inr (S.lap a ha x hx)
  · rintro e w' ⟨rfl, hb⟩
    exact ⟨rfl, S.bel.trans hb⟩
/-- The book, made. -/
theorem St.start (hb : Below w.heap.size w wk) (cells : List (Nat × Value)) (ls : List LentE) (hcl : ∀ p ∈ cells, wk.cell? ⟨p.1, 0, none⟩ = some p.2 ∧ wk.frozen? ⟨p.1, 0, none⟩ = false) (hln : ∀ x ∈ ls, Lent wk w.heap.size x.g x.cap x.l) (hld : ls.Pairwise (fun x y => x.g ≠ y.g)) :
    St w (wk.alloc (.cells #[.slice none 0 0, .slice none 0 0, .bool false] 32)) wk.heap.size (.slice none 0 0) (.slice none 0 0) [] [] (cells.map (·.1)) cells [] ls := by
  have hlt : ∀ g ∈ cells.map (·.1), g < wk.heap.size := by
    intro g hg
    simp only [List.mem_map] at hg
    obtain ⟨p, hp, rfl⟩ := hg
    exact cell_lt (hcl p hp).1
  refine ⟨hb.alloc hb.size _, Book.empty _ _ hb.size (Blk.new wk _ _) (fun h => by have := hlt _ h; omega) (fun g hg => by have := hlt g hg; simp; omega), fun p hp => ?_, by simp, fun x hx => (hln x hx).alloc _, by simp, hld, by simp⟩
  have hm : p.1 ∈ cells.map (·.1) := List.mem_map_of_mem hp
  exact ⟨hm, (World.cell?_alloc_lt _ _ _ (hlt _ hm)).trans (hcl p hp).1, (World.frozen?_alloc_past _ _ _ (hlt _ hm)).trans (hcl p hp).2⟩
theorem Lent.mono {B B' g cap : Nat} {l : List Nat} (h : Lent w B g cap l) (hB : B' ≤ B) : Lent w B' g cap l := ⟨h.1.mono hB, h.2.1, Nat.le_trans hB h.2.2⟩
theorem Own.poke {w : World} {t : TypeId} {B g c : Nat} {l : List Nat} (h : Own w t B (some ⟨g, 0, none⟩) c l) {k y : Nat} (hy : y < 4294967296) {E : Int} (hE : E = (y : Int)) : Own (w.setCell ⟨g, k, none⟩ (.int .u32 E)) t B (some ⟨g, 0, none⟩) c (l.set k y) := by
  subst hE
  refine ⟨?_, by rw [List.length_set]; exact h.2.1, ?_⟩
  · intro x hx
    rcases List.mem_or_eq_of_mem_set hx with hx | rfl
    · exact h.1 x hx
    · exact hy
  · rcases h.2.2 with ⟨e, _⟩ | ⟨g', cur, e, hg, hk, h1, h2, h3⟩
    · cases e
    · injection e with e; injection e with e; subst e
      refine .inr ⟨g, _, rfl, hg, hk.set_ k _, by rw [List.length_set]; exact h1, by simpa using h2, fun j hj => ?_⟩
      rw [List.length_set] at hj
      rw [Array.getElem?_setIfInBounds]
      by_cases hkj : k = j
      · subst hkj
        rw [if_pos rfl, if_pos (by omega), nth_lt _ (by rw [List.length_set]; exact hj)]
        simp
      · rw [if_neg hkj, h3 j hj, nth_lt _ hj, nth_lt _ (by rw [List.length_set]; exact hj), List.getElem_set_ne hkj]
theorem Lent.poke {w : World} {B g cap : Nat} {l : List Nat} (h : Lent w B g cap l) {k y : Nat} (hk : k < l.length) (hy : y < 4294967296) {E : Int} (hE : E = (y : Int)) : Lent (w.setCell ⟨g, k, none⟩ (.int .u32 E)) B g cap (l.set k y) := by
  refine ⟨?_, by rw [List.length_set]; exact h.2.1, h.2.2⟩
  have := h.1.poke (k := k) hy hE
  rwa [List.set_append_left _ _ hk] at this
theorem Lent.far {w : World} {B g cap : Nat} {l : List Nat} (h : Lent w B g cap l) {p : Addr} (hp : g ≠ p.block) (u : Value) : Lent (w.setCell p u) B g cap l :=
  ⟨h.1.setFar (fun a ha => by injection ha with ha; rw [← ha]; exact hp) u, h.2⟩
theorem Lent.blk {w : World} {B g cap : Nat} {l : List Nat} (h : Lent w B g cap l) : ∃ cur, Blk w g 28 cur := by
  rcases h.1.2.2 with ⟨e, _⟩ | ⟨g', cur, e, _, hk, _⟩
  · cases e
  · injection e with e; injection e with e; subst e; exact ⟨cur, hk⟩
/-- A limb of a lent number, written over. -/
theorem St.poke (S : St w wk kb gv wv es ws Fr cells pend ls) (i : Nat) {g cap : Nat} {l : List Nat} (hi : ls[i]? = some ⟨g, cap, l⟩) {k y : Nat} (hk : k < l.length) (hy : y < 4294967296) {E : Int} (hE : E = (y : Int)) (hc : ∀ p ∈ cells, p.1 ≠ g) : St w (wk.setCell ⟨g, k, none⟩ (.int .u32 E)) kb gv wv es ws Fr cells pend (ls.set i ⟨g, cap, l.set k y⟩) := by
  have hm := List.mem_of_getElem? hi
  have hl := S.ln _ hm
  obtain ⟨cur, hb⟩ := hl.blk
  have hin : ∀ x ∈ ls.set i ⟨g, cap, l.set k y⟩, ∃ x0 ∈ ls, x0.g = x.g := by
    intro x hx
    rcases List.mem_or_eq_of_mem_set hx with hx | rfl
    · exact ⟨x, hx, rfl⟩
    · exact ⟨_, hm, rfl⟩
  have hfar : ∀ e : Ent, (∀ x ∈ ls, e.A ≠ some ⟨x.g, 0, none⟩) → ∀ B', Own wk 28 B' e.A e.c e.l → Own (wk.setCell ⟨g, k, none⟩ (.int .u32 E)) 28 B' e.A e.c e.l := by
    intro e he B' ho
    refine ho.setFar (fun a ha hag => he _ hm ?_) _
    rcases ho.2.2 with ⟨e0, _⟩ | ⟨g', _, e0, _⟩
    · rw [e0] at ha; cases ha
    · rw [e0] at ha ⊢; injection ha with ha; rw [← ha] at hag; simp only at hag; rw [hag]
  have hkb : kb ≠ g := Blk.ne_ S.bk.pr.blk hb (by decide)
  refine ⟨S.bel.setCell hl.2.2 _, ⟨⟨S.bk.pr.blk.far hkb _, ownsRow_far S.bk.pr.got hb (by decide), ownsRow_far S.bk.pr.want hb (by decide), S.bk.pr.base, S.bk.pr.kfar, S.bk.pr.gfar, S.bk.pr.wfar, S.bk.pr.apart, fun g' hg' => by have := S.bk.pr.fr g' hg'; simpa using this⟩, fun e he => hfar e (S.lap e he) _ (S.bk.goto_ e he), fun e he => hfar e (S.wlap e (List.mem_append_left _ he)) _ (S.bk.wanto e he), S.bk.same, S.bk.dist⟩, fun p hp => ?_, fun e he => hfar e (S.wlap e (List.mem_append_right _ he)) _ (S.ow e he), fun x hx => ?_, fun e he x hx => ?_, ?_, fun e he x hx => ?_⟩
  · obtain ⟨h1, h2, h3⟩ := S.cl p hp
    exact ⟨h1, (World.cell?_setCell_other _ _ _ _ (by intro e; exact hc p hp (by injection e with e; exact e.symm))).trans h2, (World.frozen?_of_block (Below.heap_setCell _ _ _ _ (by simpa using hc p hp))).trans h3⟩
  · obtain ⟨j, hj⟩ := List.mem_iff_getElem?.1 hx
    rw [List.getElem?_set] at hj
    by_cases hij : i = j
    · subst hij
      have hlt : i < ls.length := (List.getElem?_eq_some_iff.1 hi).1
      rw [if_pos rfl, if_pos hlt] at hj
      injection hj with hj; subst hj
      exact hl.poke hk hy hE
    · rw [if_neg hij] at hj
      have hx' := List.mem_of_getElem? hj
      refine (S.ln x hx').far ?_ _
      show x.g ≠ g
      obtain ⟨h1, e1⟩ := List.getElem?_eq_some_iff.1 hi
      obtain ⟨h2, e2⟩ := List.getElem?_eq_some_iff.1 hj
      have hd := List.pairwise_iff_getElem.1 S.ldist
      rcases Nat.lt_or_gt_of_ne hij with h | h
      · have := hd i j h1 h2 h
        rw [e1, e2] at this; exact fun e => this e.symm
      · have := hd j i h2 h1 h
        rw [e1, e2] at this; exact this
  · obtain ⟨x0, hx0, e0⟩ := hin x hx
    rw [← e0]; exact S.lap e he x0 hx0
  · have hg : ls.map (·.g) = (ls.set i ⟨g, cap, l.set k y⟩).map (·.g) := by
      rw [List.map_set]
      symm
      obtain ⟨h1, e1⟩ := List.getElem?_eq_some_iff.1 hi
      apply List.ext_getElem (by simp)
      intro j ha hb'
      rw [List.getElem_set]
      split
      · rename_i hij; subst hij; simp [e1]
      · rfl
    have h1 : (ls.map (·.g)).Pairwise (· ≠ ·) := List.pairwise_map.2 S.ldist
    rw [hg] at h1
    exact List.pairwise_map.1 h1
  · obtain ⟨x0, hx0, e0⟩ := hin x hx
    rw [← e0]; exact S.wlap e he x0 hx0
end
end Go.Proofs.Ytkepjhgafpbecaa
