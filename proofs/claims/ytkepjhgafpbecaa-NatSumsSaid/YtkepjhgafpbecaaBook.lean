/- The book of answers: what it holds; adding to it. -/
import Derived.Test.YtkepjhgafpbecaaSm
import Derived.Test.YtkepjhgafpbecaaGrow
import Derived.Deep.AppendLies
import Derived.Deep.RegionLaw
import Derived.Deep.DrawnRows

import Derived.ProofKit
namespace Go.Proofs.Ytkepjhgafpbecaa
open Go.RowKit
set_option linter.unusedVariables false
set_option linter.unusedSimpArgs false
set_option maxHeartbeats 4000000
set_option maxRecDepth 100000
attribute [local go_sem ↓] Go.wp_at_zero Go.wp_at_succ

/-- An entry: where the limbs lie, and which. -/
structure Ent where
  A : Option Addr
  c : Nat
  l : List Nat
def Ent.v (e : Ent) : Value := .slice e.A e.l.length e.c
theorem ent_one (es : List Ent) : ∀ u ∈ es.map Ent.v, u.oneCell' = true := by
  intro u hu
  simp only [List.mem_map] at hu
  obtain ⟨e, _, rfl⟩ := hu
  rfl
theorem ownsRow_below {w w' : World} {B : Nat} {e : TypeId} {s n : Nat} {v : Value} {xs : List Value} (h : w.ownsRow B e s v n xs) (hb : Below w.heap.size w w') : w'.ownsRow B e s v n xs :=
  h.kept ⟨hb.os, hb.tape, hb.output, hb.size, fun k hk _ => hb.block k hk⟩ (by cases h' : v.ownBlock with | none => exact .inl rfl | some _ => exact .inr (by simp)) (row := none)
theorem ownsRow_ne {w : World} {B : Nat} {e t : TypeId} {s n g : Nat} {cs : Array Value} {v : Value} {xs : List Value} (h : w.ownsRow B e s v n xs) (hb : Blk w g t cs) (hne : e ≠ t) : ∀ g', v.ownBlock = some g' → g' ≠ g := by
  intro g' hg'
  rcases h.2 with ⟨rfl, _⟩ | ⟨g0, cap, cur, rfl, _, hh, _⟩
  · simp [Value.ownBlock] at hg'
  · have : g0 = g' := by simpa [Value.ownBlock] using hg'
    subst this
    exact Blk.ne_ (t := e) hh hb hne
theorem ownsRow_far {w : World} {B : Nat} {e t : TypeId} {s n : Nat} {cs : Array Value} {v u : Value} {p : Addr} {xs : List Value} (h : w.ownsRow B e s v n xs) (hb : Blk w p.block t cs) (hne : e ≠ t) : (w.setCell p u).ownsRow B e s v n xs := by
  refine h.kept (row := some p.block) ⟨rfl, rfl, rfl, by simp, fun k hk hkn => Below.heap_setCell w p u k (by intro e; exact hkn (by rw [e]))⟩ ?_
  cases h' : v.ownBlock with
  | none => exact .inl rfl
  | some g' => exact .inr (by have := ownsRow_ne h hb hne g' h'; simpa using this)
theorem keep3 {w : World} {p q : Addr} {u v : Value} (o : Obj) (h1 : w.cell? p = some u) (h2 : w.cell? q = some v) (h3 : w.frozen? p = false) :
    (w.alloc o).drew.cell? p = some u ∧ (w.alloc o).drew.cell? q = some v ∧ (w.alloc o).drew.frozen? p = false :=
  ⟨(World.cell?_alloc_lt w o p (cell_lt h1)).trans h1, (World.cell?_alloc_lt w o q (cell_lt h2)).trans h2, (World.frozen?_of_block (w := w) (heap_alloc_old w o (cell_lt h1))).trans h3⟩
/-- The book at block kb and its two rows; Fr: blocks that are none of its own. -/
structure Pair (w : World) (B kb : Nat) (gv wv : Value) (n m : Nat) (xs ys : List Value) (Fr : List Nat) : Prop where
  blk : Blk w kb 32 #[gv, wv, .bool false]
  got : w.ownsRow B 35 1 gv n xs
  want : w.ownsRow B 35 1 wv m ys
  base : B ≤ kb
  kfar : kb ∉ Fr
  gfar : ∀ g, gv.ownBlock = some g → g ∉ Fr
  wfar : ∀ g, wv.ownBlock = some g → g ∉ Fr
  apart : ∀ g, gv.ownBlock = some g → wv.ownBlock ≠ some g
  fr : ∀ g ∈ Fr, g < w.heap.size
/-- What the book's own doing leaves. -/
structure Left (B : Nat) (Fr : List Nat) (w w' : World) : Prop where
  below : Below B w w'
  fr : ∀ g ∈ Fr, w'.heap[g]? = w.heap[g]?
  limbs : ∀ g cs, Blk w g 28 cs → Blk w' g 28 cs
theorem Left.trans {B : Nat} {Fr : List Nat} {w w1 w2 : World} (h : Left B Fr w w1) (h' : Left B Fr w1 w2) : Left B Fr w w2 :=
  ⟨h.below.trans h'.below, fun g hg => (h'.fr g hg).trans (h.fr g hg), fun g cs hb => h'.limbs g cs (h.limbs g cs hb)⟩
theorem Left.of_below {B : Nat} {Fr : List Nat} {w w' : World} (h : Below w.heap.size w w') (hB : B ≤ w.heap.size) (hF : ∀ g ∈ Fr, g < w.heap.size) : Left B Fr w w' :=
  ⟨h.mono hB, fun g hg => h.block g (hF g hg), fun g cs hb => hb.below h hb.lt⟩
theorem Left.own {B B' c : Nat} {Fr : List Nat} {w w' : World} {A : Option Addr} {l : List Nat} (h : Left B Fr w w') (ho : Own w 28 B' A c l) : Own w' 28 B' A c l := by
  refine ⟨ho.1, ho.2.1, ?_⟩
  rcases ho.2.2 with h0 | ⟨g, cur, e, hg, hk, r⟩
  · exact .inl h0
  · exact .inr ⟨g, cur, e, hg, h.limbs _ _ hk, r⟩
theorem Left.sub {B : Nat} {Fr Fr' : List Nat} {w w' : World} (h : Left B Fr w w') (hs : ∀ g ∈ Fr', g ∈ Fr) : Left B Fr' w w' := ⟨h.below, fun g hg => h.fr g (hs g hg), h.limbs⟩
section
variable {w w' : World} {B kb n m : Nat} {gv wv : Value} {xs ys : List Value} {Fr : List Nat}
theorem Pair.below (h : Pair w B kb gv wv n m xs ys Fr) (hb : Below w.heap.size w w') (gs : List Nat) (hgs : ∀ g ∈ gs, w.heap.size ≤ g ∧ g < w'.heap.size) : Pair w' B kb gv wv n m xs ys (gs ++ Fr) where
  blk := h.blk.below hb h.blk.lt
  got := ownsRow_below h.got hb
  want := ownsRow_below h.want hb
  base := h.base
  kfar := by
    intro hk
    rcases List.mem_append.1 hk with hk | hk
    · have := (hgs _ hk).1; have := h.blk.lt; omega
    · exact h.kfar hk
  gfar := by
    intro g hg hk
    rcases List.mem_append.1 hk with hk | hk
    · have := (hgs _ hk).1; have := (h.got.lt g hg).2; omega
    · exact h.gfar g hg hk
  wfar := by
    intro g hg hk
    rcases List.mem_append.1 hk with hk | hk
    · have := (hgs _ hk).1; have := (h.want.lt g hg).2; omega
    · exact h.wfar g hg hk
  apart := h.apart
  fr := by
    intro g hk
    rcases List.mem_append.1 hk with hk | hk
    · exact (hgs _ hk).2
    · have := h.fr g hk; have := hb.size; omega
theorem Pair.sub (h : Pair w B kb gv wv n m xs ys Fr) {Fr' : List Nat} (hs : ∀ g ∈ Fr', g ∈ Fr) : Pair w B kb gv wv n m xs ys Fr' :=
  ⟨h.blk, h.got, h.want, h.base, fun hk => h.kfar (hs _ hk), fun g hg hk => h.gfar g hg (hs _ hk), fun g hg hk => h.wfar g hg (hs _ hk), h.apart, fun g hg => h.fr g (hs g hg)⟩
theorem Pair.got_ (h : Pair w B kb gv wv n m xs ys Fr) {wa w2 : World} (hwa : Below w.heap.size w wa) {g cap n' H : Nat} {xs' : List Value} (hB : B ≤ w.heap.size) (hgrow : wa.grownBy w2 gv.ownBlock)
    (hown : w2.ownsRow B 35 1 (.slice (some ⟨g, 0, none⟩) n' cap) n' xs') (hat : gv.ownBlock = some g ∨ g = H) (hH : w.heap.size ≤ H) :
    Pair (w2.setCell ⟨kb, 0, none⟩ (.slice (some ⟨g, 0, none⟩) n' cap)) B kb (.slice (some ⟨g, 0, none⟩) n' cap) wv n' m xs' ys Fr ∧ Left B Fr w (w2.setCell ⟨kb, 0, none⟩ (.slice (some ⟨g, 0, none⟩) n' cap)) := by
  have hs1 := hwa.size
  have hs2 := hgrow.size
  have hk2 : Blk w2 kb 32 #[gv, wv, .bool false] :=
    (hgrow.block kb (by have := h.blk.lt; omega) fun e => ownsRow_ne h.got h.blk (by decide) kb e.symm rfl).trans (h.blk.below hwa h.blk.lt)
  have hne : ∀ g', g' < w.heap.size → gv.ownBlock ≠ some g' → w2.heap[g']? = w.heap[g']? := fun g' h1 h2 => (hgrow.block g' (by omega) fun e => h2 e.symm).trans (hwa.block g' h1)
  have hkn : ∀ g', g' ≠ kb → (w2.setCell ⟨kb, 0, none⟩ (.slice (some ⟨g, 0, none⟩) n' cap)).heap[g']? = w2.heap[g']? := fun g' h1 => Below.heap_setCell w2 ⟨kb, 0, none⟩ _ g' h1
  have hgg : ∀ g', (Value.slice (some ⟨g, 0, none⟩) n' cap).ownBlock = some g' → g' = g := fun g' e => by simpa [Value.ownBlock, eq_comm] using e
  refine ⟨⟨hk2.set_ 0 _, ownsRow_far hown hk2 (by decide), ?_, h.base, h.kfar, ?_, h.wfar, ?_, fun g' hg' => by have := h.fr g' hg'; simp; omega⟩, ?_, ?_, ?_⟩
  · refine ownsRow_far ((ownsRow_below h.want hwa).kept hgrow ?_) hk2 (by decide)
    cases e : gv.ownBlock with
    | none => cases e2 : wv.ownBlock <;> simp
    | some g' => exact .inr (h.apart g' e)
  · intro g' e hk
    rw [hgg g' e] at hk
    rcases hat with e' | e'
    · exact h.gfar g e' hk
    · have := h.fr g hk; omega
  · intro g' e e2
    rw [hgg g' e] at e2
    rcases hat with e' | e'
    · exact h.apart g e' e2
    · have := (h.want.lt g e2).2; omega
  · exact (((hwa.mono hB).grown hgrow (by omega) fun k hk => (h.got.lt k hk).1)).setCell (by simpa using h.base) _
  · intro g' hg'
    rw [hkn g' (by rintro rfl; exact h.kfar hg')]
    exact hne g' (h.fr g' hg') fun e => h.gfar g' e hg'
  · intro g' cs hb
    have h1 : g' ≠ kb := Blk.ne_ hb h.blk (by decide)
    exact (hkn g' h1).trans ((hne g' hb.lt fun e => ownsRow_ne h.got hb (by decide) g' e rfl).trans hb)
theorem Pair.want_ (h : Pair w B kb gv wv n m xs ys Fr) {wa w2 : World} (hwa : Below w.heap.size w wa) {g cap n' H : Nat} {ys' : List Value} (hB : B ≤ w.heap.size) (hgrow : wa.grownBy w2 wv.ownBlock)
    (hown : w2.ownsRow B 35 1 (.slice (some ⟨g, 0, none⟩) n' cap) n' ys') (hat : wv.ownBlock = some g ∨ g = H) (hH : w.heap.size ≤ H) :
    Pair (w2.setCell ⟨kb, 1, none⟩ (.slice (some ⟨g, 0, none⟩) n' cap)) B kb gv (.slice (some ⟨g, 0, none⟩) n' cap) n n' xs ys' Fr ∧ Left B Fr w (w2.setCell ⟨kb, 1, none⟩ (.slice (some ⟨g, 0, none⟩) n' cap)) := by
  have hs1 := hwa.size
  have hs2 := hgrow.size
  have hk2 : Blk w2 kb 32 #[gv, wv, .bool false] :=
    (hgrow.block kb (by have := h.blk.lt; omega) fun e => ownsRow_ne h.want h.blk (by decide) kb e.symm rfl).trans (h.blk.below hwa h.blk.lt)
  have hne : ∀ g', g' < w.heap.size → wv.ownBlock ≠ some g' → w2.heap[g']? = w.heap[g']? := fun g' h1 h2 => (hgrow.block g' (by omega) fun e => h2 e.symm).trans (hwa.block g' h1)
  have hkn : ∀ g', g' ≠ kb → (w2.setCell ⟨kb, 1, none⟩ (.slice (some ⟨g, 0, none⟩) n' cap)).heap[g']? = w2.heap[g']? := fun g' h1 => Below.heap_setCell w2 ⟨kb, 1, none⟩ _ g' h1
  have hgg : ∀ g', (Value.slice (some ⟨g, 0, none⟩) n' cap).ownBlock = some g' → g' = g := fun g' e => by simpa [Value.ownBlock, eq_comm] using e
  refine ⟨⟨hk2.set_ 1 _, ?_, ownsRow_far hown hk2 (by decide), h.base, h.kfar, h.gfar, ?_, ?_, fun g' hg' => by have := h.fr g' hg'; simp; omega⟩, ?_, ?_, ?_⟩
  · refine ownsRow_far ((ownsRow_below h.got hwa).kept hgrow ?_) hk2 (by decide)
    cases e : gv.ownBlock with
    | none => exact .inl rfl
    | some g' => exact .inr fun e' => h.apart g' e e'.symm
  · intro g' e hk
    rw [hgg g' e] at hk
    rcases hat with e' | e'
    · exact h.wfar g e' hk
    · have := h.fr g hk; omega
  · intro g' e e2
    have e3 := hgg g' e2
    subst e3
    rcases hat with e' | e'
    · exact h.apart g' e e'
    · have := (h.got.lt g' e).2; omega
  · exact (((hwa.mono hB).grown hgrow (by omega) fun k hk => (h.want.lt k hk).1)).setCell (by simpa using h.base) _
  · intro g' hg'
    rw [hkn g' (by rintro rfl; exact h.kfar hg')]
    exact hne g' (h.fr g' hg') fun e => h.wfar g' e hg'
  · intro g' cs hb
    have h1 : g' ≠ kb := Blk.ne_ hb h.blk (by decide)
    exact (hkn g' h1).trans ((hne g' hb.lt fun e => ownsRow_ne h.want hb (by decide) g' e rfl).trans hb)
end
/-- The book: and what its entries hold. -/
structure Book (w : World) (B kb : Nat) (gv wv : Value) (es ws : List Ent) (Fr : List Nat) : Prop where
  pr : Pair w B kb gv wv es.length ws.length (es.map Ent.v) (ws.map Ent.v) Fr
  goto_ : ∀ e ∈ es, Own w 28 B e.A e.c e.l
  wanto : ∀ e ∈ ws, Own w 28 B e.A e.c e.l
  same : es.map (·.l) = ws.map (·.l)
  dist : es.Pairwise (fun a b => a.A = none ∨ a.A ≠ b.A)
theorem Book.below {w w' : World} {B kb : Nat} {gv wv : Value} {es ws : List Ent} {Fr : List Nat} (h : Book w B kb gv wv es ws Fr) (hb : Below w.heap.size w w') (gs : List Nat) (hgs : ∀ g ∈ gs, w.heap.size ≤ g ∧ g < w'.heap.size) : Book w' B kb gv wv es ws (gs ++ Fr) :=
  ⟨h.pr.below hb gs hgs, fun e he => (h.goto_ e he).below hb (Nat.le_refl _), fun e he => (h.wanto e he).below hb (Nat.le_refl _), h.same, h.dist⟩
theorem info_nat : (Try.prog.info? 35).map (fun i => (i.zero, i.size, i.bytes)) = some (some (.agg #[.slice none 0 0]), 1, 24) := by kernel_rfl

theorem book_adds (kb B : Nat) (gv wv : Value) (es ws : List Ent) (Fr : List Nat) (code : Int) (A A' : Option Addr) (n c n' c' : Nat) (l : List Nat) (hn : n = l.length) (hn' : n' = l.length) (w : World) (hB : B ≤ w.heap.size)
    (hbk : Book w B kb gv wv es ws Fr) (ho : Own w 28 B A c l) (ho' : Own w 28 B A' c' l) (hap : ∀ e ∈ es, e.A = none ∨ e.A ≠ A) (hfew : es.length < 64) :
    Calls Try.prog 20 #[.pointer (some ⟨kb, 0, none⟩), .agg #[.slice A n c], .int .i64 code, .agg #[.slice A' n' c'], .int .i64 code] w fun e w' =>
      ∃ gv' wv', e = .returned (.tuple #[]) ∧ Book w' B kb gv' wv' (es ++ [⟨A, c, l⟩]) (ws ++ [⟨A', c', l⟩]) Fr ∧ Left B Fr w w' := by
  subst hn hn'
  have hwl : ws.length < 64 := by have := congrArg List.length hbk.same; simp at this; omega
  have r1 := (ho.rd.alloc (Obj.cells #[Value.slice A l.length c] 35)).alloc (Obj.cells #[Value.slice A' l.length c'] 35)
  have r2 := (ho'.rd.alloc (Obj.cells #[Value.slice A l.length c] 35)).alloc (Obj.cells #[Value.slice A' l.length c'] 35)
  have hc0 : (code == code) = true := beq_self_eq_true _
  have hlt := hbk.pr.blk.lt
  go_enter Try.func20, Try.ntmps20
  go_wp2_with fail
  refine (ref_Same A A' l l _ _ c c' rfl rfl _ r1 r2).mono ?_
  rintro e w1 ⟨rfl, hb1⟩
  rw [decide_eq_true (rfl : l = l)]
  obtain ⟨hc1, hf1⟩ := bcell hb1
  have hbw1 : Below w.heap.size w w1 := Below.trans (b := _) (by repeat' (first | (with_reducible assumption) | (with_reducible exact Below.refl _ _) | (with_reducible refine bdn ?_ _) | (with_reducible refine Below.drew ?_) | (with_reducible refine Below.setCell ?_ ?_ _) | (with_reducible refine Below.alloc ?_ ?_ _) | go_size)) (hb1.mono (by go_size))
  have hz1_0 : w.heap.size < w1.heap.size := by have := hb1.size; simp at this; omega
  have hz1_1 : w.heap.size + 1 < w1.heap.size := by have := hb1.size; simp at this; omega
  have hbk1 := hbk.below hbw1 [w.heap.size, w.heap.size + 1] (by simp; omega)
  have p1 := hbk1.pr
  have L1 : Left B Fr w w1 := Left.of_below hbw1 hB hbk.pr.fr
  have hl1 := p1.blk.lt
  have k0 : w1.cell? ⟨kb, 0, none⟩ = some gv := p1.blk.cell 0
  have kf : w1.frozen? ⟨kb, 0, none⟩ = false := p1.blk.frozen 0
  have c6 : w1.cell? ⟨w.heap.size, 0, none⟩ = some (.slice A l.length c) := by rw [hc1 _ _ (by go_size)]; simp
  have c8 : w1.cell? ⟨w.heap.size + 1, 0, none⟩ = some (.slice A' l.length c') := by rw [hc1 _ _ (by go_size)]; simp
  obtain ⟨i0, hi0, hz0, hz1, hz2⟩ := info_parts info_nat
  have n1 : some kb ≠ gv.ownBlock := fun e => absurd rfl (ownsRow_ne p1.got p1.blk (by decide) kb e.symm)
  have k0a : (w1.alloc (Obj.cells #[Value.slice A l.length c] 35)).cell? ⟨kb, 0, none⟩ = some gv := (World.cell?_alloc_lt _ _ _ (cell_lt k0)).trans k0
  go_wp2
  go_region_law (refine step_append_lies _ (by rfl) _ _ _ (by rfl) B 35 i0 _ 1 24 Try.underlying30 hi0 hz0 hz1 hz2 rfl (by decide) gv es.length (es.map Ent.v) (by rfl) (World.ownsRow.alloc (World.ownsRow.drew p1.got) _) ⟨w1.heap.size, 0, none⟩ 1 1 [Ent.v ⟨A, c, l⟩] (by rfl) (by rfl) (World.news_of_block (heap_alloc_new _ _)) (ent_one [⟨A, c, l⟩]) (by omega) (by unfold maxLen; omega) (by omega) (by simp; omega) (w1.heap.size + 1) (by simp) ?_; intro g cap w2 hown1 hgrow hat hlt; have kk := (hgrow.cell_far ⟨kb, 0, none⟩ (by simp; omega) n1).trans (keep3 (Obj.cells #[Value.slice A l.length c] 35) k0 c6 kf).1; have kk2 := (hgrow.frozen_far ⟨kb, 0, none⟩ (by simp; omega) n1).trans (keep3 (Obj.cells #[Value.slice A l.length c] 35) k0 c6 kf).2.2)
  all_goals (
    obtain ⟨p3, L3⟩ := p1.got_ (wa := (w1.alloc (Obj.cells #[Value.slice A l.length c] 35)).drew) (((Below.refl _ _).alloc (Nat.le_refl _) _).drew) (by have := hbw1.size; omega) hgrow hown1 hat (by omega)
    clear kk kk2 hgrow hown1 hat hlt
    generalize (w2.setCell ⟨kb, 0, none⟩ (.slice (some ⟨g, 0, none⟩) (es.length + 1) cap)) = w3 at p3 L3 ⊢
    have k1 : w3.cell? ⟨kb, 1, none⟩ = some wv := p3.blk.cell 1
    have kf3 : w3.frozen? ⟨kb, 1, none⟩ = false := p3.blk.frozen 1
    have hl3 := p3.blk.lt
    have c83 : w3.cell? ⟨w.heap.size + 1, 0, none⟩ = some (.slice A' l.length c') := (World.cell?_of_block (L3.fr (w.heap.size + 1) (by simp))).trans c8
    have hs3 := L3.below.size
    have n3 : some kb ≠ wv.ownBlock := fun e => absurd rfl (ownsRow_ne p3.want p3.blk (by decide) kb e.symm)
    have k1a : (w3.alloc (Obj.cells #[Value.slice A' l.length c'] 35)).cell? ⟨kb, 1, none⟩ = some wv := (World.cell?_alloc_lt _ _ _ (cell_lt k1)).trans k1
    have hB3 : B ≤ w3.heap.size := by have := hbw1.size; omega
    clear k0 kf c6 c8 k0a
    go_wp2
    go_region_law (refine step_append_lies _ (by rfl) _ _ _ (by rfl) B 35 i0 _ 1 24 Try.underlying30 hi0 hz0 hz1 hz2 rfl (by decide) wv ws.length (ws.map Ent.v) (by rfl) (World.ownsRow.alloc (World.ownsRow.drew p3.want) _) ⟨w3.heap.size, 0, none⟩ 1 1 [Ent.v ⟨A', c', l⟩] (by rfl) (by rfl) (World.news_of_block (heap_alloc_new _ _)) (ent_one [⟨A', c', l⟩]) (by omega) (by unfold maxLen; omega) (by omega) (by simp; omega) (w3.heap.size + 1) (by simp) ?_; intro g2 cap2 w4 hown1 hgrow hat hlt; have kk := (hgrow.cell_far ⟨kb, 1, none⟩ (by simp; omega) n3).trans (keep3 (Obj.cells #[Value.slice A' l.length c'] 35) k1 c83 kf3).1; have kk2 := (hgrow.frozen_far ⟨kb, 1, none⟩ (by simp; omega) n3).trans (keep3 (Obj.cells #[Value.slice A' l.length c'] 35) k1 c83 kf3).2.2)
    all_goals (
      obtain ⟨p5, L5⟩ := p3.want_ (wa := (w3.alloc (Obj.cells #[Value.slice A' l.length c'] 35)).drew) (((Below.refl _ _).alloc (Nat.le_refl _) _).drew) hB3 hgrow hown1 hat (by omega)
      clear kk kk2 hgrow hown1 hat hlt
      generalize (w4.setCell ⟨kb, 1, none⟩ (.slice (some ⟨g2, 0, none⟩) (ws.length + 1) cap2)) = w5 at p5 L5 ⊢
      go_wp2
      go_end0
      have L : Left B Fr w w5 := (L1.trans (L3.sub (Fr' := Fr) (fun g hg => by simp [hg]))).trans (L5.sub (Fr' := Fr) (fun g hg => by simp [hg]))
      refine ⟨.slice (some ⟨g, 0, none⟩) (es.length + 1) cap, .slice (some ⟨g2, 0, none⟩) (ws.length + 1) cap2, rfl, ⟨?_, ?_, ?_, ?_, ?_⟩, L⟩
      · have := p5.sub (Fr' := Fr) (fun g hg => by simp [hg])
        simpa using this
      · intro e he
        rcases List.mem_append.1 he with he | he
        · exact L.own (hbk.goto_ e he)
        · simp at he; subst he; exact L.own ho
      · intro e he
        rcases List.mem_append.1 he with he | he
        · exact L.own (hbk.wanto e he)
        · simp at he; subst he; exact L.own ho'
      · simp [hbk.same]
      · exact List.pairwise_append.2 ⟨hbk.dist, by simp, by intro a ha b hb; simp at hb; subst hb; exact hap a ha⟩))
end Go.Proofs.Ytkepjhgafpbecaa
