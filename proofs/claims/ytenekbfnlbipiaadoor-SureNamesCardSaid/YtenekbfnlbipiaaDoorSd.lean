/- Families of answers: each in a block of its own; what writing and growing one leaves of the others. No walk here. -/
import Derived.Test.YtenekbfnlbipiaaDoorBook
namespace Go.Proofs.YtenekbfnlbipiaaDoor
open Go.RowKit
set_option linter.unusedVariables false
set_option linter.unusedSimpArgs false
set_option maxHeartbeats 4000000
set_option maxRecDepth 100000

/-- The j-th entry. -/
def ent (es : List Ent) (j : Nat) : Ent := es.getD j ⟨none, 0, []⟩
theorem ent_get (es : List Ent) (j : Nat) (h : j < es.length) : es[j]? = some (ent es j) := by
  unfold ent; simp [List.getElem?_eq_getElem h]
theorem ent_mem (es : List Ent) (j : Nat) (h : j < es.length) : ent es j ∈ es := List.mem_of_getElem? (ent_get es j h)
theorem ent_v (es : List Ent) (j : Nat) (h : j < es.length) : (es.map Ent.v)[j]? = some (ent es j).v := by
  rw [List.getElem?_map, ent_get es j h]; rfl
theorem ent_dist {es : List Ent} (hd : es.Pairwise (fun a b => a.A = none ∨ a.A ≠ b.A)) {i j : Nat} (hi : i < es.length) (hj : j < es.length) (hne : i ≠ j) : (ent es i).A = none ∨ (ent es i).A ≠ (ent es j).A := by
  have key : ∀ a b : Nat, a < b → b < es.length → ((ent es a).A = none ∨ (ent es a).A ≠ (ent es b).A) := by
    intro a b hab hb
    have := List.pairwise_iff_getElem.1 hd a b (by omega) hb hab
    have ea : es[a] = ent es a := by have := ent_get es a (by omega); rw [List.getElem?_eq_getElem (by omega)] at this; exact Option.some.inj this
    have eb : es[b] = ent es b := by have := ent_get es b hb; rw [List.getElem?_eq_getElem hb] at this; exact Option.some.inj this
    rwa [ea, eb] at this
  rcases Nat.lt_or_gt_of_ne hne with h | h
  · exact key i j h hj
  · rcases key j i h hi with h' | h'
    · by_cases h2 : (ent es i).A = none
      · exact .inl h2
      · exact .inr (by rw [h']; exact h2)
    · exact .inr (Ne.symm h')
theorem ent_append_left (es le : List Ent) (j : Nat) (h : j < es.length) : ent (es ++ le) j = ent es j := by
  have h1 := ent_get (es ++ le) j (by simp; omega)
  rw [List.getElem?_append_left h, ent_get es j h] at h1
  exact (Option.some.inj h1).symm

/-- A row of slices that a value reads: where, in which block. -/
theorem row_reads {w : World} {B : Nat} {e : TypeId} {gv : Value} {n : Nat} {xs : List Value} (h : w.ownsRow B e 1 gv n xs) (hn : 0 < n) :
    ∃ (g c : Nat) (cur : Array Value), gv = .slice (some ⟨g, 0, none⟩) n c ∧ B ≤ g ∧ Blk w g e cur ∧ ∀ (j : Nat) (u : Value), xs[j]? = some u → cur[j]? = some u := by
  rcases h.2 with ⟨_, h0⟩ | ⟨g, cap, cur, rfl, hg, hh, h1, _, h2, h3⟩
  · omega
  · refine ⟨g, cap, cur, rfl, hg, hh, fun j u hj => ?_⟩
    rw [← h3, List.getElem?_take] at hj
    split at hj
    · simpa using hj
    · cases hj

/-- Each of the entries owns its list. -/
def Fam (w : World) (B : Nat) (es : List Ent) (f : Nat → List Nat) : Prop :=
  ∀ j, j < es.length → Own w 90 B (ent es j).A (ent es j).c (f j) ∧ (f j).length = (ent es j).l.length
section
variable {w w' : World} {B : Nat} {es : List Ent} {f : Nat → List Nat}
theorem Fam.blocks (h : Fam w B es f) (hk : ∀ g cs, Blk w g 90 cs → Blk w' g 90 cs) : Fam w' B es f := fun j hj => ⟨(h j hj).1.blocks hk, (h j hj).2⟩
theorem Fam.below (h : Fam w B es f) (hb : Below w.heap.size w w') : Fam w' B es f := h.blocks fun g cs hg => hg.below hb hg.lt
theorem Own.setOwn {t : TypeId} {c g k x : Nat} {l : List Nat} (h : Own w t B (some ⟨g, 0, none⟩) c l) (hk : k < l.length) (hx : x < 4294967296) : Own (w.setCell ⟨g, k, none⟩ (.int .u32 (x : Int))) t B (some ⟨g, 0, none⟩) c (l.set k x) := by
  refine ⟨h.1.set _ _ hx, by simpa using h.2.1, ?_⟩
  rcases h.2.2 with ⟨h0, _⟩ | ⟨g', cur, e, hg, hb, h1, h2, h3⟩
  · cases h0
  · injection e with e
    injection e with e
    subst e
    refine .inr ⟨g, _, rfl, hg, hb.set_ k _, by simpa using h1, by simpa using h2, fun j hj => ?_⟩
    simp only [List.length_set] at hj
    rw [Array.getElem?_setIfInBounds]
    by_cases hjk : k = j
    · subst hjk
      rw [if_pos rfl, if_pos (by omega), nth_lt _ (by simpa using hj)]
      simp
    · rw [if_neg hjk, h3 j hj, nth_lt _ hj, nth_lt _ (by simpa using hj)]
      simp [hjk]
/-- One limb of one entry is written. -/
theorem Fam.put (h : Fam w B es f) (hd : es.Pairwise (fun a b => a.A = none ∨ a.A ≠ b.A)) {i k x g : Nat} (hi : i < es.length) (hA : (ent es i).A = some ⟨g, 0, none⟩) (hk : k < (f i).length) (hx : x < 4294967296) :
    Fam (w.setCell ⟨g, k, none⟩ (.int .u32 (x : Int))) B es (fun j => if j = i then (f i).set k x else f j) := by
  intro j hj
  dsimp only
  by_cases hji : j = i
  · subst hji
    rw [if_pos rfl]
    have := (h j hj).1
    rw [hA] at this ⊢
    exact ⟨this.setOwn hk hx, by simpa using (h j hj).2⟩
  · rw [if_neg hji]
    refine ⟨?_, (h j hj).2⟩
    obtain ⟨ho, hl⟩ := h j hj
    refine ⟨ho.1, ho.2.1, ?_⟩
    rcases ho.2.2 with h0 | ⟨g', cur, e, hg, hb, r⟩
    · exact .inl h0
    · refine .inr ⟨g', cur, e, hg, hb.far ?_ _, r⟩
      rintro rfl
      rcases ent_dist hd hj hi hji with h' | h'
      · rw [h'] at e; cases e
      · exact h' (e.trans hA.symm)
end

theorem nth_append_left (a b : List Nat) (k : Nat) (h : k < a.length) : nth (a ++ b) k = nth a k := by
  rw [nth_lt _ h, nth_lt _ (by simp; omega), List.getElem_append_left]
theorem nth_append_right (a b : List Nat) (k : Nat) (h : a.length ≤ k) : nth (a ++ b) k = nth b (k - a.length) := by
  unfold nth
  simp [List.getElem?_append, Nat.not_lt.2 h]
/-- The marks. -/
def mk1 (i len : Nat) : List Nat := (List.range len).map fun k => 1000 * i + k % 1000
def mk2 (i len : Nat) : List Nat := (List.range len).map fun k => 900000 + 1000 * i + k
theorem mk1_len (i len : Nat) : (mk1 i len).length = len := by simp [mk1]
theorem mk2_len (i len : Nat) : (mk2 i len).length = len := by simp [mk2]
theorem mk1_nth (i len k : Nat) (h : k < len) : nth (mk1 i len) k = 1000 * i + k % 1000 := by
  rw [nth_lt _ (by simp [mk1]; exact h)]; simp [mk1]
theorem mk2_nth (i len k : Nat) (h : k < len) : nth (mk2 i len) k = 900000 + 1000 * i + k := by
  rw [nth_lt _ (by simp [mk2]; exact h)]; simp [mk2]
theorem mk2_succ (i k : Nat) : mk2 i (k + 1) = mk2 i k ++ [900000 + 1000 * i + k] := by
  simp [mk2, List.range_succ]
/-- The first k of the marks, the rest as it was. -/
def part (i k : Nat) (l : List Nat) : List Nat := mk1 i k ++ l.drop k
theorem part_zero (i : Nat) (l : List Nat) : part i 0 l = l := by simp [part, mk1]
theorem part_all (i : Nat) (l : List Nat) : part i l.length l = mk1 i l.length := by simp [part]
theorem part_len (i k : Nat) (l : List Nat) (h : k ≤ l.length) : (part i k l).length = l.length := by simp [part, mk1_len]; omega
theorem part_succ (i k : Nat) (l : List Nat) (h : k < l.length) : (part i k l).set k (1000 * i + k % 1000) = part i (k + 1) l := by
  have e : l.drop k = l[k] :: l.drop (k + 1) := List.drop_eq_getElem_cons h
  have hm : mk1 i (k + 1) = mk1 i k ++ [1000 * i + k % 1000] := by simp [mk1, List.range_succ]
  unfold part
  rw [e, hm, List.set_append_right _ _ (by rw [mk1_len]; omega), mk1_len, Nat.sub_self, List.set_cons_zero, List.append_assoc]
  rfl

theorem Fam.congr {w : World} {B : Nat} {es : List Ent} {f f' : Nat → List Nat} (h : Fam w B es f) (he : ∀ j, j < es.length → f j = f' j) : Fam w B es f' := fun j hj => by rw [← he j hj]; exact h j hj
/-- append of a slice of slices, nil let in. -/
theorem wpList_appv {P : Program} {ops : Array Oper} {rest : List Oper} {o : Oper} {a : Act} {Q : Exit → Act → World → Prop} {w : World} (hgd : o.guard = none) (s x : Operand) {t e : TypeId} (ho : o.op = .call { callee := .builtin .append, args := #[s, x], argTypes := #[t, t] })
    (i : TypeInfo) (z : Value) (b : Nat) (ht : P.underlying t = some (.slice e)) (hi : P.info? e = some i) (hz : i.zero = some z) (hsize : i.size = 1) (hby : i.bytes = b) (hb : b ≤ 64) (hzs : z.cells.size = 1)
    {B n : Nat} {v : Value} {xs : List Value} (hown : w.ownsRow B e 1 v n xs) (hs : a.eval s = v) (LA : Option Addr) (m c : Nat) (hx : a.eval x = .slice LA m c) (ys : List Value) (hm : m = ys.length) (h1 : ∀ u ∈ ys, u.oneCell' = true)
    (hcell : 0 < m → ∃ ad, LA = some ad ∧ ∀ j u, ys[j]? = some u → w.cell? (ad.add j) = some u) (hlen : n + m ≤ 1000000) (hB : B ≤ w.heap.size)
    (h : ∀ v' w', w'.ownsRow B e 1 v' (n + m) (xs ++ ys) → w.grownBy w' v.ownBlock → wpList P ops Q rest (a.put o.dst v') w') : wpList P ops Q (o :: rest) a w := by
  by_cases h0 : 0 < m
  · obtain ⟨ad, rfl, hc⟩ := hcell h0
    exact wpList_append_own w hgd s x t ho B e i z 1 b ht hi hz hsize hby hzs (by omega) v n xs hs hown ad m c ys hx (by omega) hc h1 (by unfold maxLen; omega) (by have : (n + m) * b ≤ (n + m) * 64 := Nat.mul_le_mul_left _ hb; omega) hB fun v' w' a1 a2 _ => h v' w' a1 a2
  · have hm0 : m = 0 := by omega
    subst hm0
    have hy : ys = [] := List.eq_nil_of_length_eq_zero hm.symm
    subst hy
    have hrun : (Builtin.append_ #[t, t] o.type #[v, .slice LA 0 c]).run P w = .ok v w := by
      rcases hown.2 with ⟨rfl, _⟩ | ⟨g, cap, cur, rfl, _, _, hnc, _⟩
      · cases LA <;> simp [Builtin.append_, run_underlying ht, sizeOf, typeInfo, hi, Builtin.lenOf, Builtin.firstCells, loadCells, loadCellsFrom]
      · cases LA <;> simp [Builtin.append_, run_underlying ht, sizeOf, typeInfo, hi, Builtin.lenOf, Builtin.firstCells, loadCells, loadCellsFrom, hnc, storeCells]
    refine wpList_plain hgd fun K hK => ?_
    unfold Oper.wp execOp
    simp only [ho, resolve, invoke, builtin, Sem.run_bind, Sem.run_pure, Result.andThen_ok, List.map_toArray, List.map_cons, List.map_nil, hs, hx, hrun]
    exact hK _ _ (h v w (by simpa using hown) (World.grownBy.refl w _))
theorem OwnG.cell2 {w : World} {t : TypeId} {B c : Nat} {A : Option Addr} {l : List Nat} (h : OwnG w t B A c l) {k : Nat} (hk : k < l.length) :
    ∃ g cur, A = some ⟨g, 0, none⟩ ∧ B ≤ g ∧ g < w.heap.size ∧ w.cell? ⟨g, k, none⟩ = some (.int .u32 ((nth l k : Nat) : Int)) ∧ w.frozen? ⟨g, k, none⟩ = false ∧ Blk w g t cur := by
  rcases h.2 with ⟨_, rfl, _⟩ | ⟨g, cur, e, hg, hb, h1, h2, h3⟩
  · simp at hk
  · exact ⟨g, cur, e, hg, hb.lt, (hb.cell k).trans (h3 k hk), hb.frozen k, hb⟩
theorem Fam.putE {w : World} {B : Nat} {es : List Ent} {f : Nat → List Nat} (h : Fam w B es f) (hd : es.Pairwise (fun a b => a.A = none ∨ a.A ≠ b.A)) {i k x g : Nat} (hi : i < es.length) (hA : (ent es i).A = some ⟨g, 0, none⟩) (hk : k < (f i).length) (hx : x < 4294967296) {X : Int} (hX : X = (x : Int)) :
    Fam (w.setCell ⟨g, k, none⟩ (.int .u32 X)) B es (fun j => if j = i then (f i).set k x else f j) := by subst hX; exact h.put hd hi hA hk hx
/-- The marks' family in the midst. -/
def fi (E : List Ent) (i : Nat) : Nat → List Nat := fun j => if j < i then mk1 j (ent E j).l.length else (ent E j).l
def fq (E : List Ent) (i q : Nat) : Nat → List Nat := fun j => if j = i then part i q (ent E i).l else fi E i j
theorem fi_zero (E : List Ent) : fi E 0 = fun j => (ent E j).l := by funext j; simp [fi]
theorem fq_zero (E : List Ent) (i : Nat) : fq E i 0 = fi E i := by
  funext j; unfold fq
  by_cases h : j = i
  · subst h; simp [part_zero, fi]
  · rw [if_neg h]
theorem fq_self (E : List Ent) (i q : Nat) : fq E i q i = part i q (ent E i).l := by simp [fq]
theorem fq_succ (E : List Ent) (i q : Nat) (h : q < (ent E i).l.length) : (fun j => if j = i then (fq E i q i).set q (1000 * i + q % 1000) else fq E i q j) = fq E i (q + 1) := by
  funext j
  by_cases hj : j = i
  · subst hj; rw [if_pos rfl, fq_self, fq_self, part_succ _ _ _ h]
  · rw [if_neg hj]; unfold fq; rw [if_neg hj, if_neg hj]
theorem fq_all (E : List Ent) (i : Nat) : fq E i (ent E i).l.length = fi E (i + 1) := by
  funext j
  unfold fq fi
  by_cases hj : j = i
  · subst hj; rw [if_pos rfl, if_pos (by omega), part_all]
  · rw [if_neg hj]
    by_cases h : j < i
    · rw [if_pos h, if_pos (by omega)]
    · rw [if_neg h, if_neg (by omega)]
theorem elemU : ElemOf Tryd.prog 54 90 .u32 := by
  refine ⟨Tryd.underlying54, ?_⟩
  have h : (Tryd.prog.info? 90).map (fun i => (i.zero, i.size, i.bytes)) = some (some (.int .u32 0), 1, 4) := by kernel_rfl
  obtain ⟨i, h1, h2, h3, h4⟩ := info_parts h
  exact ⟨i, 4, h1, h2, h3, h4, by omega⟩
theorem bytesU : (Tryd.prog.info? 90).map (·.bytes) = some 4 := by kernel_rfl
/-- Grown: the lists of the first entries, with forty marks more. -/
def GrRel (w : World) (B W4 : Nat) (E gs : List Ent) : Prop :=
  ∀ j, j < gs.length → OwnG w 90 B (ent gs j).A (ent gs j).c (ent gs j).l ∧ (ent gs j).l = mk1 j (ent E j).l.length ++ mk2 j 40 ∧ ((ent gs j).A = (ent E j).A ∨ ∃ g, (ent gs j).A = some ⟨g, 0, none⟩ ∧ W4 ≤ g)
theorem GrRel.blocks {w w' : World} {B W4 : Nat} {E gs : List Ent} (h : GrRel w B W4 E gs) (hk : ∀ g cs, Blk w g 90 cs → Blk w' g 90 cs) : GrRel w' B W4 E gs := fun j hj => ⟨(h j hj).1.blocks hk, (h j hj).2⟩
theorem ent_snoc_lt (gs : List Ent) (e : Ent) (j : Nat) (h : j < gs.length) : ent (gs ++ [e]) j = ent gs j := ent_append_left gs [e] j h
theorem ent_snoc (gs : List Ent) (e : Ent) : ent (gs ++ [e]) gs.length = e := by
  have h1 := ent_get (gs ++ [e]) gs.length (by simp)
  simp at h1; exact h1.symm
theorem GrRel.snoc {w : World} {B W4 : Nat} {E gs : List Ent} (h : GrRel w B W4 E gs) (e : Ent) (h1 : OwnG w 90 B e.A e.c e.l) (h2 : e.l = mk1 gs.length (ent E gs.length).l.length ++ mk2 gs.length 40) (h3 : e.A = (ent E gs.length).A ∨ ∃ g, e.A = some ⟨g, 0, none⟩ ∧ W4 ≤ g) : GrRel w B W4 E (gs ++ [e]) := by
  intro j hj
  by_cases hj1 : j < gs.length
  · rw [ent_snoc_lt _ _ _ hj1]; exact h j hj1
  · have : j = gs.length := by simp at hj; omega
    subst this
    rw [ent_snoc]; exact ⟨h1, h2, h3⟩
/-- One more limb at the end of what grows: the others stay. -/
theorem GrRel.grow {w w' : World} {B W4 Wi : Nat} {E gs : List Ent} (h : GrRel w B W4 E gs) {A : Option Addr} {n i : Nat} (hst : Stay w w' A n) (hd : E.Pairwise (fun a b => a.A = none ∨ a.A ≠ b.A)) (hi : i < E.length) (hgi : gs.length = i)
    (hA : A = (ent E i).A ∨ ∃ g, A = some ⟨g, 0, none⟩ ∧ Wi ≤ g) (hEW : ∀ j, j < E.length → ∀ g, (ent E j).A = some ⟨g, 0, none⟩ → g < W4) (hW : W4 ≤ Wi) (hgW : ∀ j, j < gs.length → ∀ g, (ent gs j).A = some ⟨g, 0, none⟩ → g < Wi) : GrRel w' B W4 E gs := by
  intro j hj
  obtain ⟨h1, h2, h3⟩ := h j hj
  refine ⟨hst.ownG h1 fun e => ?_, h2, h3⟩
  exfalso
  have hne : (ent gs j).A ≠ none := by
    intro e0
    rcases h1.2 with ⟨_, e1, _⟩ | ⟨g, _, e1, _⟩
    · rw [h2] at e1
      have := congrArg List.length e1
      simp [mk2_len] at this
    · rw [e0] at e1; cases e1
  obtain ⟨g, hg⟩ : ∃ g, (ent gs j).A = some ⟨g, 0, none⟩ := by
    rcases h1.2 with ⟨e1, _⟩ | ⟨g, _, e1, _⟩
    · exact absurd e1 hne
    · exact ⟨g, e1⟩
  have hgWi := hgW j hj g hg
  rcases hA with hA | ⟨g', hA, hg'⟩
  · have hlt := hEW i hi g (by rw [← hA, ← e, hg])
    rcases h3 with h3 | ⟨g'', h3, hg''⟩
    · rcases ent_dist hd (i := j) (j := i) (by omega) hi (by omega) with h4 | h4
      · exact hne (h3.trans h4)
      · exact h4 (h3.symm.trans (e.trans hA))
    · have : g'' = g := by rw [hg] at h3; injection h3 with h3; injection h3 with h3; exact h3.symm
      omega
  · have : g = g' := by rw [hg, hA] at e; injection e with e; injection e
    omega
theorem Fam.grow {w w' : World} {B Wi : Nat} {E : List Ent} {f : Nat → List Nat} (h : Fam w B E f) {A : Option Addr} {n i : Nat} (hst : Stay w w' A n) (hd : E.Pairwise (fun a b => a.A = none ∨ a.A ≠ b.A)) (hi : i < E.length)
    (hA : A = (ent E i).A ∨ ∃ g, A = some ⟨g, 0, none⟩ ∧ Wi ≤ g) (hEW : ∀ j, j < E.length → ∀ g, (ent E j).A = some ⟨g, 0, none⟩ → g < Wi) (hn : (f i).length ≤ n) : Fam w' B E f := by
  intro j hj
  obtain ⟨h1, h2⟩ := h j hj
  refine ⟨hst.own h1 fun e => ?_, h2⟩
  rcases hA with hA | ⟨g, hA, hg⟩
  · by_cases hji : j = i
    · subst hji; exact hn
    · rcases ent_dist hd hj hi hji with h4 | h4
      · rcases h1.2.2 with ⟨_, e1, _⟩ | ⟨g, _, e1, _⟩
        · rw [e1]; simp
        · rw [h4] at e1; cases e1
      · exact absurd (e.trans hA) h4
  · exact absurd (hEW j hj g (e.trans hA)) (by omega)
theorem Fam.lt {w : World} {B : Nat} {E : List Ent} {f : Nat → List Nat} (h : Fam w B E f) : ∀ j, j < E.length → ∀ g, (ent E j).A = some ⟨g, 0, none⟩ → g < w.heap.size := by
  intro j hj g hg
  rcases (h j hj).1.2.2 with ⟨e1, _⟩ | ⟨g', _, e1, _, hb, _⟩
  · rw [hg] at e1; cases e1
  · rw [hg] at e1; injection e1 with e1; injection e1 with e1; rw [e1]; exact hb.lt
theorem GrRel.lt {w : World} {B W4 : Nat} {E gs : List Ent} (h : GrRel w B W4 E gs) : ∀ j, j < gs.length → ∀ g, (ent gs j).A = some ⟨g, 0, none⟩ → g < w.heap.size := by
  intro j hj g hg
  rcases (h j hj).1.2 with ⟨e1, _⟩ | ⟨g', _, e1, _, hb, _⟩
  · rw [hg] at e1; cases e1
  · rw [hg] at e1; injection e1 with e1; injection e1 with e1; rw [e1]; exact hb.lt
theorem fi_all (E : List Ent) (j : Nat) (h : j < E.length) : fi E E.length j = mk1 j (ent E j).l.length := by simp [fi, h]
/-- A block of another type than the slice's stays. -/
theorem OwnG.far {w w' : World} {t tt : TypeId} {B c g n : Nat} {A : Option Addr} {l : List Nat} {cs : Array Value} (h : OwnG w t B A c l) (hst : Stay w w' A n) (hb : Blk w g tt cs) (hne : tt ≠ t) : Blk w' g tt cs := by
  refine hst.blk hb fun e => ?_
  rcases h.2 with ⟨e1, _⟩ | ⟨g', _, e1, _, hk, _⟩
  · rw [e1] at e; cases e
  · rw [e1] at e; injection e with e; injection e with e; subst e
    exact Blk.ne_ hb hk hne rfl
theorem ownsRow_stay {w w' : World} {t e : TypeId} {B c n k : Nat} {A : Option Addr} {l : List Nat} {v : Value} {xs : List Value} (h : OwnG w t B A c l) (hst : Stay w w' A n) (ho : w.ownsRow B e 1 v k xs) (hne : e ≠ t) : w'.ownsRow B e 1 v k xs := by
  refine ⟨ho.1, ?_⟩
  rcases ho.2 with h0 | ⟨g, cap, cur, e1, hg, hh, r⟩
  · exact .inl h0
  · exact .inr ⟨g, cap, cur, e1, hg, h.far hst hh hne, r⟩
theorem Left.cell {B : Nat} {Fr : List Nat} {w w' : World} (h : Left B Fr w w') {p : Addr} (hp : p.block ∈ Fr) : w'.cell? p = w.cell? p := World.cell?_of_block (h.fr p.block hp)
theorem Left.frozen {B : Nat} {Fr : List Nat} {w w' : World} (h : Left B Fr w w') {p : Addr} (hp : p.block ∈ Fr) : w'.frozen? p = w.frozen? p := World.frozen?_of_block (h.fr p.block hp)
end Go.Proofs.YtenekbfnlbipiaaDoor
