/- Appending to a row of the call's own, one number at a time or a whole slice. No program here. -/
import Derived.Test.YtenekbfnlbipiaaDoorMem
import Derived.Deep.AppendLies
import Derived.Handy
namespace Go.Proofs.YtenekbfnlbipiaaDoor
open Go.RowKit
set_option linter.unusedVariables false
set_option linter.unusedSimpArgs false
set_option maxHeartbeats 4000000
set_option maxRecDepth 100000

/-- Numbers as cells. -/
def ints (k : IntKind) (l : List Nat) : List Value := l.map fun x : Nat => Value.int k (x : Int)
@[simp] theorem ints_length (k : IntKind) (l : List Nat) : (ints k l).length = l.length := by simp [ints]
theorem ints_append (k : IntKind) (a b : List Nat) : ints k (a ++ b) = ints k a ++ ints k b := by simp [ints]
theorem ints_get (k : IntKind) (l : List Nat) (j : Nat) (h : j < l.length) : (ints k l)[j]? = some (.int k ((nth l j : Nat) : Int)) := by
  rw [nth_lt l h]; simp [ints, h]
/-- The slice v (of numbers of kind k, element type e) owns its row from block B on: the numbers l. -/
def OwnR (w : World) (B : Nat) (e : TypeId) (k : IntKind) (v : Value) (l : List Nat) : Prop := w.ownsRow B e 1 v l.length (ints k l)
section
variable {w w' : World} {B : Nat} {e : TypeId} {k : IntKind} {v : Value} {l : List Nat}
theorem OwnR.nil (w : World) (B : Nat) (e : TypeId) (k : IntKind) : OwnR w B e k (.slice none 0 0) [] := World.ownsRow_nil w B e 1
theorem OwnR.alloc (h : OwnR w B e k v l) (o : Obj) : OwnR (w.alloc o) B e k v l := World.ownsRow.alloc h o
theorem OwnR.drew (h : OwnR w B e k v l) : OwnR w.drew B e k v l := h
theorem OwnR.drewN (h : OwnR w B e k v l) (n : Nat) : OwnR (w.drewN n) B e k v l := h
theorem OwnR.below {B' : Nat} (h : OwnR w B e k v l) (hb : Below B' w w') (hB : w.heap.size ≤ B') : OwnR w' B e k v l := by
  refine ⟨h.1, ?_⟩
  rcases h.2 with hn | ⟨g, cap, cur, rfl, hg, hh, r⟩
  · exact .inl hn
  · exact .inr ⟨g, cap, cur, rfl, hg, (hb.block g (Nat.lt_of_lt_of_le (Array.getElem?_eq_some_iff.1 hh).1 hB)).trans hh, r⟩
theorem OwnR.lt (h : OwnR w B e k v l) : ∀ g, v.ownBlock = some g → B ≤ g ∧ g < w.heap.size := World.ownsRow.lt h
theorem OwnR.grown (h : OwnR w B e k v l) {row : Option Nat} (hg : w.grownBy w' row) (hne : v.ownBlock = none ∨ v.ownBlock ≠ row) : OwnR w' B e k v l := World.ownsRow.kept h hg hne
/-- Its form: nil, or at the head of a block. -/
theorem OwnR.form (h : OwnR w B e k v l) : (v = .slice none 0 0 ∧ l = []) ∨ ∃ g cap cur, v = .slice (some ⟨g, 0, none⟩) l.length cap ∧ B ≤ g ∧ Blk w g e cur ∧ l.length ≤ cap ∧ cap ≤ cur.size ∧ ∀ j, j < l.length → cur[j]? = some (.int k ((nth l j : Nat) : Int)) := by
  rcases h.2 with ⟨rfl, hn⟩ | ⟨g, cap, cur, rfl, hg, hh, hnc, _, hs, ht⟩
  · exact .inl ⟨rfl, List.eq_nil_of_length_eq_zero hn⟩
  · refine .inr ⟨g, cap, cur, rfl, hg, hh, hnc, by omega, fun j hj => ?_⟩
    have h1 := ints_get k l j hj
    rw [← ht, List.getElem?_take] at h1
    rw [Nat.mul_one] at h1
    rw [if_pos hj] at h1
    simpa using h1
theorem OwnR.own {t : TypeId} (h : OwnR w B t .u32 v l) (hs : Sm l) (hl : l.length ≤ 35184372088960) : ∃ A c, v = .slice A l.length c ∧ l.length ≤ c ∧ Own w t B A c l := by
  rcases h.form with ⟨rfl, rfl⟩ | ⟨g, cap, cur, rfl, hg, hh, hnc, hcs, hc⟩
  · exact ⟨none, 0, rfl, Nat.le_refl _, Own.nil _ _ _⟩
  · exact ⟨_, _, rfl, hnc, hs, hl, .inr ⟨g, cur, rfl, hg, hh, hnc, hcs, hc⟩⟩
/-- A row that is full: made of n noughts. -/
theorem OwnR.made {t : TypeId} {n : Nat} (hB : B ≤ w.heap.size) (hn : n ≤ 70368744177664) : OwnR (w.alloc (.cells (c32 (List.replicate n 0)) t)) B t .u32 (.slice (some ⟨w.heap.size, 0, none⟩) n n) (List.replicate n 0) := by
  have e : (List.replicate n 0).length = n := by simp
  refine ⟨by simp, .inr ⟨w.heap.size, n, c32 (List.replicate n 0), by rw [e], hB, heap_alloc_new w _, by omega, by unfold maxLen; omega, by rw [c32_size]; simp, ?_⟩⟩
  simp [c32, ints]
end

/-- What is known of a type of slices of numbers. -/
structure ElemOf (P : Program) (t e : TypeId) (k : IntKind) : Prop where
  ht : P.underlying t = some (.slice e)
  hi : ∃ (i : TypeInfo) (b : Nat), P.info? e = some i ∧ i.zero = some (.int k 0) ∧ i.size = 1 ∧ i.bytes = b ∧ b ≤ 8

theorem below_grown {w w' : World} {B : Nat} {v : Value} {e : TypeId} {k : IntKind} {l : List Nat} (hg : w.grownBy w' v.ownBlock) (hown : OwnR w B e k v l) (hB : B ≤ w.heap.size) : Below B w w' :=
  (Below.refl B w).grown hg hB fun k hk => (hown.lt k hk).1

section
variable {P : Program} {ops : Array Oper} {rest : List Oper} {o : Oper} {a : Act} {Q : Exit → Act → World → Prop} {w : World} {B : Nat} {t e : TypeId} {k : IntKind} {v : Value} {l : List Nat}
/-- append of one number. -/
theorem wpList_app (E : ElemOf P t e k) (hgd : o.guard = none) (s x : Operand) (ho : o.op = .call { callee := .builtin .append, args := #[s, x], argTypes := #[t, t] })
    (hown : OwnR w B e k v l) (hs : a.eval s = v) (ad : Addr) (hx : a.eval x = .slice (some ad) 1 1) (y : Nat) (hcell : w.cell? ad = some (.int k (y : Int)))
    (hlen : l.length ≤ 1099511627776) (hB : B ≤ w.heap.size)
    (h : ∀ v' w', OwnR w' B e k v' (l ++ [y]) → w.grownBy w' v.ownBlock → Below B w w' → wpList P ops Q rest (a.put o.dst v') w') : wpList P ops Q (o :: rest) a w := by
  obtain ⟨i, b, hi, hz, hsz, hby, hb8⟩ := E.hi
  refine wpList_append_own w hgd s x t ho B e i (.int k 0) 1 b E.ht hi hz hsz hby rfl (by decide) v l.length (ints k l) hs hown ad 1 1 [.int k (y : Int)] hx rfl ?_ ?_ ?_ ?_ hB ?_
  · intro j u hj
    match j with
    | 0 => simp at hj; subst hj; simpa [Addr.add] using hcell
    | j + 1 => simp at hj
  · intro u hu; simp at hu; subst hu; rfl
  · unfold maxLen; omega
  · have : (l.length + 1) * b ≤ (l.length + 1) * 8 := Nat.mul_le_mul_left _ hb8
    omega
  · intro v' w' h1 h2 _
    refine h v' w' ?_ h2 (below_grown h2 hown hB)
    unfold OwnR
    rw [List.length_append, ints_append]
    exact h1
/-- append of a slice that reads as numbers, nil let in. -/
theorem wpList_apps (E : ElemOf P t e k) (hgd : o.guard = none) (s x : Operand) (ho : o.op = .call { callee := .builtin .append, args := #[s, x], argTypes := #[t, t] })
    (hown : OwnR w B e k v l) (hs : a.eval s = v) (A : Option Addr) (m : List Nat) (mm c : Nat) (hm : mm = m.length) (hx : a.eval x = .slice A mm c)
    (hcell : 0 < m.length → ∃ b off, A = some ⟨b, off, none⟩ ∧ ∀ j, j < m.length → w.cell? ⟨b, off + j, none⟩ = some (.int k ((nth m j : Nat) : Int)))
    (hlen : (l.length + m.length) * 8 ≤ 140737488355328 ∨ k = .u32 ∧ (P.info? e).map (·.bytes) = some 4 ∧ (l.length + m.length) * 4 ≤ 140737488355328) (hB : B ≤ w.heap.size)
    (h : ∀ v' w', OwnR w' B e k v' (l ++ m) → w.grownBy w' v.ownBlock → Below B w w' → wpList P ops Q rest (a.put o.dst v') w') : wpList P ops Q (o :: rest) a w := by
  subst hm
  obtain ⟨i, b, hi, hz, hsz, hby, hb8⟩ := E.hi
  have hbytes : (l.length + m.length) * b ≤ 140737488355328 := by
    rcases hlen with h1 | ⟨_, h1, h2⟩
    · have : (l.length + m.length) * b ≤ (l.length + m.length) * 8 := Nat.mul_le_mul_left _ hb8
      omega
    · rw [hi] at h1; simp at h1; rw [← hby, h1]; exact h2
  have hlen' : l.length + m.length ≤ maxLen := by
    unfold maxLen
    rcases hlen with h1 | ⟨_, h1, h2⟩ <;> omega
  by_cases h0 : 0 < m.length
  · obtain ⟨bb, off, rfl, hc⟩ := hcell h0
    refine wpList_append_own w hgd s x t ho B e i (.int k 0) 1 b E.ht hi hz hsz hby rfl (by decide) v l.length (ints k l) hs hown ⟨bb, off, none⟩ m.length c (ints k m) hx (by simp) ?_ ?_ hlen' hbytes hB ?_
    · intro j u hj
      have hjl : j < m.length := by
        rcases Nat.lt_or_ge j m.length with h1 | h1
        · exact h1
        · rw [List.getElem?_eq_none (by simpa using h1)] at hj; cases hj
      rw [ints_get k m j hjl] at hj
      injection hj with hj
      subst hj
      have : (⟨bb, off, none⟩ : Addr).add j = ⟨bb, off + j, none⟩ := by unfold Addr.add; split <;> simp_all
      rw [this]; exact hc j hjl
    · intro u hu
      simp only [ints, List.mem_map] at hu
      obtain ⟨z, _, rfl⟩ := hu
      rfl
    · intro v' w' h1 h2 _
      refine h v' w' ?_ h2 (below_grown h2 hown hB)
      unfold OwnR
      rw [List.length_append, ints_append]
      exact h1
  · have hm0 : m = [] := List.eq_nil_of_length_eq_zero (by omega)
    subst hm0
    have hrun : (Builtin.append_ #[t, t] o.type #[v, .slice A 0 c]).run P w = .ok v w := by
      rcases hown.2 with ⟨rfl, _⟩ | ⟨g, cap, cur, rfl, _, _, hnc, _⟩
      · cases A <;> simp [Builtin.append_, run_underlying E.ht, sizeOf, typeInfo, hi, Builtin.lenOf, Builtin.firstCells, loadCells, loadCellsFrom]
      · cases A <;> simp [Builtin.append_, run_underlying E.ht, sizeOf, typeInfo, hi, Builtin.lenOf, Builtin.firstCells, loadCells, loadCellsFrom, hnc, storeCells]
    refine wpList_plain hgd fun K hK => ?_
    unfold Oper.wp execOp
    simp only [ho, resolve, invoke, builtin, Sem.run_bind, Sem.run_pure, Result.andThen_ok, List.map_toArray, List.map_cons, List.map_nil, hs, hx, List.length_nil, hrun]
    refine hK _ _ (h v w ?_ (World.grownBy.refl w _) (Below.refl _ _))
    simpa using hown
end
end Go.Proofs.YtenekbfnlbipiaaDoor
