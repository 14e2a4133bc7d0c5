/- Appending to a row of the call's own, one number at a time or a whole slice. No program here. -/
import Derived.Test.YtenekbfnlbipiaaDoorPl2
import Derived.Deep.AppendLies
import Derived.Handy
import Derived.Test.YtenekbfnlbipiaaDoorPlain
namespace Go.Proofs.YtenekbfnlbipiaaDoor
open Go.RowKit
set_option linter.unusedVariables false
set_option linter.unusedSimpArgs false
set_option maxHeartbeats 4000000
set_option maxRecDepth 100000

/-- Numbers as cells. -/
def ints (k : IntKind) (l : List Nat) : List Value := l.map fun x : Nat => Value.int k (x : Int)
@[simp] theorem ints_length (k : IntKind) (l : List Nat) : (ints k l).length = l.length := by simp [ints]
theorem ints_append (k : IntKind) (a b : List Nat) : ints k (a ++ b) = ints k a ++ ints k b := by simp [ints]
theorem ints_get (k : IntKind) (l : List Nat) (j : Nat) (h : j < l.length) : (ints k l)[j]? = some (.int k ((nth l j : Nat) : Int)) := by
  rw [nth_lt l h]; simp [ints, h]
/-- The slice v (of numbers of kind k, element type e) owns its row from block B on: the numbers l. -/
def OwnR (w : World) (B : Nat) (e : TypeId) (k : IntKind) (v : Value) (l : List Nat) : Prop := w.ownsRow B e 1 v l.length (ints k l)
section
variable {w w' : World} {B : Nat} {e : TypeId} {k : IntKind} {v : Value} {l : List Nat}
theorem OwnR.nil (w : World) (B : Nat) (e : TypeId) (k : IntKind) : OwnR w B e k (.slice none 0 0) [] := World.ownsRow_nil w B e 1
theorem OwnR.alloc (h : OwnR w B e k v l) (o : Obj) : OwnR (w.alloc o) B e k v l := World.ownsRow.alloc h o
theorem OwnR.drew (h : OwnR w B e k v l) : OwnR w.drew B e k v l := h
theorem OwnR.drewN (h : OwnR w B e k v l) (n : Nat) : OwnR (w.drewN n) B e k v l := h
theorem OwnR.below {B' : Nat} (h : OwnR w B e k v l) (hb : Below B' w w') (hB : w.heap.size ≤ B') : OwnR w' B e k v l := by
  refine ⟨h.1, ?_⟩
  rcases h.2 with hn | ⟨g, cap, cur, rfl, hg, hh, r⟩
  · exact .inl hn
  · exact .inr ⟨g, cap, cur, rfl, hg, (hb.block g (Nat.lt_of_lt_of_le (Array.getElem?_eq_some_iff.1 hh).1 hB)).trans hh, r⟩
theorem OwnR.lt (h : OwnR w B e k v l) : ∀ g, v.ownBlock = some g → B ≤ g ∧ g < w.heap.size := World.ownsRow.lt h
theorem OwnR.grown (h : OwnR w B e k v l) {row : Option Nat} (hg : w.grownBy w' row) (hne : v.ownBlock = none ∨ v.ownBlock ≠ row) : OwnR w' B e k v l := World.ownsRow.kept h hg hne
/-- Its form: nil, or at the head of a block. -/
theorem OwnR.form (h : OwnR w B e k v l) : (v = .slice none 0 0 ∧ l = []) ∨ ∃ g cap cur, v = .slice (some ⟨g, 0, none⟩) l.length cap ∧ B ≤ g ∧ Blk w g e cur ∧ l.length ≤ cap ∧ cap ≤ cur.size ∧ ∀ j, j < l.length → cur[j]? = some (.int k ((nth l j : Nat) : Int)) := by
  rcases h.2 with ⟨rfl, hn⟩ | ⟨g, cap, cur, rfl, hg, hh, hnc, _, hs, ht⟩
  · exact .inl ⟨rfl, List.eq_nil_of_length_eq_zero hn⟩
  · refine .inr ⟨g, cap, cur, rfl, hg, hh, hnc, by omega, fun j hj => ?_⟩
    have h1 := ints_get k l j hj
    rw [← ht, List.getElem?_take] at h1
    rw [Nat.mul_one] at h1
    rw [if_pos hj] at h1
    simpa using h1
theorem OwnR.own {t : TypeId} (h : OwnR w B t .u32 v l) (hs : Sm l) (hl : l.length ≤ 35184372088960) : ∃ A c, v = .slice A l.length c ∧ l.length ≤ c ∧ Own w t B A c l := by
  rcases h.form with ⟨rfl, rfl⟩ | ⟨g, cap, cur, rfl, hg, hh, hnc, hcs, hc⟩
  · exact ⟨none, 0, rfl, Nat.le_refl _, Own.nil _ _ _⟩
  · exact ⟨_, _, rfl, hnc, hs, hl, .inr ⟨g, cur, rfl, hg, hh, hnc, hcs, hc⟩⟩
/-- A row that is full: made of n noughts. -/
theorem OwnR.made {t : TypeId} {n : Nat} (hB : B ≤ w.heap.size) (hn : n ≤ 70368744177664) : OwnR (w.alloc (.cells (c32 (List.replicate n 0)) t)) B t .u32 (.slice (some ⟨w.heap.size, 0, none⟩) n n) (List.replicate n 0) := by
  have e : (List.replicate n 0).length = n := by simp
  refine ⟨by simp, .inr ⟨w.heap.size, n, c32 (List.replicate n 0), by rw [e], hB, heap_alloc_new w _, by omega, by unfold maxLen; omega, by rw [c32_size]; simp, ?_⟩⟩
  simp [c32, ints]
end

/-- What is known of a type of slices of numbers. -/
structure ElemOf (P : Program) (t e : TypeId) (k : IntKind) : Prop where
  ht : P.underlying t = some (.slice e)
  hi : ∃ (i : TypeInfo) (b : Nat), P.info? e = some i ∧ i.zero = some (.int k 0) ∧ i.size = 1 ∧ i.bytes = b ∧ b ≤ 8

theorem below_grown {w w' : World} {B : Nat} {v : Value} {e : TypeId} {k : IntKind} {l : List Nat} (hg : w.grownBy w' v.ownBlock) (hown : OwnR w B e k v l) (hB : B ≤ w.heap.size) : Below B w w' :=
  (Below.refl B w).grown hg hB fun k hk => (hown.lt k hk).1

section
variable {P : Program} {ops : Array Oper} {rest : List Oper} {o : Oper} {a : Act} {Q : Exit → Act → World → Prop} {w : World} {B : Nat} {t e : TypeId} {k : IntKind} {v : Value} {l : List Nat}
/-- append of one number. -/
theorem wpList_app (E : ElemOf P t e k) (hgd : o.guard = none) (s x : Operand) (ho : o.op = .call { callee := .builtin .append, args := #[s, x], argTypes := #[t, t] })
    (hown : OwnR w B e k v l) (hs : a.eval s = v) (ad : Addr) (hx : a.eval x = .slice (some ad) 1 1) (y : Nat) (hcell : w.cell? ad = some (.int k (y : Int)))
    (hlen : l.length ≤ 1099511627776) (hB : B ≤ w.heap.size)
    (h : ∀ v' w', OwnR w' B e k v' (l ++ [y]) → w.grownBy w' v.ownBlock → Below B w w' → wpList P ops Q rest (a.put o.dst v') w') : wpList P ops Q (o :: rest) a w := by
  obtain ⟨i, b, hi, hz, hsz, hby, hb8⟩ := E.hi
  refine wpList_append_own w hgd s x t ho B e i (.int k 0) 1 b E.ht hi hz hsz hby rfl (by decide) v l.length (ints k l) hs hown ad 1 1 [.int k (y : Int)] hx rfl ?_ ?_ ?_ ?_ hB ?_
  · intro j u hj
    match j with
    | 0 => simp at hj; subst hj; simpa [Addr.add] using hcell
    | j + 1 => simp at hj
  · intro u hu; simp at hu; subst hu; rfl
  · unfold maxLen; omega
  · have : (l.length + 1) * b ≤ (l.length + 1) * 8 := Nat.mul_le_mul_left _ hb8
    omega
  · intro v' w' h1 h2 _
    refine h v' w' ?_ h2 (below_grown h2 hown hB)
    unfold OwnR
    rw [List.length_append, ints_append]
    exact h1
/-- append of a slice that reads as numbers, nil let in. -/
theorem wpList_apps (E : ElemOf P t e k) (hgd : o.guard = none) (s x : Operand) (ho : o.op = .call { callee := .builtin .append, args := #[s, x], argTypes := #[t, t] })
    (hown : OwnR w B e k v l) (hs : a.eval s = v) (A : Option Addr) (m : List Nat) (mm c : Nat) (hm : mm = m.length) (hx : a.eval x = .slice A mm c)
    (hcell : 0 < m.length → ∃ b off, A = some ⟨b, off, none⟩ ∧ ∀ j, j < m.length → w.cell? ⟨b, off + j, none⟩ = some (.int k ((nth m j : Nat) : Int)))
    (hlen : (l.length + m.length) * 8 ≤ 140737488355328 ∨ k = .u32 ∧ (P.info? e).map (·.bytes) = some 4 ∧ (l.length + m.length) * 4 ≤ 140737488355328) (hB : B ≤ w.heap.size)
    (h : ∀ v' w', OwnR w' B e k v' (l ++ m) → w.grownBy w' v.ownBlock → Below B w w' → wpList P ops Q rest (a.put o.dst v') w') : wpList P ops Q (o :: rest) a w := by
  subst hm
  obtain ⟨i, b, hi, hz, hsz, hby, hb8⟩ := E.hi
  have hbytes : (l.length + m.length) * b ≤ 140737488355328 := by
    rcases hlen with h1 | ⟨_, h1, h2⟩
    · have : (l.length + m.length) * b ≤ (l.length + m.length) * 8 := Nat.mul_le_mul_left _ hb8
      omega
    · rw [hi] at h1; simp at h1; rw [← hby, h1]; exact h2
  have hlen' : l.length + m.length ≤ maxLen := by
    unfold maxLen
    rcases hlen with h1 | ⟨_, h1, h2⟩ <;> omega
  by_cases h0 : 0 < m.length
  · obtain ⟨bb, off, rfl, hc⟩ := hcell h0
    refine wpList_append_own w hgd s x t ho B e i (.int k 0) 1 b E.ht hi hz hsz hby rfl (by decide) v l.length (ints k l) hs hown ⟨bb, off, none⟩ m.length c (ints k m) hx (by simp) ?_ ?_ hlen' hbytes hB ?_
    · intro j u hj
      have hjl : j < m.length := by
        rcases Nat.lt_or_ge j m.length with h1 | h1
        · exact h1
        · rw [List.getElem?_eq_none (by simpa using h1)] at hj; cases hj
      rw [ints_get k m j hjl] at hj
      injection hj with hj
      subst hj
      have : (⟨bb, off, none⟩ : Addr).add j = ⟨bb, off + j, none⟩ := by unfold Addr.add; split <;> simp_all
      rw [this]; exact hc j hjl
    · intro u hu
      simp only [ints, List.mem_map] at hu
      obtain ⟨z, _, rfl⟩ := hu
      rfl
    · intro v' w' h1 h2 _
      refine h v' w' ?_ h2 (below_grown h2 hown hB)
      unfold OwnR
      rw [List.length_append, ints_append]
      exact h1
  · have hm0 : m = [] := List.eq_nil_of_length_eq_zero (by omega)
    subst hm0
    have hrun : (Builtin.append_ #[t, t] o.type #[v, .slice A 0 c]).run P w = .ok v w := by
      rcases hown.2 with ⟨rfl, _⟩ | ⟨g, cap, cur, rfl, _, _, hnc, _⟩
      · cases A <;> simp [Builtin.append_, run_underlying E.ht, sizeOf, typeInfo, hi, Builtin.lenOf, Builtin.firstCells, loadCells, loadCellsFrom]
      · cases A <;> simp [Builtin.append_, run_underlying E.ht, sizeOf, typeInfo, hi, Builtin.lenOf, Builtin.firstCells, loadCells, loadCellsFrom, hnc, storeCells]
    refine wpList_plain hgd fun K hK => ?_
    unfold Oper.wp execOp
    simp only [ho, resolve, invoke, builtin, Sem.run_bind, Sem.run_pure, Result.andThen_ok, List.map_toArray, List.map_cons, List.map_nil, hs, hx, List.length_nil, hrun]
    refine hK _ _ (h v w ?_ (World.grownBy.refl w _) (Below.refl _ _))
    simpa using hown
end
end Go.Proofs.YtenekbfnlbipiaaDoor
namespace Go.Proofs.YtenekbfnlbipiaaDoor
open Go.RowKit
set_option linter.unusedVariables false
set_option linter.unusedSimpArgs false
set_option maxHeartbeats 4000000
set_option maxRecDepth 100000

def dval : List Nat → Nat
  | [] => 0
  | x :: l => x + 10 * dval l
def digsF : Nat → Nat → List Nat
  | 0, _ => []
  | k + 1, n => if n = 0 then [] else n % 10 :: digsF k (n / 10)
/-- The digits of a number, the lowest first; nought has none. -/
def digs (n : Nat) : List Nat := digsF n n
def Dg (l : List Nat) : Prop := ∀ x ∈ l, x < 10
theorem Dg.nil : Dg [] := by intro x h; cases h
theorem Dg.cons {x : Nat} {l : List Nat} (hx : x < 10) (h : Dg l) : Dg (x :: l) := by
  intro y hy; rcases List.mem_cons.1 hy with rfl | hy
  · exact hx
  · exact h y hy
theorem Dg.tail {x : Nat} {l : List Nat} (h : Dg (x :: l)) : Dg l := fun y hy => h y (List.mem_cons_of_mem _ hy)
theorem Dg.head {x : Nat} {l : List Nat} (h : Dg (x :: l)) : x < 10 := h x List.mem_cons_self
theorem Dg.append {a b : List Nat} (ha : Dg a) (hb : Dg b) : Dg (a ++ b) := by
  intro y hy; rcases List.mem_append.1 hy with h | h
  · exact ha y h
  · exact hb y h
theorem dval_append (a b : List Nat) : dval (a ++ b) = dval a + 10 ^ a.length * dval b := by
  induction a with
  | nil => simp [dval]
  | cons x a ih => simp only [List.cons_append, dval, ih, List.length_cons, Nat.pow_succ]; grind
theorem dval_lt {l : List Nat} (h : Dg l) : dval l < 10 ^ l.length := by
  induction l with
  | nil => simp [dval]
  | cons x l ih =>
    have := ih h.tail
    have hx := h.head
    simp only [dval, List.length_cons, Nat.pow_succ]
    omega
theorem digsF_val : ∀ k n : Nat, n ≤ k → dval (digsF k n) = n
  | 0, n, h => by obtain rfl : n = 0 := by omega
                  rfl
  | k + 1, n, h => by
    unfold digsF
    by_cases h0 : n = 0
    · rw [if_pos h0, h0]; rfl
    · rw [if_neg h0]
      simp only [dval]
      rw [digsF_val k (n / 10) (by omega)]
      omega
theorem digsF_dg : ∀ k n : Nat, Dg (digsF k n)
  | 0, n => Dg.nil
  | k + 1, n => by
    unfold digsF
    by_cases h0 : n = 0
    · rw [if_pos h0]; exact Dg.nil
    · rw [if_neg h0]; exact Dg.cons (by omega) (digsF_dg k _)
theorem digsF_low : ∀ k n : Nat, n ≤ k → n ≠ 0 → 10 ^ ((digsF k n).length - 1) ≤ n
  | 0, n, h, h0 => by omega
  | k + 1, n, h, h0 => by
    unfold digsF
    rw [if_neg h0]
    by_cases h1 : n / 10 = 0
    · have : digsF k (n / 10) = [] := by
        rw [h1]; cases k <;> simp [digsF]
      rw [this]; simp; omega
    · have ih := digsF_low k (n / 10) (by omega) h1
      have hl : digsF k (n / 10) ≠ [] := by
        intro e
        have := digsF_val k (n / 10) (by omega)
        rw [e] at this
        exact h1 this.symm
      have hp : 0 < (digsF k (n / 10)).length := List.length_pos_iff.2 hl
      rw [List.length_cons, Nat.add_sub_cancel]
      have e : 10 ^ (digsF k (n / 10)).length = 10 ^ ((digsF k (n / 10)).length - 1) * 10 := by
        rw [← Nat.pow_succ]; congr 1; omega
      rw [e]
      omega
@[simp] theorem dval_digs (n : Nat) : dval (digs n) = n := digsF_val n n (Nat.le_refl n)
theorem dg_digs (n : Nat) : Dg (digs n) := digsF_dg n n
theorem digs_low {n : Nat} (h : n ≠ 0) : 10 ^ ((digs n).length - 1) ≤ n := digsF_low n n (Nat.le_refl n) h
theorem digs_lt (n : Nat) : n < 10 ^ (digs n).length := by
  have := dval_lt (dg_digs n); rw [dval_digs] at this; exact this
theorem dval_inj : ∀ {a b : List Nat}, a.length = b.length → Dg a → Dg b → dval a = dval b → a = b
  | [], [], _, _, _, _ => rfl
  | x :: s, y :: t, hl, ga, gb, h => by
    have hx := ga.head
    have hy := gb.head
    simp only [dval] at h
    have h1 : x = y := by omega
    have h2 : dval s = dval t := by omega
    rw [h1, dval_inj (by simpa using hl) ga.tail gb.tail h2]
theorem pow10_lt {a b n : Nat} (ha : 10 ^ (a - 1) ≤ n) (hb : n < 10 ^ b) : a ≤ b := by
  rcases Nat.lt_or_ge b a with h | h
  · have : 10 ^ b ≤ 10 ^ (a - 1) := Nat.pow_le_pow_right (by decide) (by omega)
    omega
  · exact h
/-- The one list of digits. -/
theorem digs_of {l : List Nat} (h : Dg l) (hl : l = [] ∨ 10 ^ (l.length - 1) ≤ dval l) : digs (dval l) = l := by
  rcases hl with rfl | hl
  · rfl
  · have h1 := dval_lt h
    have h0 : dval l ≠ 0 := by have : 0 < 10 ^ (l.length - 1) := Nat.pow_pos (by decide); omega
    have h2 := digs_low h0
    have h3 := digs_lt (dval l)
    exact dval_inj (Nat.le_antisymm (pow10_lt h2 h1) (pow10_lt hl h3)) (dg_digs _) h (dval_digs _)
theorem digs_nil {n : Nat} : digs n = [] ↔ n = 0 := by
  constructor
  · intro h; have := dval_digs n; rw [h] at this; exact this.symm
  · intro h; rw [h]; rfl
/-- How many digits: the one number so that the power of ten one below is not above it. -/
theorem digs_length {n k : Nat} (h1 : 10 ^ (k - 1) ≤ n) (h2 : n < 10 ^ k) : (digs n).length = k := by
  have h0 : n ≠ 0 := by have : 0 < 10 ^ (k - 1) := Nat.pow_pos (by decide); omega
  exact Nat.le_antisymm (pow10_lt (digs_low h0) h2) (pow10_lt h1 (digs_lt n))
/-- The bytes of a number's text. -/
def textL (n : Nat) : List Nat := if n = 0 then [48] else ((digs n).map (48 + ·)).reverse
theorem textL_zero : textL 0 = [48] := rfl
theorem textL_pos {n : Nat} (h : n ≠ 0) : textL n = ((digs n).map (48 + ·)).reverse := by unfold textL; rw [if_neg h]
theorem textL_length {n k : Nat} (h1 : 10 ^ (k - 1) ≤ n) (h2 : n < 10 ^ k) : (textL n).length = k := by
  have h0 : n ≠ 0 := by have : 0 < 10 ^ (k - 1) := Nat.pow_pos (by decide); omega
  rw [textL_pos h0]; simp [digs_length h1 h2]
theorem digs_bound {n b : Nat} (h : n < 2 ^ b) : (digs n).length ≤ b + 1 := by
  by_cases h0 : n = 0
  · rw [h0]; simp [digs, digsF]
  · have h1 := digs_low h0
    have h2 : 2 ^ ((digs n).length - 1) ≤ 10 ^ ((digs n).length - 1) := Nat.pow_le_pow_left (by decide) _
    rcases Nat.lt_or_ge b ((digs n).length - 1) with h3 | h3
    · have : 2 ^ b ≤ 2 ^ ((digs n).length - 1) := Nat.pow_le_pow_right (by decide) (by omega)
      omega
    · omega
theorem low_bound {n b k : Nat} (h : n < 2 ^ b) (hk : 10 ^ (k - 1) ≤ n) : k ≤ b + 1 := by
  have h2 : 2 ^ (k - 1) ≤ 10 ^ (k - 1) := Nat.pow_le_pow_left (by decide) _
  rcases Nat.lt_or_ge b (k - 1) with h3 | h3
  · have : 2 ^ b ≤ 2 ^ (k - 1) := Nat.pow_le_pow_right (by decide) (by omega)
    omega
  · omega
/-- One digit more of a number: what is left, R, gives its last one. -/
theorem digit_step {N R : Nat} {ds : List Nat} (h : N = dval ds + 10 ^ ds.length * R) : N = dval (ds ++ [R % 10]) + 10 ^ (ds ++ [R % 10]).length * (R / 10) := by
  rw [dval_append, List.length_append]
  simp only [List.length_singleton, dval, Nat.pow_succ]
  have := Nat.mod_add_div R 10
  generalize R % 10 = a at *
  generalize R / 10 = b at *
  grind
theorem digit_low {N R : Nat} {ds : List Nat} (h : N = dval ds + 10 ^ ds.length * R) (hR : 0 < R) (d : Nat) : 10 ^ ((ds ++ [d]).length - 1) ≤ N := by
  rw [List.length_append, List.length_singleton, Nat.add_sub_cancel, h]
  have : 10 ^ ds.length * 1 ≤ 10 ^ ds.length * R := Nat.mul_le_mul_left _ hR
  omega
end Go.Proofs.YtenekbfnlbipiaaDoor
namespace Go.Proofs.YtenekbfnlbipiaaDoor
open Go.RowKit
set_option linter.unusedVariables false
set_option linter.unusedSimpArgs false
set_option maxHeartbeats 4000000
set_option maxRecDepth 100000

/-- A row of the call's own: block g (element type t) holds just the numbers l, of kind k. -/
def RowK (w : World) (t : TypeId) (k : IntKind) (g : Nat) (l : List Nat) : Prop := Blk w g t (ints k l).toArray
section
variable {w w' : World} {g : Nat} {t : TypeId} {k : IntKind} {l : List Nat}
theorem RowK.lt (h : RowK w t k g l) : g < w.heap.size := Blk.lt h
theorem RowK.cell (h : RowK w t k g l) (i : Nat) (hi : i < l.length) : w.cell? ⟨g, i, none⟩ = some (.int k ((nth l i : Nat) : Int)) := by
  rw [Blk.cell h, List.getElem?_toArray]; exact ints_get k l i hi
theorem RowK.frozen (h : RowK w t k g l) (i : Nat) : w.frozen? ⟨g, i, none⟩ = false := Blk.frozen h i
theorem RowK.setE (h : RowK w t k g l) (i x : Nat) {E : Int} (hE : E = (x : Int)) : RowK (w.setCell ⟨g, i, none⟩ (.int k E)) t k g (l.set i x) := by
  rw [hE]
  have := Blk.set_ h i (.int k (x : Int))
  unfold RowK
  have e : (ints k (l.set i x)).toArray = (ints k l).toArray.setIfInBounds i (.int k (x : Int)) := by simp [ints, List.map_set]
  rw [e]; exact this
theorem RowK.alloc (h : RowK w t k g l) (o : Obj) : RowK (w.alloc o) t k g l := Blk.alloc h o
theorem RowK.below {B : Nat} (h : RowK w t k g l) (hb : Below B w w') (hg : g < B) : RowK w' t k g l := Blk.below h hb hg
theorem RowK.far (h : RowK w t k g l) {p : Addr} (hp : g ≠ p.block) (u : Value) : RowK (w.setCell p u) t k g l := Blk.far h hp u
theorem RowK.drewN (h : RowK w t k g l) (n : Nat) : RowK (w.drewN n) t k g l := h
theorem rowK_new {w : World} {cs : Array Value} (hc : cs = (ints k l).toArray) (hg : g = w.heap.size) : RowK (w.alloc (.cells cs t)) t k g l := by
  subst hc hg; exact Blk.new w t _
end
/-- make of numbers of kind k. -/
theorem run_makeK {P : Program} (t e : TypeId) (k : IntKind) (i : TypeInfo) (ht : P.underlying t = some (.slice e)) (hi : P.info? e = some i) (hz : i.zero = some (.int k 0)) (hs : i.size = 1) (hb : i.bytes ≤ 8)
    (n : Nat) (N : Int) (hN : N = (n : Int)) (hn : n ≤ 35184372088832) (w : World) :
    (Instr.makeSlice t (.int .i64 N) (.int .i64 N)).run P w = .ok (.slice (some ⟨w.heap.size, 0, none⟩) n n) (w.alloc (.cells (ints k (List.replicate n 0)).toArray e)) := by
  have hbn : i.bytes * n ≤ 8 * n := Nat.mul_le_mul_right _ hb
  have hbN : (i.bytes : Int) * N ≤ 281474976710656 := by
    rw [hN, ← Int.natCast_mul]; omega
  have hr := run_make (P := P) w t e i _ ht hi hz .i64 .i64 N N (by omega) (by omega) hbN (by omega)
  rw [hr, hs, hN]
  have hc : madeCells (Value.int k 0).cells (n * 1) = (ints k (List.replicate n 0)).toArray := by
    apply Array.ext
    · simp [madeCells]
    · intro j h1 h2
      simp [madeCells, ints, Value.cells, Nat.mod_one]
  simp only [Int.toNat_natCast, hc]

/-- A slice of numbers of kind k reads as the list l. -/
def RdK (k : IntKind) (w : World) (A : Option Addr) (l : List Nat) : Prop :=
  0 < l.length → ∃ b off, A = some ⟨b, off, none⟩ ∧ ∀ j, j < l.length → w.cell? ⟨b, off + j, none⟩ = some (.int k ((nth l j : Nat) : Int))
theorem RdK.keep {k : IntKind} {w w' : World} {A : Option Addr} {l : List Nat} (h : RdK k w A l) (hk : ∀ p : Addr, p.block < w.heap.size → w'.cell? p = w.cell? p) : RdK k w' A l := fun hn => by
  obtain ⟨b, off, e, hc⟩ := h hn
  exact ⟨b, off, e, fun j hj => (hk _ (cell_lt (hc j hj))).trans (hc j hj)⟩
theorem RdK.below {k : IntKind} {w w' : World} {A : Option Addr} {l : List Nat} (h : RdK k w A l) (hb : Below w.heap.size w w') : RdK k w' A l := h.keep fun _ hp => hb.cell hp
theorem Rd.k {w : World} {A : Option Addr} {l : List Nat} (h : Rd w A l) : RdK .u32 w A l := h.2.2

/-- The cells of an owned row, whichever its form. -/
theorem OwnR.rdK {w : World} {B : Nat} {e : TypeId} {k : IntKind} {A : Option Addr} {n c : Nat} {l : List Nat} (h : OwnR w B e k (.slice A n c) l) : RdK k w A l := fun hn => by
  rcases h.form with ⟨_, rfl⟩ | ⟨g, cap, cur, e, hg, hh, hnc, hcs, hc⟩
  · simp at hn
  · injection e with e1 e2 e3
    exact ⟨g, 0, e1, fun j hj => by rw [hh.cell, Nat.zero_add]; exact hc j hj⟩

/-- Bytes as a string. -/
def bstr (l : List Nat) : ByteArray := ⟨(l.map UInt8.ofNat).toArray⟩
theorem bstr_size (l : List Nat) : (bstr l).size = l.length := by simp [bstr, ByteArray.size]
theorem strOfNums_bstr (l : List Nat) : strOfNums (l.map fun x : Nat => (x : Int)) = bstr l := by
  unfold strOfNums bstr
  rw [List.map_map]
  congr 2
theorem bstr_inj {a b : List Nat} (ha : ∀ x ∈ a, x < 256) (hb : ∀ x ∈ b, x < 256) (h : bstr a = bstr b) : a = b := by
  have h1 : a.map UInt8.ofNat = b.map UInt8.ofNat := by
    have := congrArg (fun s : ByteArray => s.data.toList) h
    simpa [bstr] using this
  have back : ∀ l : List Nat, (∀ x ∈ l, x < 256) → (l.map UInt8.ofNat).map UInt8.toNat = l := by
    intro l hl
    induction l with
    | nil => rfl
    | cons x l ih =>
      simp only [List.map_cons]
      rw [ih fun y hy => hl y (List.mem_cons_of_mem _ hy)]
      have := hl x List.mem_cons_self
      rw [UInt8.toNat_ofNat_of_lt' (by omega)]
  rw [← back a ha, h1, back b hb]
/-- string(bytes), the bytes in memory. -/
theorem run_bytes {P : Program} (w : World) (src e dst : TypeId) (hs : P.underlying src = some (.slice e)) (he : P.underlying e = some (.int .u8)) (hd : P.underlying dst = some .string)
    (b off len cap : Nat) (l : List Nat) (hl : l.length = len) (hc : ∀ j, j < l.length → w.cell? ⟨b, off + j, none⟩ = some (.int .u8 ((nth l j : Nat) : Int))) :
    (convert src dst (.slice (some ⟨b, off, none⟩) len cap)).run P w = .ok (.string (bstr l)) w := by
  rw [← strOfNums_bstr]
  refine run_convert_bytes_arg w src e hs he b off len cap _ (by simpa using hl) (fun i hi => ?_) dst hd
  rw [hc i (by omega), nth_lt l (by omega), List.getD_eq_getElem?_getD]
  simp [show i < l.length by omega]

/-- A slice of limbs whose block is old or holds limbs: an append elsewhere leaves it alone. -/
def RdS (w : World) (B : Nat) (t : TypeId) (A : Option Addr) (l : List Nat) : Prop :=
  Rd w A l ∧ ∀ a, A = some a → 0 < l.length → a.block < B ∨ ∃ cur, Blk w a.block t cur
theorem RdS.rd {w : World} {B : Nat} {t : TypeId} {A : Option Addr} {l : List Nat} (h : RdS w B t A l) : Rd w A l := h.1
theorem Own.rdS {w : World} {B B' c : Nat} {t : TypeId} {A : Option Addr} {l : List Nat} (h : Own w t B' A c l) : RdS w B t A l := by
  refine ⟨h.rd, fun a ha hn => ?_⟩
  rcases h.2.2 with ⟨rfl, _⟩ | ⟨g, cur, rfl, hg, hk, r⟩
  · cases ha
  · injection ha with ha; subst ha; exact .inr ⟨cur, hk⟩
theorem Rd.rdS {w : World} {B : Nat} {t : TypeId} {A : Option Addr} {l : List Nat} (h : Rd w A l) (hB : w.heap.size ≤ B) : RdS w B t A l := by
  refine ⟨h, fun a ha hn => .inl ?_⟩
  obtain ⟨b, off, e, hc⟩ := h.open_ hn
  have := cell_lt (hc 0 hn)
  rw [ha] at e; injection e with e; subst e
  simp at this ⊢; omega
theorem RdS.below {w w' : World} {B : Nat} {t : TypeId} {A : Option Addr} {l : List Nat} (h : RdS w B t A l) (hb : Below w.heap.size w w') : RdS w' B t A l := by
  refine ⟨h.1.below hb, fun a ha hn => ?_⟩
  rcases h.2 a ha hn with h1 | ⟨cur, hk⟩
  · exact .inl h1
  · exact .inr ⟨cur, hk.below hb hk.lt⟩
theorem RdS.grown {w w' : World} {B : Nat} {t e : TypeId} {k : IntKind} {v : Value} {m : List Nat} {A : Option Addr} {l : List Nat} (h : RdS w B t A l) (hg : w.grownBy w' v.ownBlock) (hown : OwnR w B e k v m) (hne : e ≠ t) : RdS w' B t A l := by
  have key : ∀ a, A = some a → 0 < l.length → w'.heap[a.block]? = w.heap[a.block]? := by
    intro a ha hn
    obtain ⟨b, off, e', hc⟩ := h.1.open_ hn
    have hlt := cell_lt (hc 0 hn)
    rw [ha] at e'; injection e' with e'; subst e'
    refine hg.block _ hlt fun he => ?_
    have hlt2 := (hown.lt b he.symm).1
    rcases h.2 _ ha hn with h1 | ⟨cur, hk⟩
    · simp at h1; omega
    · rcases hown.form with ⟨rfl, _⟩ | ⟨g, cap, cur', rfl, _, hh, _⟩
      · simp [Value.ownBlock] at he
      · simp [Value.ownBlock] at he
        subst he
        unfold Blk at hk hh
        simp only at hk
        rw [hk] at hh; injection hh with hh; injection hh with _ hh
        exact hne hh.symm
  refine ⟨⟨h.1.1, h.1.2.1, fun hn => ?_⟩, fun a ha hn => ?_⟩
  · obtain ⟨b, off, e', hc⟩ := h.1.open_ hn
    refine ⟨b, off, e', fun j hj => ?_⟩
    rw [← hc j hj]
    have := key _ e' hn
    unfold World.cell?
    rw [this]
  · rcases h.2 a ha hn with h1 | ⟨cur, hk⟩
    · exact .inl h1
    · exact .inr ⟨cur, (key a ha hn).trans hk⟩
def sliceLen : Value → Nat | .slice _ n _ => n | _ => 0
theorem OwnR.len {w : World} {B : Nat} {e : TypeId} {k : IntKind} {v : Value} {l : List Nat} (h : OwnR w B e k v l) : sliceLen v = l.length ∧ ∃ A c, v = .slice A l.length c := by
  rcases h.form with ⟨rfl, rfl⟩ | ⟨g, cap, cur, rfl, _⟩
  · exact ⟨rfl, _, _, rfl⟩
  · exact ⟨rfl, _, _, rfl⟩
end Go.Proofs.YtenekbfnlbipiaaDoor
