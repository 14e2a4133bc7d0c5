/- Walks: Sub. -/
import Derived.Test.YtenekbfnlbipiaaDoorSub
import Derived.Test.YtenekbfnlbipiaaDoorDvA
import Derived.Test.YtenekbfnlbipiaaDoorPs
import Derived.Handy
import Derived.Test.YtenekbfnlbipiaaDoorApp
import Derived.Deep.DeepAppendWide
namespace Go.Proofs.YtenekbfnlbipiaaDoor
open Go.RowKit
set_option linter.unusedVariables false
set_option linter.unusedSimpArgs false
set_option maxHeartbeats 4000000
set_option maxRecDepth 100000

end Go.Proofs.YtenekbfnlbipiaaDoor
namespace Go.Proofs.YtenekbfnlbipiaaDoor
open Go.RowKit
set_option linter.unusedVariables false
set_option linter.unusedSimpArgs false
set_option maxHeartbeats 4000000
set_option maxRecDepth 100000

theorem ref_Same (A B : Option Addr) (a b : List Nat) (n m c d : Nat) (hn : n = a.length) (hm : m = b.length) (w : World) (ha : Rd w A a) (hb : Rd w B b) :
    Calls Tryd.prog 32 #[.agg #[.slice A n c], .agg #[.slice B m d]] w (Says w (.bool (decide (a = b)))) := by
  subst hn hm
  have hla := ha.len
  have hlb := hb.len
  have h1 := (ha.alloc (Obj.cells #[Value.slice A a.length c] 56)).alloc (Obj.cells #[Value.slice B b.length d] 56)
  have h2 := (hb.alloc (Obj.cells #[Value.slice A a.length c] 56)).alloc (Obj.cells #[Value.slice B b.length d] 56)
  by_cases hl : a.length = b.length
  · have e : cmpL a b = 0 ↔ a = b := cmpL_zero ha.sm hb.sm
    have E : Hid (decide (a = b) = (cmpL a b == 0)) := by
      show decide (a = b) = _
      by_cases h : a = b
      · rw [decide_eq_true h, e.2 h]; rfl
      · rw [decide_eq_false h]; symm; rw [beq_eq_false_iff_ne]; exact fun h' => h (e.1 h')
    have hl1 : ((a.length : Int) == (b.length : Int)) = true := by rw [beq_iff_eq]; omega
    clear hl e
    go_enter Tryd.func32, Tryd.ntmps32
    go_wp2_with fail
    refine (ref_cmp A B a b _ _ c d rfl rfl _ h1 h2).mono ?_
    rintro e w1 ⟨rfl, hb1⟩
    obtain ⟨hc1, hf1⟩ := bcell hb1
    have hbw1 : Below w.heap.size w w1 := Below.trans (b := _) (by repeat' (first | (with_reducible assumption) | (with_reducible exact Below.refl _ _) | (with_reducible refine bdn ?_ _) | (with_reducible refine Below.drew ?_) | (with_reducible refine Below.setCell ?_ ?_ _) | (with_reducible refine Below.alloc ?_ ?_ _) | go_size)) (hb1.mono (by go_size))
    have hz1_0 : w.heap.size < w1.heap.size := by have := hb1.size; simp at this; omega
    have hz1_1 : w.heap.size + 1 < w1.heap.size := by have := hb1.size; simp at this; omega
    go_wp2
    go_ret
    rw [E.out]
    exact ⟨rfl, (by repeat' (first | (with_reducible assumption) | (with_reducible exact Below.refl _ _) | (with_reducible refine bdn ?_ _) | (with_reducible refine Below.drew ?_) | (with_reducible refine Below.setCell ?_ ?_ _) | (with_reducible refine Below.alloc ?_ ?_ _) | go_size))⟩
  · have E : Hid (decide (a = b) = false) := by
      show decide (a = b) = _
      rw [decide_eq_false]; intro h; rw [h] at hl; exact hl rfl
    have hl1 : ((a.length : Int) == (b.length : Int)) = false := by rw [beq_eq_false_iff_ne]; omega
    clear hl
    go_enter Tryd.func32, Tryd.ntmps32
    go_wp2
    go_ret
    rw [E.out]
    exact ⟨rfl, (by repeat' (first | (with_reducible assumption) | (with_reducible exact Below.refl _ _) | (with_reducible refine bdn ?_ _) | (with_reducible refine Below.drew ?_) | (with_reducible refine Below.setCell ?_ ?_ _) | (with_reducible refine Below.alloc ?_ ?_ _) | go_size))⟩
end Go.Proofs.YtenekbfnlbipiaaDoor
namespace Go.Proofs.YtenekbfnlbipiaaDoor
open Go.RowKit
set_option linter.unusedVariables false
set_option linter.unusedSimpArgs false
set_option maxHeartbeats 4000000
set_option maxRecDepth 100000

theorem Blk.ne_ {w : World} {g g' : Nat} {t t' : TypeId} {cs cs' : Array Value} (h : Blk w g t cs) (h' : Blk w g' t' cs') (hne : t ≠ t') : g ≠ g' := by
  rintro rfl
  unfold Blk at h h'
  rw [h] at h'
  injection h' with h'
  injection h' with _ ht
  exact hne ht
/-- Blocks stay, but for the cells behind the first n of the block at A. -/
def Stay (w w' : World) (A : Option Addr) (n : Nat) : Prop :=
  ∀ g t cur, Blk w g t cur → ∃ cur', Blk w' g t cur' ∧ cur'.size = cur.size ∧ ∀ j, (A = some ⟨g, 0, none⟩ → j < n) → cur'[j]? = cur[j]?
section
variable {w w' : World} {A : Option Addr} {n : Nat}
theorem Stay.blk (h : Stay w w' A n) {g : Nat} {t : TypeId} {cs : Array Value} (hb : Blk w g t cs) (hne : A ≠ some ⟨g, 0, none⟩) : Blk w' g t cs := by
  obtain ⟨cur', h1, h2, h3⟩ := h g t cs hb
  have : cur' = cs := Array.ext_getElem? fun j => h3 j fun e => absurd e hne
  rw [this] at h1; exact h1
theorem Stay.own (h : Stay w w' A n) {t : TypeId} {B c : Nat} {A0 : Option Addr} {l : List Nat} (ho : Own w t B A0 c l) (hl : A0 = A → l.length ≤ n) : Own w' t B A0 c l := by
  refine ⟨ho.1, ho.2.1, ?_⟩
  rcases ho.2.2 with h0 | ⟨g, cur, e, hg, hk, h1, h2, h3⟩
  · exact .inl h0
  · obtain ⟨cur', k1, k2, k3⟩ := h g t cur hk
    refine .inr ⟨g, cur', e, hg, k1, h1, by omega, fun j hj => ?_⟩
    rw [k3 j fun e' => by have := hl (e.trans e'.symm); omega]
    exact h3 j hj
theorem Stay.refl (w : World) (A : Option Addr) (n : Nat) : Stay w w A n := fun g t cur h => ⟨cur, h, rfl, fun _ _ => rfl⟩
theorem Stay.of_below (hb : Below w.heap.size w w') (A : Option Addr) (n : Nat) : Stay w w' A n := fun g t cur h => ⟨cur, h.below hb h.lt, rfl, fun _ _ => rfl⟩
theorem Stay.trans {w'' : World} (h : Stay w w' A n) (h' : Stay w' w'' A n) : Stay w w'' A n := fun g t cur hb => by
  obtain ⟨c1, a1, a2, a3⟩ := h g t cur hb
  obtain ⟨c2, b1, b2, b3⟩ := h' g t c1 a1
  exact ⟨c2, b1, by omega, fun j hj => (b3 j hj).trans (a3 j hj)⟩
end

/-- As 'Own', but for the bound on the length. -/
def OwnG (w : World) (t : TypeId) (B : Nat) (A : Option Addr) (c : Nat) (l : List Nat) : Prop :=
  Sm l ∧ ((A = none ∧ l = [] ∧ c = 0) ∨
    ∃ g cur, A = some ⟨g, 0, none⟩ ∧ B ≤ g ∧ Blk w g t cur ∧ l.length ≤ c ∧ c ≤ cur.size ∧ ∀ j, j < l.length → cur[j]? = some (.int .u32 ((nth l j : Nat) : Int)))
theorem Own.g {w : World} {t : TypeId} {B c : Nat} {A : Option Addr} {l : List Nat} (h : Own w t B A c l) : OwnG w t B A c l := ⟨h.1, h.2.2⟩
theorem OwnG.mono {w : World} {t : TypeId} {B B' c : Nat} {A : Option Addr} {l : List Nat} (h : OwnG w t B A c l) (hB : B' ≤ B) : OwnG w t B' A c l := by
  refine ⟨h.1, ?_⟩
  rcases h.2 with h | ⟨g, cur, e, hg, r⟩
  · exact .inl h
  · exact .inr ⟨g, cur, e, Nat.le_trans hB hg, r⟩
theorem OwnG.blocks {w w' : World} {t : TypeId} {B c : Nat} {A : Option Addr} {l : List Nat} (h : OwnG w t B A c l) (hk : ∀ g cs, Blk w g t cs → Blk w' g t cs) : OwnG w' t B A c l := by
  refine ⟨h.1, ?_⟩
  rcases h.2 with h | ⟨g, cur, e, hg, hb, r⟩
  · exact .inl h
  · exact .inr ⟨g, cur, e, hg, hk _ _ hb, r⟩
theorem Own.blocks {w w' : World} {t : TypeId} {B c : Nat} {A : Option Addr} {l : List Nat} (h : Own w t B A c l) (hk : ∀ g cs, Blk w g t cs → Blk w' g t cs) : Own w' t B A c l := ⟨h.1, h.2.1, (h.g.blocks hk).2⟩
theorem OwnG.cell {w : World} {t : TypeId} {B c : Nat} {A : Option Addr} {l : List Nat} (h : OwnG w t B A c l) {k : Nat} (hk : k < l.length) : ∃ g, A = some ⟨g, 0, none⟩ ∧ g < w.heap.size ∧ w.cell? ⟨g, k, none⟩ = some (.int .u32 ((nth l k : Nat) : Int)) := by
  rcases h.2 with ⟨_, rfl, _⟩ | ⟨g, cur, e, hg, hb, h1, h2, h3⟩
  · simp at hk
  · exact ⟨g, e, hb.lt, (hb.cell k).trans (h3 k hk)⟩
theorem Stay.ownG {w w' : World} {A : Option Addr} {n : Nat} (h : Stay w w' A n) {t : TypeId} {B c : Nat} {A0 : Option Addr} {l : List Nat} (ho : OwnG w t B A0 c l) (hl : A0 = A → l.length ≤ n) : OwnG w' t B A0 c l := by
  refine ⟨ho.1, ?_⟩
  rcases ho.2 with h0 | ⟨g, cur, e, hg, hk, h1, h2, h3⟩
  · exact .inl h0
  · obtain ⟨cur', k1, k2, k3⟩ := h g t cur hk
    refine .inr ⟨g, cur', e, hg, k1, h1, by omega, fun j hj => ?_⟩
    rw [k3 j fun e' => by have := hl (e.trans e'.symm); omega]
    exact h3 j hj

section
variable {P : Program} {w : World} {t e : TypeId}
/-- The block that a growing append makes. -/
def Own2 (w' w : World) (e : TypeId) (l : List Nat) (y cap : Nat) : Prop :=
  ∃ cur, Blk w' w.heap.size e cur ∧ cap ≤ cur.size ∧ ∀ j, j < l.length + 1 → cur[j]? = some (.int .u32 ((nth (l ++ [y]) j : Nat) : Int))
theorem run_grow1 (E : ElemOf P t e .u32) (h4 : (P.info? e).map (·.bytes) = some 4) (ty : TypeId) {B : Nat} {A : Option Addr} {c : Nat} {l : List Nat} (hown : OwnG w e B A c l) (hB : B ≤ w.heap.size) (ad : Addr) (y : Nat) (hy : y < 4294967296) (hcell : w.cell? ad = some (.int .u32 (y : Int))) (hlen : l.length ≤ 36000000000000) :
    ∃ A' c' w', (Builtin.append_ #[t, t] ty #[.slice A l.length c, .slice (some ad) 1 1]).run P w = .ok (.slice A' (l ++ [y]).length c') w' ∧ OwnG w' e B A' c' (l ++ [y]) ∧ Below B w w' ∧
      (A' = A ∨ ∃ g, A' = some ⟨g, 0, none⟩ ∧ w.heap.size ≤ g) ∧ Stay w w' A l.length := by
  obtain ⟨i, b, hi, hz, hsz, hby, hb8⟩ := E.hi
  have hb4 : i.bytes = 4 := by rw [hi] at h4; simpa using h4
  have hnews : ∀ j u, [Value.int .u32 (y : Int)][j]? = some u → w.cell? (ad.add j) = some u := by
    intro j u hj
    match j with
    | 0 => simp at hj; subst hj; simpa [Addr.add] using hcell
    | j + 1 => simp at hj
  have hsm : Sm (l ++ [y]) := hown.1.append (by intro x hx; simp at hx; omega)
  have new : ∀ (olds : List Value) (cap : Nat), olds = ints .u32 l → Own2 (w.drew.alloc (.cells (olds.toArray ++ [Value.int .u32 (y : Int)].toArray ++ Builtin.zeroCells (Value.int .u32 0).cells (grownCap w (l.length + 1) cap e - (l.length + 1))) e)) w e l y (grownCap w (l.length + 1) cap e) := by
    intro olds cap ho
    subst ho
    have hge := grownCap_ge w (l.length + 1) cap e
    refine ⟨_, heap_alloc_new w.drew _, ?_, ?_⟩
    · simp only [Array.size_append, List.size_toArray, size_zeroCells, ints_length, Value.cells, List.length_singleton]
      simp; omega
    · intro j hj
      rw [Array.getElem?_append_left (by simp; omega)]
      simp only [List.append_toArray, List.getElem?_toArray]
      rw [List.getElem?_append]
      simp only [ints_length]
      by_cases hjl : j < l.length
      · rw [if_pos hjl, ints_get .u32 l j hjl, nth_lt _ hjl, nth_lt _ (by simp; omega), List.getElem_append_left]
      · have hje : j = l.length := by omega
        subst hje
        rw [if_neg hjl, nth_lt _ (by simp)]
        simp
  have fin : ∀ (olds : List Value) (cap : Nat), olds = ints .u32 l → ∀ w', w' = (w.drew.alloc (.cells (olds.toArray ++ [Value.int .u32 (y : Int)].toArray ++ Builtin.zeroCells (Value.int .u32 0).cells (grownCap w (l.length + 1) cap e - (l.length + 1))) e)) →
      OwnG w' e B (some ⟨w.heap.size, 0, none⟩) (grownCap w (l.length + 1) cap e) (l ++ [y]) ∧ Below B w w' ∧ Stay w w' A l.length := by
    intro olds cap ho w' hw'
    obtain ⟨cur, k1, k2, k3⟩ := new olds cap ho
    rw [← hw'] at k1
    have hge := grownCap_ge w (l.length + 1) cap e
    refine ⟨⟨hsm, .inr ⟨_, cur, rfl, hB, k1, by simpa using hge, k2, fun j hj => k3 j (by simpa using hj)⟩⟩, ?_, fun g tt cur hb => ⟨cur, ?_, rfl, fun _ _ => rfl⟩⟩
    · rw [hw']; exact (Below.drew (Below.refl _ _)).alloc hB _
    · rw [hw']; exact hb.drew.alloc _
  rcases hown.2 with ⟨rfl, rfl, rfl⟩ | ⟨g, cur, rfl, hg, hk, h1, h2, h3⟩
  · have hr := run_append_nil (P := P) w t ty e i (.int .u32 0) E.ht hi hz ad 1 1 [.int .u32 (y : Int)] (by rw [hsz]; rfl) hnews (by omega) (by omega) (by omega)
    obtain ⟨a1, a2, a3⟩ := fin [] 0 rfl _ rfl
    exact ⟨_, _, _, by simpa using hr, a1, a2, .inr ⟨_, rfl, Nat.le_refl _⟩, a3⟩
  · by_cases hroom : l.length + 1 ≤ c
    · have hr := run_append_room (P := P) w t ty e i E.ht hi g l.length c cur hk ad 1 1 [.int .u32 (y : Int)] (by rw [hsz]; rfl) hnews (by simp [Value.oneCell']) hroom (by rw [hsz]; simp; omega)
      refine ⟨some ⟨g, 0, none⟩, c, _, by rw [List.length_append]; exact hr, ⟨hsm, .inr ⟨g, _, rfl, hg, setRow_heap w g cur _ e _ hk, by simpa using hroom, ?_, ?_⟩⟩, ?_, .inl rfl, ?_⟩
      · simp [hsz]; omega
      · intro j hj
        simp only [List.length_append, List.length_singleton] at hj
        rw [hsz]
        simp only [Nat.mul_one, List.getElem?_toArray]
        rw [List.append_assoc, List.getElem?_append]
        have htl : (cur.toList.take l.length).length = l.length := by simp; omega
        rw [htl]
        by_cases hjl : j < l.length
        · rw [if_pos hjl, List.getElem?_take, if_pos hjl]
          have := h3 j hjl
          rw [Array.getElem?_toList, this]
          rw [nth_lt _ hjl, nth_lt _ (by simp; omega), List.getElem_append_left]
        · have hje : j = l.length := by omega
          subst hje
          rw [if_neg hjl, nth_lt _ (by simp)]
          simp
      · refine ⟨rfl, rfl, rfl, by simp [World.setRow], fun k hkk => setRow_other w g k _ (by omega)⟩
      · intro g' tt cur' hb'
        by_cases hgg : g' = g
        · subst hgg
          have heq : (Obj.cells cur e (0, 0)) = .cells cur' tt (0, 0) := by
            have := hk.symm.trans hb'
            injection this
          injection heq with e1 e2
          subst e1 e2
          refine ⟨_, setRow_heap w g' cur _ e _ hk, by simp [hsz]; omega, fun j hj => ?_⟩
          have hj' := hj rfl
          rw [hsz]
          simp only [Nat.mul_one, List.getElem?_toArray]
          rw [List.append_assoc, List.getElem?_append_left (by simp; omega), List.getElem?_take, if_pos hj', Array.getElem?_toList]
        · exact ⟨cur', (setRow_other w g g' _ hgg).trans hb', rfl, fun _ _ => rfl⟩
    · have hold : ∀ j u, (ints .u32 l)[j]? = some u → w.cell? ((⟨g, 0, none⟩ : Addr).add j) = some u := by
        intro j u hu
        have hjl : j < l.length := by
          rcases Nat.lt_or_ge j l.length with h1 | h1
          · exact h1
          · rw [List.getElem?_eq_none (by simpa using h1)] at hu; cases hu
        rw [ints_get .u32 l j hjl] at hu
        injection hu with hu
        subst hu
        have hadd : (⟨g, 0, none⟩ : Addr).add j = ⟨g, j, none⟩ := by unfold Addr.add; split <;> simp_all
        rw [hadd, hk.cell]; exact h3 j hjl
      have hr := run_append_grow (P := P) w t ty e i (.int .u32 0) E.ht hi hz ⟨g, 0, none⟩ l.length c (ints .u32 l) (by simp [hsz]) hold ad 1 1 [.int .u32 (y : Int)] (by rw [hsz]; rfl) hnews (by omega) (by omega) (growslice_fits_wide (by omega) (by rw [hb4]; omega))
      obtain ⟨a1, a2, a3⟩ := fin _ c rfl _ rfl
      exact ⟨_, _, _, by rw [List.length_append]; exact hr, a1, a2, .inr ⟨_, rfl, Nat.le_refl _⟩, a3⟩

/-- append of one limb to an answer. -/
theorem wpList_grow1 {ops : Array Oper} {rest : List Oper} {o : Oper} {a : Act} {Q : Exit → Act → World → Prop} (E : ElemOf P t e .u32) (h4 : (P.info? e).map (·.bytes) = some 4) (hgd : o.guard = none) (s x : Operand) (ho : o.op = .call { callee := .builtin .append, args := #[s, x], argTypes := #[t, t] })
    {B : Nat} {A : Option Addr} {n c : Nat} {l : List Nat} (hown : OwnG w e B A c l) (hn : n = l.length) (hB : B ≤ w.heap.size) (hs : a.eval s = .slice A n c) (ad : Addr) (hx : a.eval x = .slice (some ad) 1 1) (y : Nat) (hy : y < 4294967296) (hcell : w.cell? ad = some (.int .u32 (y : Int))) (hlen : l.length ≤ 36000000000000)
    (h : ∀ A' c' w', OwnG w' e B A' c' (l ++ [y]) → Below B w w' → (A' = A ∨ ∃ g, A' = some ⟨g, 0, none⟩ ∧ w.heap.size ≤ g) → Stay w w' A l.length → wpList P ops Q rest (a.put o.dst (.slice A' (l ++ [y]).length c')) w') : wpList P ops Q (o :: rest) a w := by
  subst hn
  obtain ⟨A', c', w', hr, a1, a2, a3, a4⟩ := run_grow1 E h4 o.type hown hB ad y hy hcell hlen
  refine wpList_plain hgd fun K hK => ?_
  unfold Oper.wp execOp
  simp only [ho, resolve, invoke, builtin, Sem.run_bind, Sem.run_pure, Result.andThen_ok, List.map_toArray, List.map_cons, List.map_nil, hs, hx, hr]
  exact hK _ _ (h A' c' w' a1 a2 a3 a4)
end
end Go.Proofs.YtenekbfnlbipiaaDoor
