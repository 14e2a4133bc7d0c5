/- What memory holds: a slice of limbs that reads as a list; a block that is known whole; an answer in memory of its own. No program here. -/
import Derived.Test.YtenekbfnlbipiaaGreatDoorPlain
import Derived.WalkKit
import Derived.WalkSpells
import Derived.Lib.Hide
import Derived.Deep.Draws
import Derived.Test.YtenekbfnlbipiaaGreatDoorProg
import Derived.Deep.QuietTactic
import Derived.BigQuiet
import Derived.Handy
namespace Go.Proofs.YtenekbfnlbipiaaGreatDoor
open Go.RowKit
set_option linter.unusedVariables false
set_option linter.unusedSimpArgs false

theorem below_cell {B : Nat} {W w1 : World} (hb : Below B W w1) {b o : Nat} (h : b < B) : w1.cell? ⟨b, o, none⟩ = W.cell? ⟨b, o, none⟩ := hb.cell (p := ⟨b, o, none⟩) h
theorem below_frozen {B : Nat} {W w1 : World} (hb : Below B W w1) {b o : Nat} (h : b < B) : w1.frozen? ⟨b, o, none⟩ = W.frozen? ⟨b, o, none⟩ := hb.frozen (p := ⟨b, o, none⟩) h
theorem bcell {W w1 : World} (hb : Below W.heap.size W w1) : (∀ b o, b < W.heap.size → w1.cell? ⟨b, o, none⟩ = W.cell? ⟨b, o, none⟩) ∧ (∀ b o, b < W.heap.size → w1.frozen? ⟨b, o, none⟩ = W.frozen? ⟨b, o, none⟩) :=
  ⟨fun b o h => hb.cell (p := ⟨b, o, none⟩) h, fun b o h => hb.frozen (p := ⟨b, o, none⟩) h⟩
theorem cell_lt {w : World} {a : Addr} {v : Value} (h : w.cell? a = some v) : a.block < w.heap.size := by
  unfold World.cell? at h
  rcases Nat.lt_or_ge a.block w.heap.size with hlt | hge
  · exact hlt
  · rw [Array.getElem?_eq_none hge] at h; cases h

def Rd (w : World) (A : Option Addr) (l : List Nat) : Prop :=
  Sm l ∧ l.length ≤ 35184372088960 ∧ (0 < l.length → ∃ b off, A = some ⟨b, off, none⟩ ∧ ∀ j, j < l.length → w.cell? ⟨b, off + j, none⟩ = some (.int .u32 ((nth l j : Nat) : Int)))
theorem Rd.sm {w : World} {A : Option Addr} {l : List Nat} (h : Rd w A l) : Sm l := h.1
theorem Rd.len {w : World} {A : Option Addr} {l : List Nat} (h : Rd w A l) : l.length ≤ 35184372088960 := h.2.1
theorem Rd.nil (w : World) (A : Option Addr) : Rd w A [] := ⟨Sm.nil, by simp, fun h => absurd h (by simp)⟩
theorem Rd.keep {w w' : World} {A : Option Addr} {l : List Nat} (h : Rd w A l) (hk : ∀ p : Addr, p.block < w.heap.size → w'.cell? p = w.cell? p) : Rd w' A l :=
  ⟨h.1, h.2.1, fun hn => by
    obtain ⟨b, off, e, hc⟩ := h.2.2 hn
    exact ⟨b, off, e, fun j hj => (hk _ (cell_lt (hc j hj))).trans (hc j hj)⟩⟩
theorem Rd.below {w w' : World} {A : Option Addr} {l : List Nat} (h : Rd w A l) (hb : Below w.heap.size w w') : Rd w' A l := h.keep fun _ hp => hb.cell hp
theorem Rd.alloc {w : World} {A : Option Addr} {l : List Nat} (h : Rd w A l) (o : Obj) : Rd (w.alloc o) A l := h.keep fun p hp => World.cell?_alloc_lt w o p hp
theorem Rd.drew {w : World} {A : Option Addr} {l : List Nat} (h : Rd w A l) : Rd w.drew A l := h
theorem Rd.open_ {w : World} {A : Option Addr} {l : List Nat} (h : Rd w A l) (hn : 0 < l.length) : ∃ b off, A = some ⟨b, off, none⟩ ∧ ∀ j, j < l.length → w.cell? ⟨b, off + j, none⟩ = some (.int .u32 ((nth l j : Nat) : Int)) := h.2.2 hn

def Blk (w : World) (g : Nat) (t : TypeId) (cs : Array Value) : Prop := w.heap[g]? = some (.cells cs t (0, 0))
section
variable {w w' : World} {g : Nat} {t : TypeId} {cs : Array Value}
theorem Blk.lt (h : Blk w g t cs) : g < w.heap.size := (Array.getElem?_eq_some_iff.1 h).1
theorem Blk.cell (h : Blk w g t cs) (i : Nat) : w.cell? ⟨g, i, none⟩ = cs[i]? := cell_of_row w g i cs t (0, 0) h
theorem Blk.frozen (h : Blk w g t cs) (i : Nat) : w.frozen? ⟨g, i, none⟩ = false := by
  unfold Blk at h; simp [World.frozen?, h]
theorem Blk.new (w : World) (t : TypeId) (cs : Array Value) : Blk (w.alloc (.cells cs t)) w.heap.size t cs := heap_alloc_new w _
theorem Blk.drew (h : Blk w g t cs) : Blk w.drew g t cs := h
theorem Blk.drewN (h : Blk w g t cs) (n : Nat) : Blk (w.drewN n) g t cs := h
theorem Blk.alloc (h : Blk w g t cs) (o : Obj) : Blk (w.alloc o) g t cs := (Below.heap_alloc w o g h.lt).trans h
theorem Blk.set_ (h : Blk w g t cs) (i : Nat) (u : Value) : Blk (w.setCell ⟨g, i, none⟩ u) g t (cs.setIfInBounds i u) := by
  unfold Blk at h ⊢; simp [World.setCell, Array.getElem?_modify, h]
theorem Blk.far (h : Blk w g t cs) {p : Addr} (hp : g ≠ p.block) (u : Value) : Blk (w.setCell p u) g t cs := (Below.heap_setCell w p u g hp).trans h
theorem Blk.below {B : Nat} (h : Blk w g t cs) (hb : Below B w w') (hg : g < B) : Blk w' g t cs := (hb.block g hg).trans h
end

def c32 (l : List Nat) : Array Value := (l.map fun x : Nat => Value.int .u32 (x : Int)).toArray
theorem c32_size (l : List Nat) : (c32 l).size = l.length := by simp [c32]
theorem c32_get (l : List Nat) (i : Nat) (h : i < l.length) : (c32 l)[i]? = some (.int .u32 ((nth l i : Nat) : Int)) := by
  rw [nth_lt l h]; simp [c32, h]
theorem c32_set (l : List Nat) (i x : Nat) : (c32 l).setIfInBounds i (.int .u32 (x : Int)) = c32 (l.set i x) := by
  simp [c32, List.map_set]

def Row (w : World) (t : TypeId) (g : Nat) (l : List Nat) : Prop := Blk w g t (c32 l)
section
variable {w w' : World} {g : Nat} {t : TypeId} {l : List Nat}
theorem Row.lt (h : Row w t g l) : g < w.heap.size := Blk.lt h
theorem Row.cell (h : Row w t g l) (i : Nat) (hi : i < l.length) : w.cell? ⟨g, i, none⟩ = some (.int .u32 ((nth l i : Nat) : Int)) := (Blk.cell h i).trans (c32_get l i hi)
theorem Row.frozen (h : Row w t g l) (i : Nat) : w.frozen? ⟨g, i, none⟩ = false := Blk.frozen h i
theorem Row.set_ (h : Row w t g l) (i x : Nat) : Row (w.setCell ⟨g, i, none⟩ (.int .u32 (x : Int))) t g (l.set i x) := by
  unfold Row; rw [← c32_set]; exact Blk.set_ h i _
theorem Row.alloc (h : Row w t g l) (o : Obj) : Row (w.alloc o) t g l := Blk.alloc h o
theorem Row.below {B : Nat} (h : Row w t g l) (hb : Below B w w') (hg : g < B) : Row w' t g l := Blk.below h hb hg
theorem Row.rd (h : Row w t g l) (hs : Sm l) (hl : l.length ≤ 35184372088960) (i n : Nat) (hn : i + n ≤ l.length) (A : Option Addr) (hA : A = some ⟨g, i, none⟩) : Rd w A ((l.drop i).take n) := by
  have hlen : ((l.drop i).take n).length = n := by simp; omega
  refine ⟨(hs.drop i).take n, by omega, fun _ => ⟨g, i, hA, fun j hj => ?_⟩⟩
  rw [hlen] at hj
  rw [h.cell (i + j) (by omega)]
  have : nth ((l.drop i).take n) j = nth l (i + j) := by
    rw [nth_lt _ (by rw [hlen]; exact hj), nth_lt _ (by omega)]; simp
  rw [this]
end

def Own (w : World) (t : TypeId) (B : Nat) (A : Option Addr) (c : Nat) (l : List Nat) : Prop :=
  Sm l ∧ l.length ≤ 35184372088960 ∧ ((A = none ∧ l = [] ∧ c = 0) ∨
    ∃ g cur, A = some ⟨g, 0, none⟩ ∧ B ≤ g ∧ Blk w g t cur ∧ l.length ≤ c ∧ c ≤ cur.size ∧ ∀ j, j < l.length → cur[j]? = some (.int .u32 ((nth l j : Nat) : Int)))
section
variable {w w' : World} {B c : Nat} {t : TypeId} {A : Option Addr} {l : List Nat}
theorem Own.sm (h : Own w t B A c l) : Sm l := h.1
theorem Own.nil (w : World) (t : TypeId) (B : Nat) : Own w t B none 0 [] := ⟨Sm.nil, by simp, .inl ⟨rfl, rfl, rfl⟩⟩
theorem Own.rd (h : Own w t B A c l) : Rd w A l := by
  refine ⟨h.1, h.2.1, fun hn => ?_⟩
  rcases h.2.2 with ⟨_, rfl, _⟩ | ⟨g, cur, rfl, _, hb, _, _, hc⟩
  · simp at hn
  · exact ⟨g, 0, rfl, fun j hj => by rw [hb.cell]; simpa using hc j hj⟩
theorem Own.below {B' : Nat} (h : Own w t B A c l) (hb : Below B' w w') (hB : w.heap.size ≤ B') : Own w' t B A c l := by
  refine ⟨h.1, h.2.1, ?_⟩
  rcases h.2.2 with h | ⟨g, cur, e, hg, hk, r⟩
  · exact .inl h
  · exact .inr ⟨g, cur, e, hg, hk.below hb (Nat.lt_of_lt_of_le hk.lt hB), r⟩
theorem Own.alloc (h : Own w t B A c l) (o : Obj) : Own (w.alloc o) t B A c l := by
  refine ⟨h.1, h.2.1, ?_⟩
  rcases h.2.2 with h | ⟨g, cur, e, hg, hk, r⟩
  · exact .inl h
  · exact .inr ⟨g, cur, e, hg, hk.alloc o, r⟩
theorem Own.mono {B' : Nat} (h : Own w t B A c l) (hB : B' ≤ B) : Own w t B' A c l := by
  refine ⟨h.1, h.2.1, ?_⟩
  rcases h.2.2 with h | ⟨g, cur, e, hg, r⟩
  · exact .inl h
  · exact .inr ⟨g, cur, e, Nat.le_trans hB hg, r⟩
theorem Own.block (h : Own w t B A c l) {g : Nat} (hg : A.map (·.block) = some g) : B ≤ g ∧ g < w.heap.size := by
  rcases h.2.2 with ⟨rfl, _⟩ | ⟨g', cur, rfl, hB, hk, _⟩
  · simp at hg
  · simp at hg; subst hg; exact ⟨hB, hk.lt⟩
theorem Row.own {g : Nat} (h : Row w t g l) (hs : Sm l) (hl : l.length ≤ 35184372088960) (hB : B ≤ g) (n : Nat) (hn : n ≤ c) (hc : c ≤ l.length) : Own w t B (some ⟨g, 0, none⟩) c (l.take n) := by
  refine ⟨hs.take n, by simp; omega, .inr ⟨g, c32 l, rfl, hB, h, by simp; omega, by rw [c32_size]; exact hc, fun j hj => ?_⟩⟩
  simp only [List.length_take] at hj
  rw [c32_get l j (by omega)]
  have : nth (l.take n) j = nth l j := by
    rw [nth_lt _ (by simp; omega), nth_lt _ (by omega)]; simp
  rw [this]
end

theorem Own.take {w : World} {B c : Nat} {t : TypeId} {A : Option Addr} {l : List Nat} (h : Own w t B A c l) (n : Nat) : Own w t B A c (l.take n) := by
  refine ⟨h.1.take n, by have := h.2.1; simp; omega, ?_⟩
  rcases h.2.2 with ⟨h1, h2, h3⟩ | ⟨g, cur, e, hg, hk, h1, h2, h3⟩
  · exact .inl ⟨h1, by rw [h2]; simp, h3⟩
  · refine .inr ⟨g, cur, e, hg, hk, by simp; omega, h2, fun j hj => ?_⟩
    simp only [List.length_take] at hj
    rw [h3 j (by omega)]
    have : nth (l.take n) j = nth l j := by
      rw [nth_lt _ (by simp; omega), nth_lt _ (by omega)]; simp
    rw [this]
theorem Own.trim {w : World} {B c : Nat} {t : TypeId} {A : Option Addr} {l : List Nat} (h : Own w t B A c l) : Own w t B A c (limbs (val l)) := by
  rw [limbs_prefix h.1]; exact h.take _
theorem ret_int {k : IntKind} {a b : Int} (h : a = b) : Ending.returned (.int k a) = .returned (.int k b) := by rw [h]
theorem ret_pair {k k' : IntKind} {a a' b b' : Int} (h : a = a') (h' : b = b') : Ending.returned (.tuple #[.int k a, .int k' b]) = .returned (.tuple #[.int k a', .int k' b']) := by rw [h, h']
theorem Own.setCell {w : World} {B c : Nat} {t : TypeId} {A : Option Addr} {l : List Nat} (h : Own w t B A c l) {p : Addr} (hp : p.block < B) (u : Value) : Own (w.setCell p u) t B A c l := by
  refine ⟨h.1, h.2.1, ?_⟩
  rcases h.2.2 with h | ⟨g, cur, e, hg, hk, r⟩
  · exact .inl h
  · exact .inr ⟨g, cur, e, hg, hk.far (by omega) u, r⟩
theorem Own.setNe {w : World} {B c : Nat} {t : TypeId} {A : Option Addr} {l : List Nat} {g : Nat} (h : Own w t B A c l) (hA : A = none ∨ A = some ⟨g, 0, none⟩) {p : Addr} (hp : g ≠ p.block) (u : Value) : Own (w.setCell p u) t B A c l := by
  refine ⟨h.1, h.2.1, ?_⟩
  rcases h.2.2 with h | ⟨g', cur, e, hg, hk, r⟩
  · exact .inl h
  · refine .inr ⟨g', cur, e, hg, hk.far ?_ u, r⟩
    rcases hA with hA | hA
    · rw [hA] at e; cases e
    · rw [hA] at e; injection e with e; injection e with e; rw [← e]; exact hp
theorem Own.drew {w : World} {B c : Nat} {t : TypeId} {A : Option Addr} {l : List Nat} (h : Own w t B A c l) : Own w.drew t B A c l := h
theorem Row.far {w : World} {t : TypeId} {g : Nat} {l : List Nat} (h : Row w t g l) {p : Addr} (hp : g ≠ p.block) (u : Value) : Row (w.setCell p u) t g l := Blk.far h hp u
theorem Row.rd0 {w : World} {t : TypeId} {g : Nat} {l : List Nat} (h : Row w t g l) (hs : Sm l) (hl : l.length ≤ 35184372088960) : Rd w (some ⟨g, 0, none⟩) l :=
  ⟨hs, hl, fun _ => ⟨g, 0, rfl, fun j hj => by rw [h.cell (0 + j) (by omega), Nat.zero_add]⟩⟩
theorem row_new {w : World} {t : TypeId} {g : Nat} {cs : Array Value} {l : List Nat} (hc : cs = c32 l) (hg : g = w.heap.size) : Row (w.alloc (.cells cs t)) t g l := by
  subst hc hg; exact Blk.new w t _
theorem Row.setE {w : World} {t : TypeId} {g : Nat} {l : List Nat} (h : Row w t g l) (i x : Nat) {E : Int} (hE : E = (x : Int)) : Row (w.setCell ⟨g, i, none⟩ (.int .u32 E)) t g (l.set i x) := by
  rw [hE]; exact h.set_ i x
theorem vi {k : IntKind} {a b : Int} (h : a = b) : Value.int k a = Value.int k b := by rw [h]
theorem run_make32 {P : Program} (t e : TypeId) (i : TypeInfo) (ht : P.underlying t = some (.slice e)) (hi : P.info? e = some i) (hz : i.zero = some (.int .u32 0)) (hs : i.size = 1) (hb : i.bytes = 4)
    (n : Nat) (N : Int) (hN : N = (n : Int)) (hn : n ≤ 70368744177664) (w : World) :
    (Instr.makeSlice t (.int .i64 N) (.int .i64 N)).run P w = .ok (.slice (some ⟨w.heap.size, 0, none⟩) n n) (w.alloc (.cells (c32 (List.replicate n 0)) e)) := by
  have hr := run_make (P := P) w t e i _ ht hi hz .i64 .i64 N N (by omega) (by omega) (by rw [hb]; omega) (by omega)
  rw [hr, hs, hN]
  have hc : madeCells (Value.int .u32 0).cells (n * 1) = c32 (List.replicate n 0) := by
    apply Array.ext
    · simp [madeCells, c32]
    · intro j h1 h2
      simp [madeCells, c32, Value.cells, Nat.mod_one]
  simp only [Int.toNat_natCast, hc]

def NatAns (t : TypeId) (w : World) (r : List Nat × Int) (e : Ending) (w' : World) : Prop :=
  ∃ A c, e = .returned (.tuple #[.agg #[.slice A r.1.length c], .int .i64 r.2]) ∧ Own w' t w.heap.size A c r.1 ∧ Below w.heap.size w w'
def NatOne (t : TypeId) (w : World) (l : List Nat) (e : Ending) (w' : World) : Prop :=
  ∃ A c, e = .returned (.agg #[.slice A l.length c]) ∧ Own w' t w.heap.size A c l ∧ Below w.heap.size w w'
def RowSome (t : TypeId) (w : World) (P : List Nat → Prop) (e : Ending) (w' : World) : Prop :=
  ∃ o g, P o ∧ Sm o ∧ w.heap.size ≤ g ∧ Row w' t g o ∧ e = .returned (.slice (some ⟨g, 0, none⟩) o.length o.length) ∧ Below w.heap.size w w'
def Says (w : World) (v : Value) (e : Ending) (w' : World) : Prop := e = .returned v ∧ Below w.heap.size w w'
end Go.Proofs.YtenekbfnlbipiaaGreatDoor
namespace Go.Proofs.YtenekbfnlbipiaaGreatDoor
open Go.RowKit
set_option linter.unusedVariables false
set_option linter.unusedSimpArgs false
set_option maxHeartbeats 4000000
set_option maxRecDepth 100000

theorem chk_facts (l : List Nat) (A : Option Addr) (w : World) (h : Rd w A l) (hn : 0 < l.length) :
    ∃ b off, A = some ⟨b, off, none⟩ ∧ b < w.heap.size ∧ w.cell? ⟨b, off + (l.length - 1), none⟩ = some (.int .u32 ((nth l (l.length - 1) : Nat) : Int)) := by
  obtain ⟨b, off, e, hc⟩ := h.open_ hn
  exact ⟨b, off, e, cell_lt (hc 0 hn), hc _ (by omega)⟩
theorem chk_ten {l : List Nat} (h1 : ¬16384 < l.length) (h2 : 0 < l.length) (h3 : nth l (l.length - 1) = 0) : chk l = 10 := by
  unfold chk; rw [if_neg h1, last_nth (by intro e; rw [e] at h2; simp at h2), h3, if_pos rfl]
theorem chk_ok {l : List Nat} (h1 : ¬16384 < l.length) (h2 : 0 < l.length) (h3 : nth l (l.length - 1) ≠ 0) : chk l = 0 := by
  unfold chk; rw [if_neg h1, last_nth (by intro e; rw [e] at h2; simp at h2), if_neg (by simpa using h3)]
theorem chk_nil {l : List Nat} (h2 : ¬0 < l.length) : chk l = 0 := by
  have : l = [] := List.eq_nil_of_length_eq_zero (by omega)
  subst this; rfl

theorem nat_Check (A : Option Addr) (l : List Nat) (n c : Nat) (hn : n = l.length) (w : World) (h : Rd w A l) :
    Calls Tryz.prog 180 #[.agg #[.slice A n c]] w (Says w (.int .i64 (chk l))) := by
  subst hn
  have hl := h.len
  by_cases h1 : 16384 < l.length
  · have e : chk l = 4 := by unfold chk; rw [if_pos h1]
    rw [e]
    go_enter Tryz.func180, Tryz.ntmps180
    go_wp2
    go_ret
    exact ⟨rfl, (Below.refl _ _).alloc (Nat.le_refl _) _⟩
  · by_cases h2 : 0 < l.length
    · obtain ⟨b, off, rfl, hb, hc⟩ := chk_facts l A w h h2
      by_cases h3 : nth l (l.length - 1) = 0
      · rw [chk_ten h1 h2 h3]
        rw [h3] at hc
        go_enter Tryz.func180, Tryz.ntmps180
        go_wp2
        go_ret
        exact ⟨rfl, (Below.refl _ _).alloc (Nat.le_refl _) _⟩
      · rw [chk_ok h1 h2 h3]
        have h3' : (((nth l (l.length - 1) : Nat) : Int) == 0) = false := by simp; exact h3
        go_enter Tryz.func180, Tryz.ntmps180
        go_wp2
        go_ret
        exact ⟨rfl, (Below.refl _ _).alloc (Nat.le_refl _) _⟩
    · rw [chk_nil h2]
      go_enter Tryz.func180, Tryz.ntmps180
      go_wp2
      go_ret
      exact ⟨rfl, (Below.refl _ _).alloc (Nat.le_refl _) _⟩

theorem ref_Check (A : Option Addr) (l : List Nat) (n c : Nat) (hn : n = l.length) (w : World) (h : Rd w A l) :
    Calls Tryz.prog 209 #[.agg #[.slice A n c]] w (Says w (.int .i64 (chk l))) := by
  subst hn
  have hl := h.len
  by_cases h1 : 16384 < l.length
  · have e : chk l = 4 := by unfold chk; rw [if_pos h1]
    rw [e]
    go_enter Tryz.func209, Tryz.ntmps209
    go_wp2
    go_ret
    exact ⟨rfl, (Below.refl _ _).alloc (Nat.le_refl _) _⟩
  · by_cases h2 : 0 < l.length
    · obtain ⟨b, off, rfl, hb, hc⟩ := chk_facts l A w h h2
      by_cases h3 : nth l (l.length - 1) = 0
      · rw [chk_ten h1 h2 h3]
        rw [h3] at hc
        go_enter Tryz.func209, Tryz.ntmps209
        go_wp2
        go_ret
        exact ⟨rfl, (Below.refl _ _).alloc (Nat.le_refl _) _⟩
      · rw [chk_ok h1 h2 h3]
        have h3' : (((nth l (l.length - 1) : Nat) : Int) == 0) = false := by simp; exact h3
        go_enter Tryz.func209, Tryz.ntmps209
        go_wp2
        go_ret
        exact ⟨rfl, (Below.refl _ _).alloc (Nat.le_refl _) _⟩
    · rw [chk_nil h2]
      go_enter Tryz.func209, Tryz.ntmps209
      go_wp2
      go_ret
      exact ⟨rfl, (Below.refl _ _).alloc (Nat.le_refl _) _⟩

theorem bdn {B : Nat} {a w : World} (h : Below B a w) (n : Nat) : Below B a (w.drewN n) := h.trans ⟨rfl, rfl, rfl, Nat.le_refl _, fun _ _ => rfl⟩
theorem rd_at {w wr : World} {A : Option Addr} {l : List Nat} (h : Rd w A l) (hb : Below w.heap.size w wr) {k : Nat} (hk : k < l.length) :
    ∃ b off, A = some ⟨b, off, none⟩ ∧ wr.cell? ⟨b, off + k, none⟩ = some (.int .u32 ((nth l k : Nat) : Int)) := by
  obtain ⟨b, off, e, hc⟩ := (h.below hb).open_ (by omega)
  exact ⟨b, off, e, hc k hk⟩

theorem nat_cmp (A B : Option Addr) (a b : List Nat) (n m c d : Nat) (hn : n = a.length) (hm : m = b.length) (w : World) (ha : Rd w A a) (hb : Rd w B b) :
    Calls Tryz.prog 185 #[.slice A n c, .slice B m d] w (Says w (.int .i64 (cmpL a b))) := by
  subst hn hm
  have hla := ha.len
  have hlb := hb.len
  by_cases h1 : a.length < b.length
  · have e : cmpL a b = -1 := by unfold cmpL; rw [if_pos h1]
    rw [e]
    go_enter Tryz.func185, Tryz.ntmps185
    go_wp2
    go_ret
    exact ⟨rfl, Below.refl _ _⟩
  by_cases h2 : b.length < a.length
  · have e : cmpL a b = 1 := by unfold cmpL; rw [if_neg h1, if_pos h2]
    rw [e]
    go_enter Tryz.func185, Tryz.ntmps185
    go_wp2
    go_ret
    exact ⟨rfl, Below.refl _ _⟩
  have hl : a.length = b.length := by omega
  have HL := Lib.hid hl
  clear hl
  go_enter Tryz.func185, Tryz.ntmps185
  go_wp2
  go_loopw [5] (fun i wr => ∃ k : Nat, k ≤ a.length ∧ i = .int .i64 ((k : Int) - 1) ∧ a.drop k = b.drop k ∧ Below w.heap.size w wr) (fun i _ => (intOf i + 1).toNat)
  case atStart => exact ⟨a.length, Nat.le_refl _, rfl, by rw [List.drop_length, HL.out, List.drop_length], Below.refl _ _⟩
  case round =>
    obtain ⟨k, hk, rfl, hd, hbl⟩ := hrel
    have HD := Lib.hid hd
    clear hd
    by_cases hk0 : k = 0
    · subst hk0
      have e : cmpL a b = 0 := (cmpL_zero ha.sm hb.sm).2 (by simpa using HD.out)
      have E := Lib.hid e
      clear e
      go_wp2
      go_ret
      rw [E.out]
      exact ⟨rfl, hbl⟩
    · obtain ⟨k, rfl⟩ : ∃ j, k = j + 1 := ⟨k - 1, by omega⟩
      obtain ⟨ba, oa, rfl, hca⟩ := rd_at ha hbl (k := k) (by omega)
      obtain ⟨bb, ob, rfl, hcb⟩ := rd_at hb hbl (k := k) (by omega)
      rcases Nat.lt_trichotomy (nth a k) (nth b k) with h3 | h3 | h3
      · have E := Lib.hid (cmpL_top_lt HL.out ha.sm k (by omega) HD.out h3)
        go_wp2
        go_quiet (fail)
        go_wp2
        go_ret
        rw [E.out]
        exact ⟨rfl, (by repeat (first | assumption | exact Below.refl _ _ | refine bdn ?_ _ | refine Below.drew ?_))⟩
      · have E := Lib.hid (drop_step HL.out k (by omega) HD.out h3)
        rw [h3] at hca
        clear h3
        go_wp2
        go_quiet (fail)
        go_wp2
        go_quiet (fail)
        go_wp2
        go_roundw
        case rel => exact ⟨k, by omega, by go_num, E.out, (by repeat (first | assumption | exact Below.refl _ _ | refine bdn ?_ _ | refine Below.drew ?_))⟩
        case measure => first | (simp [intOf]; done) | (simp [intOf]; omega)
      · have E := Lib.hid (cmpL_top_gt HL.out hb.sm k (by omega) HD.out h3)
        have h4 : ¬ (nth a k < nth b k) := by omega
        go_wp2
        go_quiet (fail)
        go_wp2
        go_quiet (fail)
        go_wp2
        go_ret
        rw [E.out]
        exact ⟨rfl, (by repeat (first | assumption | exact Below.refl _ _ | refine bdn ?_ _ | refine Below.drew ?_))⟩


def TrimPost (A : Option Addr) (l : List Nat) (w : World) (e : Ending) (w' : World) : Prop :=
  ∃ A', (A' = A ∨ A' = none) ∧ (A' = none → val l = 0) ∧ e = .returned (.agg #[.slice A' (limbs (val l)).length (limbs (val l)).length]) ∧ Below w.heap.size w w'

theorem nat_trimmed (A : Option Addr) (l : List Nat) (n c : Nat) (hn : n = l.length) (hc : n ≤ c) (w : World) (h : Rd w A l) :
    Calls Tryz.prog 182 #[.slice A n c] w (TrimPost A l w) := by
  subst hn
  have hl := h.len
  go_enter Tryz.func182, Tryz.ntmps182
  go_wp2
  go_loop [3] (fun i => ∃ k : Nat, k ≤ l.length ∧ i = .int .i64 (k : Int) ∧ (∀ j, k ≤ j → nth l j = 0)) (fun i => (intOf i).toNat)
  case atStart => exact ⟨l.length, Nat.le_refl _, rfl, fun j hj => nth_ge l hj⟩
  case round =>
    obtain ⟨k, hk, rfl, hz⟩ := hrel
    have HZ := Lib.hid hz
    clear hz
    by_cases hk0 : k = 0
    · subst hk0
      have E := Lib.hid (trim_end h.sm 0 hk HZ.out (.inl rfl))
      go_wp2
      go_returns
      have e0 : val l = 0 := by
        have := E.out.1
        rw [List.take_zero, limbs_eq_nil] at this; exact this
      exact ⟨none, .inr rfl, fun _ => e0, by rw [E.out.2], (Below.refl _ _).alloc (Nat.le_refl _) _⟩
    · obtain ⟨k, rfl⟩ : ∃ j, k = j + 1 := ⟨k - 1, by omega⟩
      obtain ⟨b, o, rfl, hc1⟩ := h.open_ (by omega)
      have hc2 := hc1 k (by omega)
      have hbs : b < w.heap.size := cell_lt hc2
      clear hc1
      by_cases h3 : nth l k = 0
      · rw [h3] at hc2
        have E : Hid (∀ j, k ≤ j → nth l j = 0) := fun j hj => by
          rcases Nat.lt_or_ge k j with h4 | h4
          · exact HZ.out j h4
          · have : j = k := by omega
            rw [this]; exact h3
        clear h3
        go_wp2
        go_round
        case rel => exact ⟨k, by omega, by go_num, E.out⟩
        case measure => first | (simp [intOf]; done) | (simp [intOf]; omega)
      · have E := Lib.hid (trim_end h.sm (k + 1) hk HZ.out (.inr h3))
        have h3' : (((nth l k : Nat) : Int) == 0) = false := by simp; exact h3
        have h5 : (((k : Int) + 1) == 0) = false := by simp; omega
        clear h3
        go_wp2
        go_returns
        exact ⟨_, .inl rfl, fun hh => (by cases hh), by rw [E.out.2], (Below.refl _ _).alloc (Nat.le_refl _) _⟩

end Go.Proofs.YtenekbfnlbipiaaGreatDoor
