/- Plain laws: products and powers of numbers as limbs. No program here. -/
import Derived.Test.YtenekbfnlbipiaaDoorPlain
import Derived.Laws.MathBits
import Derived.WalkKit
import Derived.WalkSpells
import Derived.Lib.Hide
import Derived.Deep.Draws
namespace Go.Proofs.YtenekbfnlbipiaaDoor
open Go.RowKit
set_option linter.unusedVariables false
set_option linter.unusedSimpArgs false
set_option maxHeartbeats 4000000
set_option maxRecDepth 100000

theorem limbs_mono {x y : Nat} (h : x ≤ y) : (limbs x).length ≤ (limbs y).length := by
  rw [length_limbs_le]
  have := val_lt (sm_limbs y)
  rw [val_limbs] at this
  omega
theorem limbs_low {x : Nat} (h : x ≠ 0) : 4294967296 ^ ((limbs x).length - 1) ≤ x := by
  have := val_pos_of_last (l := limbs x) (by rw [ne_eq, limbs_eq_nil]; exact h) (last_limbs x)
  rw [val_limbs] at this; exact this
theorem limbs_pos {x : Nat} (h : x ≠ 0) : 0 < (limbs x).length := List.length_pos_iff.2 (by rw [ne_eq, limbs_eq_nil]; exact h)
theorem limbs_mul_len {x y : Nat} (hx : x ≠ 0) (hy : y ≠ 0) : (limbs x).length + (limbs y).length ≤ (limbs (x * y)).length + 1 := by
  have h1 := limbs_low hx
  have h2 := limbs_low hy
  have p1 := limbs_pos hx
  have p2 := limbs_pos hy
  have h3 := Nat.mul_le_mul h1 h2
  rw [← Nat.pow_add] at h3
  rcases Nat.lt_or_ge ((limbs (x * y)).length + 1) ((limbs x).length + (limbs y).length) with h | h
  · exfalso
    have h4 : (limbs (x * y)).length ≤ (limbs x).length - 1 + ((limbs y).length - 1) := by omega
    rw [length_limbs_le] at h4
    omega
  · exact h
theorem limbs_mul_le (x y : Nat) : (limbs (x * y)).length ≤ (limbs x).length + (limbs y).length := by
  rw [length_limbs_le, Nat.pow_add]
  have h1 := val_lt (sm_limbs x)
  have h2 := val_lt (sm_limbs y)
  rw [val_limbs] at h1 h2
  exact Nat.mul_lt_mul'' h1 h2
theorem mulS_limbs {x y : Nat} (hx : (limbs x).length ≤ 16384) (hy : (limbs y).length ≤ 16384) : mulS (limbs x) (limbs y) = fitS (x * y) := by
  unfold mulS
  have h1 : chk2 (limbs x) (limbs y) = 0 := by unfold chk2; rw [if_pos (chk_limbs_of hx)]; exact chk_limbs_of hy
  rw [if_pos h1, val_limbs, val_limbs]
  by_cases h2 : 16385 < (limbs x).length + (limbs y).length
  · rw [if_pos h2]
    have hx0 : x ≠ 0 := by rintro rfl; simp [limbs_zero] at h2; omega
    have hy0 : y ≠ 0 := by rintro rfl; simp [limbs_zero] at h2; omega
    have := limbs_mul_len hx0 hy0
    unfold fitS
    rw [if_pos (by omega)]
  · rw [if_neg h2]
theorem fitS_ok {x : Nat} (h : (limbs x).length ≤ 16384) : fitS x = (limbs x, 0) := by unfold fitS; rw [if_neg (by omega)]
theorem fitS_many {x : Nat} (h : 16384 < (limbs x).length) : fitS x = ([], 4) := by unfold fitS; rw [if_pos h]
/-- A base to a power, or the fault. -/
def powS (b : Nat) (n : Int) : List Nat × Int :=
  if n < 0 then ([], 2) else if n = 0 then (limbs 1, 0) else if b < 2 then (limbs b, 0) else if 524288 < n then ([], 4) else fitS (b ^ n.toNat)
theorem le_of_pow {x y k N : Nat} (hx : 0 < x) (hy : 0 < y) (hk : 1 ≤ k) (h : x * y ^ k = N) : x * y ≤ N := by
  rw [← h]
  refine Nat.mul_le_mul_left _ ?_
  calc y = y ^ 1 := (Nat.pow_one y).symm
    _ ≤ y ^ k := Nat.pow_le_pow_right hy hk
theorem sq_le_of_pow {x y k N : Nat} (hx : 0 < x) (hy : 0 < y) (hk : 2 ≤ k) (h : x * y ^ k = N) : y * y ≤ N := by
  rw [← h]
  have h1 : y * y = y ^ 2 := by rw [Nat.pow_two]
  have h2 : y ^ 2 ≤ y ^ k := Nat.pow_le_pow_right hy hk
  have h3 : 1 * y ^ k ≤ x * y ^ k := Nat.mul_le_mul_right _ hx
  omega
theorem pow_odd {x y k N : Nat} (hk : k % 2 = 1) (h : x * y ^ k = N) : (x * y) * (y * y) ^ (k / 2) = N := by
  rw [← h, Nat.mul_assoc]
  congr 1
  have e : k = 2 * (k / 2) + 1 := by omega
  conv => rhs; rw [e, Nat.pow_succ, Nat.pow_mul, Nat.pow_two]
  exact Nat.mul_comm _ _
theorem pow_even {x y k N : Nat} (hk : k % 2 = 0) (h : x * y ^ k = N) : x * (y * y) ^ (k / 2) = N := by
  rw [← h]
  congr 1
  have e : k = 2 * (k / 2) := by omega
  conv => rhs; rw [e, Nat.pow_mul, Nat.pow_two]
end Go.Proofs.YtenekbfnlbipiaaDoor
namespace Go.Proofs.YtenekbfnlbipiaaDoor
open Go.RowKit
set_option linter.unusedVariables false
set_option linter.unusedSimpArgs false
set_option maxHeartbeats 4000000
set_option maxRecDepth 100000

/-- How many bits 5 to the power of |k| has. -/
def tS (k : Int) : Nat := bitLen (5 ^ k.natAbs)
/-- The 128 bits. -/
def tenN (k : Int) : Nat := if k < 0 then 2 ^ (tS k + 127) / 5 ^ k.natAbs else if tS k ≤ 128 then 5 ^ k.natAbs * 2 ^ (128 - tS k) else 5 ^ k.natAbs / 2 ^ (tS k - 128)
def tenE (k : Int) : Int := if k < 0 then k - ((tS k : Int) + 127) else k + (tS k : Int) - 128
def tenX (k : Int) : Bool := !decide (k < 0) && decide (tS k ≤ 128)
def farB (k : Int) : Bool := decide (k < -400) || decide (400 < k)
theorem bits_lo : ∀ j : Fin 401, 2 ^ 127 ≤ tenN (j.val : Int) ∧ tenN (j.val : Int) < 2 ^ 128 ∧ 2 ^ 127 ≤ tenN (-((j.val + 1 : Nat) : Int)) ∧ tenN (-((j.val + 1 : Nat) : Int)) < 2 ^ 128 ∧ tS (j.val : Int) ≤ 930 := by decide +kernel
theorem tS_neg (j : Nat) : tS (-(j : Int)) = tS (j : Int) := by unfold tS; rw [Int.natAbs_neg]
theorem ten_cases {k : Int} (h : farB k = false) : (∃ j : Nat, j ≤ 400 ∧ k = (j : Int)) ∨ ∃ j : Nat, 1 ≤ j ∧ j ≤ 400 ∧ k = -(j : Int) := by
  simp only [farB, Bool.or_eq_false_iff, decide_eq_false_iff_not] at h
  by_cases h0 : 0 ≤ k
  · exact .inl ⟨k.toNat, by omega, by omega⟩
  · exact .inr ⟨(-k).toNat, by omega, by omega, by omega⟩
theorem tenN_bd {k : Int} (h : farB k = false) : 2 ^ 127 ≤ tenN k ∧ tenN k < 2 ^ 128 := by
  rcases ten_cases h with ⟨j, hj, rfl⟩ | ⟨j, h1, hj, rfl⟩
  · have := bits_lo ⟨j, by omega⟩
    exact ⟨this.1, this.2.1⟩
  · have := bits_lo ⟨j - 1, by omega⟩
    simp only at this
    rw [show j - 1 + 1 = j by omega] at this
    exact ⟨this.2.2.1, this.2.2.2.1⟩
theorem tS_le {k : Int} (h : farB k = false) : tS k ≤ 930 := by
  rcases ten_cases h with ⟨j, hj, rfl⟩ | ⟨j, h1, hj, rfl⟩
  · exact (bits_lo ⟨j, by omega⟩).2.2.2.2
  · rw [tS_neg]; exact (bits_lo ⟨j, by omega⟩).2.2.2.2
/-! ### the document's way -/
theorem ref_neg : ∀ j : Fin 401, 2 ^ (bitLen (10 ^ j.val) + 127) / 10 ^ j.val = 2 ^ (bitLen (5 ^ j.val) + 127) / 5 ^ j.val ∧ bitLen (10 ^ j.val) = bitLen (5 ^ j.val) + j.val := by decide +kernel
theorem ref_low : ∀ j : Fin 401, bitLen (10 ^ j.val) ≤ 128 → 10 ^ j.val * 2 ^ (128 - bitLen (10 ^ j.val)) = tenN (j.val : Int) ∧ tenX (j.val : Int) = true := by decide +kernel
theorem ref_high : ∀ j : Fin 401, ¬ bitLen (10 ^ j.val) ≤ 128 → 10 ^ j.val / 2 ^ (bitLen (10 ^ j.val) - 128) = tenN (j.val : Int) ∧ tenX (j.val : Int) = decide (10 ^ j.val / 2 ^ (bitLen (10 ^ j.val) - 128) * 2 ^ (bitLen (10 ^ j.val) - 128) = 10 ^ j.val) := by decide +kernel
theorem len10 : ∀ j : Fin 401, 10 ^ j.val < 4294967296 ^ 42 := by decide +kernel
theorem len5 : ∀ j : Fin 401, 5 ^ j.val < 4294967296 ^ 30 := by decide +kernel
theorem bl10 : ∀ j : Fin 401, bitLen (10 ^ j.val) ≤ 1330 := by decide +kernel
end Go.Proofs.YtenekbfnlbipiaaDoor
namespace Go.Proofs.YtenekbfnlbipiaaDoor
open Go.RowKit
set_option linter.unusedVariables false
set_option linter.unusedSimpArgs false

theorem below_cell {B : Nat} {W w1 : World} (hb : Below B W w1) {b o : Nat} (h : b < B) : w1.cell? ⟨b, o, none⟩ = W.cell? ⟨b, o, none⟩ := hb.cell (p := ⟨b, o, none⟩) h
theorem below_frozen {B : Nat} {W w1 : World} (hb : Below B W w1) {b o : Nat} (h : b < B) : w1.frozen? ⟨b, o, none⟩ = W.frozen? ⟨b, o, none⟩ := hb.frozen (p := ⟨b, o, none⟩) h
theorem bcell {W w1 : World} (hb : Below W.heap.size W w1) : (∀ b o, b < W.heap.size → w1.cell? ⟨b, o, none⟩ = W.cell? ⟨b, o, none⟩) ∧ (∀ b o, b < W.heap.size → w1.frozen? ⟨b, o, none⟩ = W.frozen? ⟨b, o, none⟩) :=
  ⟨fun b o h => hb.cell (p := ⟨b, o, none⟩) h, fun b o h => hb.frozen (p := ⟨b, o, none⟩) h⟩
theorem cell_lt {w : World} {a : Addr} {v : Value} (h : w.cell? a = some v) : a.block < w.heap.size := by
  unfold World.cell? at h
  rcases Nat.lt_or_ge a.block w.heap.size with hlt | hge
  · exact hlt
  · rw [Array.getElem?_eq_none hge] at h; cases h

/-- A slice of limbs, at address A, reads as the list l. -/
def Rd (w : World) (A : Option Addr) (l : List Nat) : Prop :=
  Sm l ∧ l.length ≤ 35184372088960 ∧ (0 < l.length → ∃ b off, A = some ⟨b, off, none⟩ ∧ ∀ j, j < l.length → w.cell? ⟨b, off + j, none⟩ = some (.int .u32 ((nth l j : Nat) : Int)))
theorem Rd.sm {w : World} {A : Option Addr} {l : List Nat} (h : Rd w A l) : Sm l := h.1
theorem Rd.len {w : World} {A : Option Addr} {l : List Nat} (h : Rd w A l) : l.length ≤ 35184372088960 := h.2.1
theorem Rd.nil (w : World) (A : Option Addr) : Rd w A [] := ⟨Sm.nil, by simp, fun h => absurd h (by simp)⟩
theorem Rd.keep {w w' : World} {A : Option Addr} {l : List Nat} (h : Rd w A l) (hk : ∀ p : Addr, p.block < w.heap.size → w'.cell? p = w.cell? p) : Rd w' A l :=
  ⟨h.1, h.2.1, fun hn => by
    obtain ⟨b, off, e, hc⟩ := h.2.2 hn
    exact ⟨b, off, e, fun j hj => (hk _ (cell_lt (hc j hj))).trans (hc j hj)⟩⟩
theorem Rd.below {w w' : World} {A : Option Addr} {l : List Nat} (h : Rd w A l) (hb : Below w.heap.size w w') : Rd w' A l := h.keep fun _ hp => hb.cell hp
theorem Rd.alloc {w : World} {A : Option Addr} {l : List Nat} (h : Rd w A l) (o : Obj) : Rd (w.alloc o) A l := h.keep fun p hp => World.cell?_alloc_lt w o p hp
theorem Rd.drew {w : World} {A : Option Addr} {l : List Nat} (h : Rd w A l) : Rd w.drew A l := h
theorem Rd.drewN {w : World} {A : Option Addr} {l : List Nat} (h : Rd w A l) (n : Nat) : Rd (w.drewN n) A l := h
/-- Where there is a limb: the address written out, and each cell. -/
theorem Rd.open_ {w : World} {A : Option Addr} {l : List Nat} (h : Rd w A l) (hn : 0 < l.length) : ∃ b off, A = some ⟨b, off, none⟩ ∧ ∀ j, j < l.length → w.cell? ⟨b, off + j, none⟩ = some (.int .u32 ((nth l j : Nat) : Int)) := h.2.2 hn

/-- A block that is known whole. -/
def Blk (w : World) (g : Nat) (t : TypeId) (cs : Array Value) : Prop := w.heap[g]? = some (.cells cs t (0, 0))
section
variable {w w' : World} {g : Nat} {t : TypeId} {cs : Array Value}
theorem Blk.lt (h : Blk w g t cs) : g < w.heap.size := (Array.getElem?_eq_some_iff.1 h).1
theorem Blk.cell (h : Blk w g t cs) (i : Nat) : w.cell? ⟨g, i, none⟩ = cs[i]? := cell_of_row w g i cs t (0, 0) h
theorem Blk.frozen (h : Blk w g t cs) (i : Nat) : w.frozen? ⟨g, i, none⟩ = false := by
  unfold Blk at h; simp [World.frozen?, h]
theorem Blk.new (w : World) (t : TypeId) (cs : Array Value) : Blk (w.alloc (.cells cs t)) w.heap.size t cs := heap_alloc_new w _
theorem Blk.drew (h : Blk w g t cs) : Blk w.drew g t cs := h
theorem Blk.drewN (h : Blk w g t cs) (n : Nat) : Blk (w.drewN n) g t cs := h
theorem Blk.alloc (h : Blk w g t cs) (o : Obj) : Blk (w.alloc o) g t cs := (Below.heap_alloc w o g h.lt).trans h
theorem Blk.set_ (h : Blk w g t cs) (i : Nat) (u : Value) : Blk (w.setCell ⟨g, i, none⟩ u) g t (cs.setIfInBounds i u) := by
  unfold Blk at h ⊢; simp [World.setCell, Array.getElem?_modify, h]
theorem Blk.far (h : Blk w g t cs) {p : Addr} (hp : g ≠ p.block) (u : Value) : Blk (w.setCell p u) g t cs := (Below.heap_setCell w p u g hp).trans h
theorem Blk.below {B : Nat} (h : Blk w g t cs) (hb : Below B w w') (hg : g < B) : Blk w' g t cs := (hb.block g hg).trans h
end

/-- Limbs as cells. -/
def c32 (l : List Nat) : Array Value := (l.map fun x : Nat => Value.int .u32 (x : Int)).toArray
theorem c32_size (l : List Nat) : (c32 l).size = l.length := by simp [c32]
theorem c32_get (l : List Nat) (i : Nat) (h : i < l.length) : (c32 l)[i]? = some (.int .u32 ((nth l i : Nat) : Int)) := by
  rw [nth_lt l h]; simp [c32, h]
theorem c32_set (l : List Nat) (i x : Nat) : (c32 l).setIfInBounds i (.int .u32 (x : Int)) = c32 (l.set i x) := by
  simp [c32, List.map_set]

/-- A row of limbs of the call's own: block g (of element type t) holds just the limbs l. -/
def Row (w : World) (t : TypeId) (g : Nat) (l : List Nat) : Prop := Blk w g t (c32 l)
section
variable {w w' : World} {g : Nat} {t : TypeId} {l : List Nat}
theorem Row.lt (h : Row w t g l) : g < w.heap.size := Blk.lt h
theorem Row.cell (h : Row w t g l) (i : Nat) (hi : i < l.length) : w.cell? ⟨g, i, none⟩ = some (.int .u32 ((nth l i : Nat) : Int)) := (Blk.cell h i).trans (c32_get l i hi)
theorem Row.frozen (h : Row w t g l) (i : Nat) : w.frozen? ⟨g, i, none⟩ = false := Blk.frozen h i
theorem Row.set_ (h : Row w t g l) (i x : Nat) : Row (w.setCell ⟨g, i, none⟩ (.int .u32 (x : Int))) t g (l.set i x) := by
  unfold Row; rw [← c32_set]; exact Blk.set_ h i _
theorem Row.alloc (h : Row w t g l) (o : Obj) : Row (w.alloc o) t g l := Blk.alloc h o
theorem Row.drew (h : Row w t g l) : Row w.drew t g l := h
theorem Row.below {B : Nat} (h : Row w t g l) (hb : Below B w w') (hg : g < B) : Row w' t g l := Blk.below h hb hg
theorem Row.rd (h : Row w t g l) (hs : Sm l) (hl : l.length ≤ 35184372088960) (i n : Nat) (hn : i + n ≤ l.length) (A : Option Addr) (hA : A = some ⟨g, i, none⟩) : Rd w A ((l.drop i).take n) := by
  have hlen : ((l.drop i).take n).length = n := by simp; omega
  refine ⟨(hs.drop i).take n, by omega, fun _ => ⟨g, i, hA, fun j hj => ?_⟩⟩
  rw [hlen] at hj
  rw [h.cell (i + j) (by omega)]
  have : nth ((l.drop i).take n) j = nth l (i + j) := by
    rw [nth_lt _ (by rw [hlen]; exact hj), nth_lt _ (by omega)]; simp
  rw [this]
end

/-- An answer in memory of its own: a slice (A, cap c) of the limbs l: nil, or in a block from B on, not frozen, of element type t. -/
def Own (w : World) (t : TypeId) (B : Nat) (A : Option Addr) (c : Nat) (l : List Nat) : Prop :=
  Sm l ∧ l.length ≤ 35184372088960 ∧ ((A = none ∧ l = [] ∧ c = 0) ∨
    ∃ g cur, A = some ⟨g, 0, none⟩ ∧ B ≤ g ∧ Blk w g t cur ∧ l.length ≤ c ∧ c ≤ cur.size ∧ ∀ j, j < l.length → cur[j]? = some (.int .u32 ((nth l j : Nat) : Int)))
section
variable {w w' : World} {B c : Nat} {t : TypeId} {A : Option Addr} {l : List Nat}
theorem Own.sm (h : Own w t B A c l) : Sm l := h.1
theorem Own.nil (w : World) (t : TypeId) (B : Nat) : Own w t B none 0 [] := ⟨Sm.nil, by simp, .inl ⟨rfl, rfl, rfl⟩⟩
theorem Own.rd (h : Own w t B A c l) : Rd w A l := by
  refine ⟨h.1, h.2.1, fun hn => ?_⟩
  rcases h.2.2 with ⟨_, rfl, _⟩ | ⟨g, cur, rfl, _, hb, _, _, hc⟩
  · simp at hn
  · exact ⟨g, 0, rfl, fun j hj => by rw [hb.cell]; simpa using hc j hj⟩
theorem Own.below {B' : Nat} (h : Own w t B A c l) (hb : Below B' w w') (hB : w.heap.size ≤ B') : Own w' t B A c l := by
  refine ⟨h.1, h.2.1, ?_⟩
  rcases h.2.2 with h | ⟨g, cur, e, hg, hk, r⟩
  · exact .inl h
  · exact .inr ⟨g, cur, e, hg, hk.below hb (Nat.lt_of_lt_of_le hk.lt hB), r⟩
theorem Own.alloc (h : Own w t B A c l) (o : Obj) : Own (w.alloc o) t B A c l := by
  refine ⟨h.1, h.2.1, ?_⟩
  rcases h.2.2 with h | ⟨g, cur, e, hg, hk, r⟩
  · exact .inl h
  · exact .inr ⟨g, cur, e, hg, hk.alloc o, r⟩
theorem Own.mono {B' : Nat} (h : Own w t B A c l) (hB : B' ≤ B) : Own w t B' A c l := by
  refine ⟨h.1, h.2.1, ?_⟩
  rcases h.2.2 with h | ⟨g, cur, e, hg, r⟩
  · exact .inl h
  · exact .inr ⟨g, cur, e, Nat.le_trans hB hg, r⟩
theorem Own.block (h : Own w t B A c l) {g : Nat} (hg : A.map (·.block) = some g) : B ≤ g ∧ g < w.heap.size := by
  rcases h.2.2 with ⟨rfl, _⟩ | ⟨g', cur, rfl, hB, hk, _⟩
  · simp at hg
  · simp at hg; subst hg; exact ⟨hB, hk.lt⟩
/-- The first n of a row: cut with whatever capacity. -/
theorem Row.own {g : Nat} (h : Row w t g l) (hs : Sm l) (hl : l.length ≤ 35184372088960) (hB : B ≤ g) (n : Nat) (hn : n ≤ c) (hc : c ≤ l.length) : Own w t B (some ⟨g, 0, none⟩) c (l.take n) := by
  refine ⟨hs.take n, by simp; omega, .inr ⟨g, c32 l, rfl, hB, h, by simp; omega, by rw [c32_size]; exact hc, fun j hj => ?_⟩⟩
  simp only [List.length_take] at hj
  rw [c32_get l j (by omega)]
  have : nth (l.take n) j = nth l j := by
    rw [nth_lt _ (by simp; omega), nth_lt _ (by omega)]; simp
  rw [this]
end

theorem Own.take {w : World} {B c : Nat} {t : TypeId} {A : Option Addr} {l : List Nat} (h : Own w t B A c l) (n : Nat) : Own w t B A c (l.take n) := by
  refine ⟨h.1.take n, by have := h.2.1; simp; omega, ?_⟩
  rcases h.2.2 with ⟨h1, h2, h3⟩ | ⟨g, cur, e, hg, hk, h1, h2, h3⟩
  · exact .inl ⟨h1, by rw [h2]; simp, h3⟩
  · refine .inr ⟨g, cur, e, hg, hk, by simp; omega, h2, fun j hj => ?_⟩
    simp only [List.length_take] at hj
    rw [h3 j (by omega)]
    have : nth (l.take n) j = nth l j := by
      rw [nth_lt _ (by simp; omega), nth_lt _ (by omega)]; simp
    rw [this]
theorem Own.trim {w : World} {B c : Nat} {t : TypeId} {A : Option Addr} {l : List Nat} (h : Own w t B A c l) : Own w t B A c (limbs (val l)) := by
  rw [limbs_prefix h.1]; exact h.take _
theorem ret_int {k : IntKind} {a b : Int} (h : a = b) : Ending.returned (.int k a) = .returned (.int k b) := by rw [h]
theorem ret_pair {k k' : IntKind} {a a' b b' : Int} (h : a = a') (h' : b = b') : Ending.returned (.tuple #[.int k a, .int k' b]) = .returned (.tuple #[.int k a', .int k' b']) := by rw [h, h']
theorem Own.setCell {w : World} {B c : Nat} {t : TypeId} {A : Option Addr} {l : List Nat} (h : Own w t B A c l) {p : Addr} (hp : p.block < B) (u : Value) : Own (w.setCell p u) t B A c l := by
  refine ⟨h.1, h.2.1, ?_⟩
  rcases h.2.2 with h | ⟨g, cur, e, hg, hk, r⟩
  · exact .inl h
  · exact .inr ⟨g, cur, e, hg, hk.far (by omega) u, r⟩
theorem Own.setNe {w : World} {B c : Nat} {t : TypeId} {A : Option Addr} {l : List Nat} {g : Nat} (h : Own w t B A c l) (hA : A = none ∨ A = some ⟨g, 0, none⟩) {p : Addr} (hp : g ≠ p.block) (u : Value) : Own (w.setCell p u) t B A c l := by
  refine ⟨h.1, h.2.1, ?_⟩
  rcases h.2.2 with h | ⟨g', cur, e, hg, hk, r⟩
  · exact .inl h
  · refine .inr ⟨g', cur, e, hg, hk.far ?_ u, r⟩
    rcases hA with hA | hA
    · rw [hA] at e; cases e
    · rw [hA] at e; injection e with e; injection e with e; rw [← e]; exact hp
theorem Own.drew {w : World} {B c : Nat} {t : TypeId} {A : Option Addr} {l : List Nat} (h : Own w t B A c l) : Own w.drew t B A c l := h
theorem Own.drewN {w : World} {B c : Nat} {t : TypeId} {A : Option Addr} {l : List Nat} (h : Own w t B A c l) (n : Nat) : Own (w.drewN n) t B A c l := h
theorem Rd.setCell {w : World} {A : Option Addr} {l : List Nat} (h : Rd w A l) {p : Addr} (hp : ∀ a, A = some a → a.block ≠ p.block) (u : Value) : Rd (w.setCell p u) A l :=
  ⟨h.1, h.2.1, fun hn => by
    obtain ⟨b, off, e, hc⟩ := h.2.2 hn
    refine ⟨b, off, e, fun j hj => ?_⟩
    rw [World.cell?_setCell_other w p _ u (fun e' => hp _ e (by rw [e']))]
    exact hc j hj⟩
theorem Row.far {w : World} {t : TypeId} {g : Nat} {l : List Nat} (h : Row w t g l) {p : Addr} (hp : g ≠ p.block) (u : Value) : Row (w.setCell p u) t g l := Blk.far h hp u
theorem Row.rd0 {w : World} {t : TypeId} {g : Nat} {l : List Nat} (h : Row w t g l) (hs : Sm l) (hl : l.length ≤ 35184372088960) : Rd w (some ⟨g, 0, none⟩) l :=
  ⟨hs, hl, fun _ => ⟨g, 0, rfl, fun j hj => by rw [h.cell (0 + j) (by omega), Nat.zero_add]⟩⟩
theorem row_new {w : World} {t : TypeId} {g : Nat} {cs : Array Value} {l : List Nat} (hc : cs = c32 l) (hg : g = w.heap.size) : Row (w.alloc (.cells cs t)) t g l := by
  subst hc hg; exact Blk.new w t _
theorem Row.setE {w : World} {t : TypeId} {g : Nat} {l : List Nat} (h : Row w t g l) (i x : Nat) {E : Int} (hE : E = (x : Int)) : Row (w.setCell ⟨g, i, none⟩ (.int .u32 E)) t g (l.set i x) := by
  rw [hE]; exact h.set_ i x
theorem vi {k : IntKind} {a b : Int} (h : a = b) : Value.int k a = Value.int k b := by rw [h]
/-- make of limbs. -/
theorem run_make32 {P : Program} (t e : TypeId) (i : TypeInfo) (ht : P.underlying t = some (.slice e)) (hi : P.info? e = some i) (hz : i.zero = some (.int .u32 0)) (hs : i.size = 1) (hb : i.bytes = 4)
    (n : Nat) (N : Int) (hN : N = (n : Int)) (hn : n ≤ 70368744177664) (w : World) :
    (Instr.makeSlice t (.int .i64 N) (.int .i64 N)).run P w = .ok (.slice (some ⟨w.heap.size, 0, none⟩) n n) (w.alloc (.cells (c32 (List.replicate n 0)) e)) := by
  have hr := run_make (P := P) w t e i _ ht hi hz .i64 .i64 N N (by omega) (by omega) (by rw [hb]; omega) (by omega)
  rw [hr, hs, hN]
  have hc : madeCells (Value.int .u32 0).cells (n * 1) = c32 (List.replicate n 0) := by
    apply Array.ext
    · simp [madeCells, c32]
    · intro j h1 h2
      simp [madeCells, c32, Value.cells, Nat.mod_one]
  simp only [Int.toNat_natCast, hc]

/-- What a function answers that makes a number: the number in memory of its own, its error; nothing that was there has turned. -/
def NatAns (t : TypeId) (w : World) (r : List Nat × Int) (e : Ending) (w' : World) : Prop :=
  ∃ A c, e = .returned (.tuple #[.agg #[.slice A r.1.length c], .int .i64 r.2]) ∧ Own w' t w.heap.size A c r.1 ∧ Below w.heap.size w w'
/-- The same of a function that answers a number alone. -/
def NatOne (t : TypeId) (w : World) (l : List Nat) (e : Ending) (w' : World) : Prop :=
  ∃ A c, e = .returned (.agg #[.slice A l.length c]) ∧ Own w' t w.heap.size A c l ∧ Below w.heap.size w w'
/-- A list of the call's own, of which is said P, alone in its block. -/
def RowSome (t : TypeId) (w : World) (P : List Nat → Prop) (e : Ending) (w' : World) : Prop :=
  ∃ o g, P o ∧ Sm o ∧ w.heap.size ≤ g ∧ Row w' t g o ∧ e = .returned (.slice (some ⟨g, 0, none⟩) o.length o.length) ∧ Below w.heap.size w w'
/-- The same of a list. -/
def ListOne (t : TypeId) (w : World) (l : List Nat) (e : Ending) (w' : World) : Prop :=
  ∃ A c, e = .returned (.slice A l.length c) ∧ Own w' t w.heap.size A c l ∧ Below w.heap.size w w'
/-- What a function answers that makes nothing: a value; nothing that was there has turned. -/
def Says (w : World) (v : Value) (e : Ending) (w' : World) : Prop := e = .returned v ∧ Below w.heap.size w w'
end Go.Proofs.YtenekbfnlbipiaaDoor
