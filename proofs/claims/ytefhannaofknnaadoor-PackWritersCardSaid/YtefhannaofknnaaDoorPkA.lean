/- Walks of the pack layer: bits put behind and taken out. -/
import Derived.Test.YtefhannaofknnaaDoorPkF
import Derived.Test.YtefhannaofknnaaDoorPkS
import Derived.Test.YtefhannaofknnaaDoorPs
import Derived.StillTailTactics
namespace Go.Proofs.YtefhannaofknnaaDoor
open Go.RowKit
set_option linter.unusedVariables false
set_option linter.unusedSimpArgs false
set_option maxHeartbeats 4000000
set_option maxRecDepth 100000

theorem infoP {P : Program} {e : TypeId} {z : Option Value} {s b : Nat} (h : (P.info? e).map (fun i => (i.zero, i.size, i.bytes)) = some (z, s, b)) : ∃ i, P.info? e = some i ∧ i.zero = z ∧ i.size = s ∧ i.bytes = b := by
  cases hi : P.info? e with
  | none => rw [hi] at h; cases h
  | some i =>
    rw [hi] at h
    injection h with h
    injection h with h1 h2
    injection h2 with h2 h3
    exact ⟨i, rfl, h1, h2, h3⟩
theorem elem8 : ElemOf Tryd.prog 53 5 .u8 := by
  obtain ⟨i, hi, hz, hs, hb⟩ := infoP (P := Tryd.prog) (e := 5) (z := some (.int .u8 0)) (s := 1) (b := 1) (by kernel_rfl)
  exact ⟨by kernel_rfl, i, 1, hi, hz, hs, hb, by decide⟩
theorem or_byte : ∀ (x : Fin 256) (r : Fin 8) (b : Fin 2), x.val % 2 ^ (8 - r.val) = 0 → bits BinOp.or IntKind.u8 (x.val : Int) (((b.val * 2 ^ (7 - r.val) : Nat)) : Int) = ((x.val + b.val * 2 ^ (7 - r.val) : Nat) : Int) := by decide +kernel
theorem w64_nat (q : Nat) (h : q ≤ 1000000000000) : wrap64 (q : Int) = (q : Int) := by unfold wrap64; omega
theorem meas_down (i : Nat) : (intOf (Value.int .i64 ((i : Int) - 1)) + 1).toNat < (intOf (Value.int .i64 (i : Int)) + 1).toNat := by simp [intOf]
theorem and_one (x : Nat) (h : x < 18446744073709551616) : bits BinOp.and IntKind.u64 (x : Int) 1 = ((x % 2 : Nat) : Int) := by
  have := bits_and_u64_nat x 1 h (by decide)
  rw [show ((1 : Nat) : Int) = 1 from rfl] at this
  rw [this, Nat.and_one_is_mod]
theorem shr_bit (n i b : Nat) (hn : n < 18446744073709551616) (hb : b = n / 2 ^ i % 2) : bits BinOp.and IntKind.u64 ((n : Int) / 2 ^ i) 1 = (b : Int) := by
  have h1 : ((n : Int) / 2 ^ i) = ((n / 2 ^ i : Nat) : Int) := by simp
  rw [h1, and_one _ (Nat.lt_of_le_of_lt (Nat.div_le_self _ _) hn), hb]
theorem shl_bit (P : Program) (b r : Nat) (hb : b < 2) (hr : r < 8) (W : World) : (Op.shift BinOp.shl IntKind.u8 (IntKind.u8.wrap (b : Int)) IntKind.i64 (IntKind.i64.wrap (IntKind.i64.wrap 7 - (r : Int)))).run P W = .ok (.int .u8 ((b * 2 ^ (7 - r) : Nat) : Int)) W := by
  rcases (show b = 0 ∨ b = 1 by omega) with rfl | rfl <;> rcases (show r = 0 ∨ r = 1 ∨ r = 2 ∨ r = 3 ∨ r = 4 ∨ r = 5 ∨ r = 6 ∨ r = 7 by omega) with rfl | rfl | rfl | rfl | rfl | rfl | rfl | rfl <;> rfl
/-- The last byte's low bits are free. -/
theorem byte_free {bs : List Nat} (hb : Bs bs) (h : bs.length % 8 ≠ 0) : nth (by8 bs) (bs.length / 8) < 256 ∧ nth (by8 bs) (bs.length / 8) % 2 ^ (8 - bs.length % 8) = 0 := by
  have hl : bs.length / 8 < (bs.length + 7) / 8 := by omega
  rw [nth_by8 _ _ hl]
  refine ⟨byteAt_lt hb _, ?_⟩
  have z : ∀ j, bs.length ≤ j → nth bs j = 0 := fun j hj => nth_ge _ hj
  have hq := Nat.div_add_mod bs.length 8
  have hr := Nat.mod_lt bs.length (show 8 > 0 by decide)
  unfold byteAt
  generalize bs.length / 8 = q at *
  generalize bs.length % 8 = r at *
  rcases (show r = 1 ∨ r = 2 ∨ r = 3 ∨ r = 4 ∨ r = 5 ∨ r = 6 ∨ r = 7 by omega) with rfl | rfl | rfl | rfl | rfl | rfl | rfl
  · rw [z (8 * q + 1) (by omega), z (8 * q + 2) (by omega), z (8 * q + 3) (by omega), z (8 * q + 4) (by omega), z (8 * q + 5) (by omega), z (8 * q + 6) (by omega), z (8 * q + 7) (by omega)]; simp <;> omega
  · rw [z (8 * q + 2) (by omega), z (8 * q + 3) (by omega), z (8 * q + 4) (by omega), z (8 * q + 5) (by omega), z (8 * q + 6) (by omega), z (8 * q + 7) (by omega)]; simp <;> omega
  · rw [z (8 * q + 3) (by omega), z (8 * q + 4) (by omega), z (8 * q + 5) (by omega), z (8 * q + 6) (by omega), z (8 * q + 7) (by omega)]; simp <;> omega
  · rw [z (8 * q + 4) (by omega), z (8 * q + 5) (by omega), z (8 * q + 6) (by omega), z (8 * q + 7) (by omega)]; simp <;> omega
  · rw [z (8 * q + 5) (by omega), z (8 * q + 6) (by omega), z (8 * q + 7) (by omega)]; simp <;> omega
  · rw [z (8 * q + 6) (by omega), z (8 * q + 7) (by omega)]; simp <;> omega
  · rw [z (8 * q + 7) (by omega)]; simp <;> omega
theorem OwnR.apart {w : World} {B p : Nat} {e t : TypeId} {k : IntKind} {v : Value} {l : List Nat} {cs : Array Value} (h : OwnR w B e k v l) (hb : Blk w p t cs) (ht : t ≠ e) : ∀ g, v.ownBlock = some g → g ≠ p := by
  intro g hg e'
  rcases h.form with ⟨e0, _⟩ | ⟨g', cap, cur, e0, _, hh, _⟩
  · rw [e0] at hg; simp [Value.ownBlock] at hg
  · rw [e0] at hg
    simp [Value.ownBlock] at hg
    subst hg e'
    unfold Blk at hb hh
    rw [hb] at hh
    injection hh with hh
    injection hh with _ hh
    exact ht hh
theorem OwnR.far {w : World} {B : Nat} {e : TypeId} {k : IntKind} {v : Value} {l : List Nat} (h : OwnR w B e k v l) {p : Addr} (hne : ∀ g, v.ownBlock = some g → g ≠ p.block) (u : Value) : OwnR (w.setCell p u) B e k v l := by
  refine World.ownsRow.kept h (row := some p.block) ⟨rfl, rfl, rfl, by simp, fun j hj hjn => Below.heap_setCell _ _ _ _ (by intro e; exact hjn (by rw [e]))⟩ ?_
  cases h' : v.ownBlock with
  | none => exact .inl rfl
  | some g' => exact .inr (by have := hne g' h'; simpa using this)
theorem set_back {cs : Array Value} {k : Nat} {v : Value} (h : cs[k]? = some v) : cs.setIfInBounds k v = cs := by
  apply Array.ext_getElem?
  intro i
  rw [Array.getElem?_setIfInBounds]
  by_cases e : k = i
  · subst e; rw [if_pos rfl, if_pos (Array.getElem?_eq_some_iff.1 h).1, h]
  · rw [if_neg e]
/-- The three cells of a sheet, in an object that is known whole. -/
structure Sht (w : World) (B p k : Nat) (t : TypeId) (cs : Array Value) (cv : Value) (bs : List Nat) : Prop where
  blk : Blk w p t cs
  c0 : cs[k]? = some cv
  c1 : cs[k + 1]? = some (.int .i64 8)
  c2 : cs[k + 2]? = some (.int .i64 ((bs.length : Nat) : Int))
  own : OwnR w B 5 .u8 cv (by8 bs)
  bits : Bs bs
section
variable {w w' : World} {B p k : Nat} {t : TypeId} {cs : Array Value} {cv : Value} {bs : List Nat}
theorem Sht.cell0 (h : Sht w B p k t cs cv bs) : w.cell? ⟨p, k, none⟩ = some cv := (h.blk.cell k).trans h.c0
theorem Sht.cell1 (h : Sht w B p k t cs cv bs) : w.cell? ⟨p, k + 1, none⟩ = some (.int .i64 8) := (h.blk.cell (k + 1)).trans h.c1
theorem Sht.cell2 (h : Sht w B p k t cs cv bs) : w.cell? ⟨p, k + 2, none⟩ = some (.int .i64 ((bs.length : Nat) : Int)) := (h.blk.cell (k + 2)).trans h.c2
theorem Sht.below (h : Sht w B p k t cs cv bs) (hb : Below w.heap.size w w') : Sht w' B p k t cs cv bs :=
  ⟨h.blk.below hb h.blk.lt, h.c0, h.c1, h.c2, h.own.below hb (Nat.le_refl _), h.bits⟩
end
/-- The object behind a put. -/
def shtPut (cs : Array Value) (k : Nat) (cv : Value) (n : Nat) : Array Value := (cs.setIfInBounds k cv).setIfInBounds (k + 2) (.int .i64 (n : Int))
theorem shtPut_same {cs : Array Value} {k : Nat} {cv : Value} {n : Nat} (h0 : cs[k]? = some cv) (h2 : cs[k + 2]? = some (.int .i64 (n : Int))) : shtPut cs k cv n = cs := by
  unfold shtPut
  apply Array.ext_getElem?
  intro i
  rw [Array.getElem?_setIfInBounds, Array.getElem?_setIfInBounds]
  have l0 := (Array.getElem?_eq_some_iff.1 h0).1
  have l2 := (Array.getElem?_eq_some_iff.1 h2).1
  by_cases e : k + 2 = i
  · subst e; rw [if_pos rfl, if_pos (by simpa using l2), h2]
  · rw [if_neg e]
    by_cases e' : k = i
    · subst e'; rw [if_pos rfl, if_pos l0, h0]
    · rw [if_neg e']
theorem shtPut_again {cs : Array Value} {k : Nat} {cv cv' : Value} {n n' : Nat} : shtPut (shtPut cs k cv n) k cv' n' = shtPut cs k cv' n' := by
  unfold shtPut
  apply Array.ext_getElem?
  intro i
  simp only [Array.getElem?_setIfInBounds, Array.size_setIfInBounds]
  by_cases h1 : k + 2 = i
  · simp [h1]
  · by_cases h2 : k = i
    · simp [h1, h2]
    · simp [h1, h2]
end Go.Proofs.YtefhannaofknnaaDoor
