/- Walks: nat.Pow. -/
import Derived.Test.YtenekbfnlbipiaaDoorM
import Derived.Test.YtenekbfnlbipiaaDoorPl2
namespace Go.Proofs.YtenekbfnlbipiaaDoor
open Go.RowKit
set_option linter.unusedVariables false
set_option linter.unusedSimpArgs false
set_option maxHeartbeats 4000000
set_option maxRecDepth 100000

theorem Own.setT {w : World} {B c : Nat} {t t' : TypeId} {A : Option Addr} {l : List Nat} {cs : Array Value} (h : Own w t B A c l) {p : Addr} (hb : Blk w p.block t' cs) (hne : t ≠ t') (u : Value) : Own (w.setCell p u) t B A c l := by
  refine ⟨h.1, h.2.1, ?_⟩
  rcases h.2.2 with h | ⟨g', cur, e, hg, hk, r⟩
  · exact .inl h
  · refine .inr ⟨g', cur, e, hg, hk.far ?_ u, r⟩
    intro e'
    unfold Blk at hk hb
    rw [e', hb] at hk
    injection hk with hk; injection hk with _ hk
    exact hne hk.symm

theorem and_one (k : Nat) (hk : k < 9223372036854775808) : bits BinOp.and IntKind.i64 (k : Int) 1 = ((k % 2 : Nat) : Int) := by
  have h1 : ∀ a : Nat, a < 9223372036854775808 → (BitVec.ofInt 64 (a : Int)).toNat = a := fun a ha => by
    rw [BitVec.ofInt_natCast, BitVec.toNat_ofNat]; exact Nat.mod_eq_of_lt (by omega)
  show IntKind.i64.wrap ((BitVec.ofInt 64 (k : Int) &&& BitVec.ofInt 64 ((1 : Nat) : Int)).toNat : Int) = _
  rw [BitVec.toNat_and, h1 k hk, h1 1 (by decide), IntKind.wrap_i64, Nat.and_one_is_mod]
  omega
theorem par_odd {k : Nat} (hk : k ≤ 524288) (h : k % 2 = 1) : (bits BinOp.and IntKind.i64 (k : Int) 1 == 1) = true := by
  rw [and_one k (by omega), h]; rfl
theorem par_even {k : Nat} (hk : k ≤ 524288) (h : k % 2 = 0) : (bits BinOp.and IntKind.i64 (k : Int) 1 == 1) = false := by
  rw [and_one k (by omega), h]; rfl
theorem Blk.set0 {w : World} {g : Nat} {t : TypeId} {u0 : Value} (h : Blk w g t #[u0]) (u : Value) : Blk (w.setCell ⟨g, 0, none⟩ u) g t #[u] := by
  have := h.set_ 0 u
  simpa using this
theorem Blk.cell0 {w : World} {g : Nat} {t : TypeId} {u0 : Value} (h : Blk w g t #[u0]) : w.cell? ⟨g, 0, none⟩ = some u0 := by
  have := h.cell 0
  simpa using this
theorem limbs_len1 {n : Nat} (h : n < 4294967296) : (limbs n).length ≤ 1 := by rw [length_limbs_le]; exact h
/-- The relation of Pow's loop: out times square to the power of what is left. -/
def PowRel (N B g6 g7 : Nat) (w : World) (v1 : Value) (wr : World) : Prop :=
  ∃ (x y k : Nat) (A1 A2 : Option Addr) (c1 c2 : Nat), 1 ≤ k ∧ k ≤ 524288 ∧ v1 = .int .i64 (k : Int) ∧ 0 < x ∧ 0 < y ∧ x * y ^ k = N ∧ (limbs x).length ≤ 16384 ∧ (limbs y).length ≤ 16384 ∧
    Blk wr B 56 #[.slice none 0 0] ∧ Blk wr g6 56 #[.slice A1 (limbs x).length c1] ∧ Blk wr g7 56 #[.slice A2 (limbs y).length c2] ∧
    Own wr 90 B A1 c1 (limbs x) ∧ Own wr 90 B A2 c2 (limbs y) ∧ Below B w wr

end Go.Proofs.YtenekbfnlbipiaaDoor
