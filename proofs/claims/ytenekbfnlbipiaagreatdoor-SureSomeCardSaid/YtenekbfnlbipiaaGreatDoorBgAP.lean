/- Layer 5's worth of any float, as a fraction; a float's fields without its sign. -/
import Derived.Test.YtenekbfnlbipiaaGreatDoorBgAL
namespace Go.Proofs.YtenekbfnlbipiaaGreatDoor
open Go.RowKit
set_option linter.unusedVariables false
set_option linter.unusedSimpArgs false
set_option maxHeartbeats 4000000
set_option maxRecDepth 100000
namespace Bg
def WorthA (w : World) (m : Nat) (q : Int) (e : Ending) (w' : World) : Prop :=
  ∃ z n d, e = .returned (.pointer (some ⟨z, 0, none⟩)) ∧ w.heap.size ≤ z ∧ Rt w' z n d ∧ Frac n d m q ∧ Below w.heap.size w w'
theorem ref05_Worth (E F b X Y S : Nat) (hE2 : 2 ≤ E) (hE : E ≤ 11) (hF1 : 1 ≤ F) (hF : F ≤ 52) (hb64 : b < 18446744073709551616) (hS0 : S = 2 ^ (E + F)) (hbS : b < S) (hX : X = b / 2 ^ F % 2 ^ E) (hY : Y = b % 2 ^ F) (hXm : X + 1 ≠ 2 ^ E) (hz : ¬ (X = 0 ∧ Y = 0)) (w : World) (hT : Tz w) :
    Calls Tryz.prog 19 #[.agg #[.int .i64 (E : Int), .int .i64 (F : Int)], .int .u64 (b : Int)] w (WorthA w (mF F X Y) (qF E F X)) := by
  obtain ⟨H, hH⟩ : ∃ H, H = 2 ^ (E - 1) := ⟨_, rfl⟩
  have hQ52 : 2 ^ F ≤ 4503599627370496 := Nat.pow_le_pow_right (n := 2) (by decide) hF
  have hQ0 : 0 < 2 ^ F := Nat.two_pow_pos F
  have hHle : H ≤ 1024 := by rw [hH]; exact Nat.le_trans (Nat.pow_le_pow_right (by decide) (by omega : E - 1 ≤ 10)) (by decide)
  have hH2 : 2 ≤ H := by rw [hH]; exact Nat.pow_le_pow_right (n := 2) (i := 1) (by decide) (by omega)
  have hEE : 2 ^ E = 2 * H := by rw [hH, ← Nat.pow_succ']; congr 1; omega
  have hYlt : Y < 2 ^ F := by rw [hY]; exact Nat.mod_lt _ hQ0
  have hXlt : X < 2 ^ E := by rw [hX]; exact Nat.mod_lt _ (Nat.two_pow_pos E)
  by_cases h0 : X = 0
  · have hY0 : Y ≠ 0 := fun h => hz ⟨h0, h⟩
    obtain ⟨k, hk⟩ : ∃ k, k + 2 = H + F := ⟨H + F - 2, by omega⟩
    obtain ⟨fr, ft⟩ := frac_neg (m := Y) (k := k) hY0 (by omega) (by omega)
    have e1 : mF F X Y = Y := by unfold mF; rw [if_pos h0]
    have e2 : qF E F X = -(k : Int) := by unfold qF; rw [if_pos h0, ← hH]; omega
    rw [e1, e2]
    refine (ref05_Worth_small E F b Y S H k hE2 hE hF1 hF hb64 hS0 hbS hH X hX hY h0 hk ft w hT).mono ?_
    rintro e w' ⟨z, rfl, hz', r, bl⟩
    exact ⟨z, _, _, rfl, hz', r, fr, bl⟩
  · have e1 : mF F X Y = Y + 2 ^ F := by unfold mF; rw [if_neg h0]
    have e2 : qF E F X = (X : Int) - ((H : Int) - 1) - (F : Int) := by unfold qF; rw [if_neg h0, ← hH]; omega
    rw [e1, e2]
    by_cases hq : 0 ≤ (X : Int) - ((H : Int) - 1) - (F : Int)
    · obtain ⟨k, hk⟩ : ∃ k : Nat, (k : Int) = (X : Int) - ((H : Int) - 1) - (F : Int) := ⟨_, Int.toNat_of_nonneg hq⟩
      obtain ⟨fr, ft⟩ := frac_pos (m := Y + 2 ^ F) (k := k) (by omega) (by omega) (by omega)
      rw [← hk]
      refine (ref05_Worth_pos E F b Y S H k hE2 hE hF1 hF hb64 hS0 hbS hH X hX hY h0 hk (by omega) ft w hT).mono ?_
      rintro e w' ⟨z, rfl, hz', r, bl⟩
      exact ⟨z, _, _, rfl, hz', r, fr, bl⟩
    · obtain ⟨k, hk⟩ : ∃ k : Nat, -(k : Int) = (X : Int) - ((H : Int) - 1) - (F : Int) := ⟨(-((X : Int) - ((H : Int) - 1) - (F : Int))).toNat, by omega⟩
      obtain ⟨fr, ft⟩ := frac_neg (m := Y + 2 ^ F) (k := k) (by omega) (by omega) (by omega)
      rw [← hk]
      refine (ref05_Worth_neg E F b Y S H k hE2 hE hF1 hF hb64 hS0 hbS hH X hX hY h0 hk (by omega) (by omega) ft w hT).mono ?_
      rintro e w' ⟨z, rfl, hz', r, bl⟩
      exact ⟨z, _, _, rfl, hz', r, fr, bl⟩
theorem split_facts {E F b X Y : Nat} {ng : Bool} (hb : b < 2 ^ (1 + E + F)) (hs : Fo.splitF E F b = (ng, X, Y)) :
    X = b / 2 ^ F % 2 ^ E ∧ Y = b % 2 ^ F ∧ ng = decide (2 ^ (E + F) ≤ b) ∧ X = b % 2 ^ (E + F) / 2 ^ F % 2 ^ E ∧ Y = b % 2 ^ (E + F) % 2 ^ F ∧ (b % 2 ^ (E + F) = 0 ↔ X = 0 ∧ Y = 0) := by
  unfold Fo.splitF at hs
  simp only [Prod.mk.injEq] at hs
  obtain ⟨h1, h2, h3⟩ := hs
  have e : 2 ^ (E + F) = 2 ^ F * 2 ^ E := by rw [Nat.add_comm, Nat.pow_add]
  have hd : b % 2 ^ (E + F) / 2 ^ F = b / 2 ^ F % 2 ^ E := by rw [e, Nat.mod_mul_right_div_self]
  have hm : b % 2 ^ (E + F) % 2 ^ F = b % 2 ^ F := by rw [e, Nat.mod_mul_right_mod]
  have hb2 : b < 2 * 2 ^ (E + F) := by
    have : 2 ^ (1 + E + F) = 2 * 2 ^ (E + F) := by rw [Nat.add_assoc, Nat.pow_add]
    omega
  refine ⟨h2.symm, h3.symm, ?_, by rw [hd, Nat.mod_mod]; exact h2.symm, by rw [hm]; exact h3.symm, ?_⟩
  · rw [← h1, Nat.add_comm F E]
    have hp := Nat.two_pow_pos (E + F)
    by_cases h : 2 ^ (E + F) ≤ b
    · have : b / 2 ^ (E + F) = 1 := by
        rw [Nat.div_eq_iff hp]; omega
      rw [this, decide_eq_true h]; rfl
    · rw [Nat.div_eq_of_lt (by omega), decide_eq_false h]; rfl
  · rw [← h2, ← h3, ← hd, ← hm]
    constructor
    · intro h; rw [h]; simp
    · rintro ⟨h4, h5⟩
      have := Nat.div_add_mod (b % 2 ^ (E + F)) (2 ^ F)
      rw [h4, h5] at this
      simpa using this.symm
end Bg
end Go.Proofs.YtenekbfnlbipiaaGreatDoor
