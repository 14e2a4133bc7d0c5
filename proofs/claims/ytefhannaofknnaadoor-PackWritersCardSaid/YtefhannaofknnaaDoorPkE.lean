/- Walk: does a number lie in a window. -/
import Derived.Test.YtefhannaofknnaaDoorPkD
namespace Go.Proofs.YtefhannaofknnaaDoor
open Go.RowKit
set_option linter.unusedVariables false
set_option linter.unusedSimpArgs false
set_option maxHeartbeats 4000000
set_option maxRecDepth 100000

theorem shr_shl (x b : Nat) (hx : x < 18446744073709551616) : IntKind.u64.wrap ((x : Int) / 2 ^ b * 2 ^ b) = ((x - x % 2 ^ b : Nat) : Int) := by
  have h1 : ((x : Int) / 2 ^ b * 2 ^ b) = ((x / 2 ^ b * 2 ^ b : Nat) : Int) := by push_cast; rfl
  have h2 : x / 2 ^ b * 2 ^ b = x - x % 2 ^ b := by
    have := Nat.div_add_mod x (2 ^ b)
    rw [Nat.mul_comm] at this
    omega
  rw [h1, h2, IntKind.wrap_u64]
  omega
theorem win_holds (W lead size x : Nat) (hW : W ≤ 64) (hx : x < 18446744073709551616) (hw : Win W (lead, size)) (w : World) :
    Calls Tryd.prog 36 #[.agg #[.int .i64 (lead : Int), .int .i64 (size : Int)], .int .u64 (x : Int), .int .i64 (W : Int)] w (Says w (.bool (decide (holdsS W (lead, size) x)))) := by
  by_cases hs : size = 0
  · have e : decide (holdsS W (lead, size) x) = false := by rw [decide_eq_false_iff_not]; rintro ⟨h, _⟩; simp only at h; omega
    rw [e]
    subst hs
    clear e hw
    go_enter Tryd.func36, Tryd.ntmps36
    go_wp2
    go_ret
    exact ⟨rfl, (Below.refl _ _).alloc (Nat.le_refl _) _⟩
  · have hle : lead + size ≤ W := by
      rcases hw with h | h
      · injection h with _ h; exact absurd h hs
      · exact h.2
    obtain ⟨W1, hW1⟩ : ∃ W1, W1 = W - lead := ⟨_, rfl⟩
    obtain ⟨b, hb⟩ : ∃ b, b = W1 - size := ⟨_, rfl⟩
    have hI1 : (W : Int) - (lead : Int) = (W1 : Int) := by omega
    have hI2 : (W1 : Int) - (size : Int) = (b : Int) := by omega
    have hb64 : b < 64 := by omega
    obtain ⟨n, hn⟩ : ∃ n, n = Lib.bitLen x := ⟨_, rfl⟩
    have hl := libBit_le x W1 (by omega) hx
    rw [← hn] at hl
    have HN := Lib.hid hn
    have hz : ((size : Int) == 0) = false := by rw [beq_eq_false_iff_ne]; omega
    have hsh := shr_shl x b hx
    have hs0 : decide (holdsS W (lead, size) x) = (decide (x % 2 ^ b = 0) && decide (n ≤ W1)) := by
      rw [← Bool.decide_and, decide_eq_decide]
      unfold holdsS
      simp only
      rw [← hW1, ← hb, hl]
      constructor
      · rintro ⟨_, h1, h2⟩; exact ⟨h1, h2⟩
      · rintro ⟨h1, h2⟩; exact ⟨by omega, h1, h2⟩
    rw [hs0]
    clear hs0 hl hn
    obtain ⟨y, hy⟩ : ∃ y, y = x % 2 ^ b := ⟨_, rfl⟩
    have hyx : y ≤ x := by rw [hy]; exact Nat.mod_le _ _
    rw [← hy] at hsh ⊢
    clear hy hW1 hb hw
    by_cases hy0 : y = 0
    · subst hy0
      rw [Nat.sub_zero] at hsh
      have he : ((x : Int) == (x : Int)) = true := beq_self_eq_true _
      have hd : (decide ((0 : Nat) = 0) && decide (n ≤ W1)) = decide (n ≤ W1) := by simp
      rw [hd]
      clear hd
      go_enter Tryd.func36, Tryd.ntmps36
      go_wp2
      go_quiet ((go_at_call 37; exact quiet_left (len64_n n HN.out hx _)))
      go_wp2
      go_ret
      exact ⟨rfl, (by repeat' (first | (with_reducible assumption) | (with_reducible exact Below.refl _ _) | (with_reducible refine bdn ?_ _) | (with_reducible refine Below.drew ?_) | (with_reducible refine Below.setCell ?_ ?_ _) | (with_reducible refine Below.alloc ?_ ?_ _) | go_size))⟩
    · obtain ⟨z, hz'⟩ : ∃ z, z = x - y := ⟨_, rfl⟩
      rw [← hz'] at hsh
      have he : ((z : Int) == (x : Int)) = false := by rw [beq_eq_false_iff_ne]; omega
      have hd : (decide (y = 0) && decide (n ≤ W1)) = false := by rw [decide_eq_false hy0]; rfl
      rw [hd]
      clear hd hz' hy0 hyx
      go_enter Tryd.func36, Tryd.ntmps36
      go_wp2
      go_quiet ((go_at_call 37; exact quiet_left (len64_n n HN.out hx _)))
      go_wp2
      go_ret
      exact ⟨rfl, (by repeat' (first | (with_reducible assumption) | (with_reducible exact Below.refl _ _) | (with_reducible refine bdn ?_ _) | (with_reducible refine Below.drew ?_) | (with_reducible refine Below.setCell ?_ ?_ _) | (with_reducible refine Below.alloc ?_ ?_ _) | go_size))⟩
end Go.Proofs.YtefhannaofknnaaDoor
