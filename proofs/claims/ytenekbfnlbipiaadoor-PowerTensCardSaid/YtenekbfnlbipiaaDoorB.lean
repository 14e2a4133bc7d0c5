/- Walks: lists without 0 at their ends; limbs; small numbers. -/
import Derived.Test.YtenekbfnlbipiaaDoorA
import Derived.Handy
namespace Go.Proofs.YtenekbfnlbipiaaDoor
open Go.RowKit
set_option linter.unusedVariables false
set_option linter.unusedSimpArgs false
set_option maxHeartbeats 4000000
set_option maxRecDepth 100000

theorem ref_Trim (A : Option Addr) (l : List Nat) (n c : Nat) (hn : n = l.length) (hc : n ≤ c) (w : World) (h : Rd w A l) :
    Calls Tryd.prog 55 #[.slice A n c] w fun e w' => e = .returned (.slice A (limbs (val l)).length c) ∧ w = w' := by
  subst hn
  have hl := h.len
  go_enter Tryd.func55, Tryd.ntmps55
  go_wp2
  go_loop [3] (fun i => ∃ k : Nat, k ≤ l.length ∧ i = .int .i64 (k : Int) ∧ (∀ j, k ≤ j → nth l j = 0)) (fun i => (intOf i).toNat)
  case atStart => exact ⟨l.length, Nat.le_refl _, rfl, fun j hj => nth_ge l hj⟩
  case round =>
    obtain ⟨k, hk, rfl, hz⟩ := hrel
    have HZ := Lib.hid hz
    clear hz
    by_cases hk0 : k = 0
    · subst hk0
      have E := Lib.hid (trim_end h.sm 0 hk HZ.out (.inl rfl))
      go_wp2
      go_ret
      rw [E.out.2]
      exact ⟨rfl, rfl⟩
    · obtain ⟨k, rfl⟩ : ∃ j, k = j + 1 := ⟨k - 1, by omega⟩
      obtain ⟨b, o, rfl, hc1⟩ := h.open_ (by omega)
      have hc2 := hc1 k (by omega)
      have hbs : b < w.heap.size := cell_lt hc2
      clear hc1
      by_cases h3 : nth l k = 0
      · rw [h3] at hc2
        have E : Hid (∀ j, k ≤ j → nth l j = 0) := fun j hj => by
          rcases Nat.lt_or_ge k j with h4 | h4
          · exact HZ.out j h4
          · have : j = k := by omega
            rw [this]; exact h3
        clear h3
        go_wp2
        go_round
        case rel => exact ⟨k, by omega, by go_num, E.out⟩
        case measure => first | (simp [intOf]; done) | (simp [intOf]; omega)
      · have E := Lib.hid (trim_end h.sm (k + 1) hk HZ.out (.inr h3))
        have h3' : (((nth l k : Nat) : Int) == 0) = false := by simp; exact h3
        clear h3
        go_wp2
        go_ret
        rw [E.out.2]
        exact ⟨rfl, rfl⟩

/-- What trimmed answers: the list's number, where the list lies; nothing, if it is 0. -/
def TrimPost (A : Option Addr) (l : List Nat) (w : World) (e : Ending) (w' : World) : Prop :=
  ∃ A', (A' = A ∨ A' = none) ∧ (A' = none → val l = 0) ∧ e = .returned (.agg #[.slice A' (limbs (val l)).length (limbs (val l)).length]) ∧ Below w.heap.size w w'

theorem nat_trimmed (A : Option Addr) (l : List Nat) (n c : Nat) (hn : n = l.length) (hc : n ≤ c) (w : World) (h : Rd w A l) :
    Calls Tryd.prog 78 #[.slice A n c] w (TrimPost A l w) := by
  subst hn
  have hl := h.len
  go_enter Tryd.func78, Tryd.ntmps78
  go_wp2
  go_loop [3] (fun i => ∃ k : Nat, k ≤ l.length ∧ i = .int .i64 (k : Int) ∧ (∀ j, k ≤ j → nth l j = 0)) (fun i => (intOf i).toNat)
  case atStart => exact ⟨l.length, Nat.le_refl _, rfl, fun j hj => nth_ge l hj⟩
  case round =>
    obtain ⟨k, hk, rfl, hz⟩ := hrel
    have HZ := Lib.hid hz
    clear hz
    by_cases hk0 : k = 0
    · subst hk0
      have E := Lib.hid (trim_end h.sm 0 hk HZ.out (.inl rfl))
      go_wp2
      go_returns
      have e0 : val l = 0 := by
        have := E.out.1
        rw [List.take_zero, limbs_eq_nil] at this; exact this
      exact ⟨none, .inr rfl, fun _ => e0, by rw [E.out.2], (Below.refl _ _).alloc (Nat.le_refl _) _⟩
    · obtain ⟨k, rfl⟩ : ∃ j, k = j + 1 := ⟨k - 1, by omega⟩
      obtain ⟨b, o, rfl, hc1⟩ := h.open_ (by omega)
      have hc2 := hc1 k (by omega)
      have hbs : b < w.heap.size := cell_lt hc2
      clear hc1
      by_cases h3 : nth l k = 0
      · rw [h3] at hc2
        have E : Hid (∀ j, k ≤ j → nth l j = 0) := fun j hj => by
          rcases Nat.lt_or_ge k j with h4 | h4
          · exact HZ.out j h4
          · have : j = k := by omega
            rw [this]; exact h3
        clear h3
        go_wp2
        go_round
        case rel => exact ⟨k, by omega, by go_num, E.out⟩
        case measure => first | (simp [intOf]; done) | (simp [intOf]; omega)
      · have E := Lib.hid (trim_end h.sm (k + 1) hk HZ.out (.inr h3))
        have h3' : (((nth l k : Nat) : Int) == 0) = false := by simp; exact h3
        have h5 : (((k : Int) + 1) == 0) = false := by simp; omega
        clear h3
        go_wp2
        go_returns
        exact ⟨_, .inl rfl, fun hh => (by cases hh), by rw [E.out.2], (Below.refl _ _).alloc (Nat.le_refl _) _⟩

theorem ref_nat (A : Option Addr) (n c : Nat) (w : World) :
    Calls Tryd.prog 54 #[.slice A n c] w fun e w' => e = .returned (.agg #[.slice A n c]) ∧ Below w.heap.size w w' := by
  go_enter Tryd.func54, Tryd.ntmps54
  go_wp2
  go_returns
  exact ⟨rfl, (Below.refl _ _).alloc (Nat.le_refl _) _⟩

theorem ref_limb (A : Option Addr) (l : List Nat) (n c : Nat) (hn : n = l.length) (i : Int) (hi : 0 ≤ i) (w : World) (h : Rd w A l) :
    Calls Tryd.prog 87 #[.slice A n c, .int .i64 i] w fun e w' => e = .returned (.int .u64 ((nth l i.toNat : Nat) : Int)) ∧ w = w' := by
  subst hn
  have hl := h.len
  obtain ⟨k, rfl⟩ := Int.eq_ofNat_of_zero_le hi
  rw [Int.toNat_natCast]
  by_cases hk : k < l.length
  · obtain ⟨b, o, rfl, hc1⟩ := h.open_ (by omega)
    have hc2 := hc1 k hk
    have hs := h.sm.nth k
    clear hc1
    go_enter Tryd.func87, Tryd.ntmps87
    go_wp2
    go_ret
    exact ⟨by go_num, rfl⟩
  · rw [nth_ge l (by omega)]
    go_enter Tryd.func87, Tryd.ntmps87
    go_wp2
    go_ret
    exact ⟨rfl, rfl⟩
end Go.Proofs.YtenekbfnlbipiaaDoor
