/- Walks: a list over a small number; a list times a power of two; how many bits. -/
import Derived.Test.YtenekbfnlbipiaaDoorC
import Derived.Test.YtenekbfnlbipiaaDoorApp
namespace Go.Proofs.YtenekbfnlbipiaaDoor
open Go.RowKit
set_option linter.unusedVariables false
set_option linter.unusedSimpArgs false
set_option maxHeartbeats 4000000
set_option maxRecDepth 100000

theorem elem32 : ElemOf Tryd.prog 54 90 .u32 := by
  obtain ⟨i, hi, hz, hs, hb⟩ := info_parts info_u32
  exact ⟨under_u32s, i, 4, hi, hz, hs, hb, by decide⟩

theorem over_div {l o : List Nat} {d r : Nat} (h : val (l.drop 0) = d * val (o.drop 0) + r) (hr : r < d) : val o = val l / d ∧ r = val l % d := by
  rw [List.drop_zero, List.drop_zero] at h
  rw [h]
  exact ⟨by rw [Nat.mul_add_div (by omega), Nat.div_eq_of_lt hr, Nat.add_zero], by rw [Nat.mul_add_mod, Nat.mod_eq_of_lt hr]⟩

/-- What over answers. -/
def OverPost (l : List Nat) (w : World) (e : Ending) (w' : World) : Prop :=
  ∃ A c, e = .returned (.tuple #[.slice A (limbs (val l / 1000000000)).length c, .int .u64 ((val l % 1000000000 : Nat) : Int)]) ∧ Own w' 90 w.heap.size A c (limbs (val l / 1000000000)) ∧ (limbs (val l / 1000000000)).length ≤ c ∧ Below w.heap.size w w'

/-! ### how many bits -/
theorem bitLen_half {n : Nat} (h : n ≠ 0) : bitLen n = 1 + bitLen (n / 2) := by
  by_cases h1 : n / 2 = 0
  · have : n = 1 := by omega
    subst this; decide
  · have := bitLen_shift n 1 (by simpa using h1)
    simpa using this
/-- How many bits a list of limbs has, that does not end in 0. -/
theorem bitLen_val {l : List Nat} (h : Sm l) (h0 : 0 < l.length) (hl : nth l (l.length - 1) ≠ 0) : bitLen (val l) = 32 * (l.length - 1) + bitLen (nth l (l.length - 1)) := by
  have h1 := val_drop l h (l.length - 1)
  rw [val_drop_nth, List.drop_of_length_le (by omega)] at h1
  have h2 : val [] = 0 := rfl
  rw [h2, Nat.mul_zero, Nat.add_zero] at h1
  have e : 4294967296 ^ (l.length - 1) = 2 ^ (32 * (l.length - 1)) := by rw [Nat.pow_mul]
  rw [e] at h1
  rw [h1]
  exact bitLen_shift _ _ (by rw [← h1]; exact hl)

theorem ref_size (A : Option Addr) (l : List Nat) (n c : Nat) (hn : n = l.length) (hl16 : l.length ≤ 1000000) (w : World) (h : Rd w A l) (hlast : l.getLast? ≠ some 0) :
    Calls Tryd.prog 58 #[.slice A n c] w fun e w' => e = .returned (.int .i64 (bitLen (val l) : Nat)) ∧ w = w' := by
  subst hn
  by_cases h0 : 0 < l.length
  · obtain ⟨b, off, rfl, hb, hc⟩ := chk_facts l A w h h0
    have hne : nth l (l.length - 1) ≠ 0 := by
      rw [last_nth (by intro e; rw [e] at h0; simp at h0)] at hlast; simpa using hlast
    have E := Lib.hid (bitLen_val h.sm h0 hne)
    have h2 : ((l.length : Int) == 0) = false := by rw [beq_eq_false_iff_ne]; omega
    have hlt := h.sm.nth (l.length - 1)
    have hbl : bitLen (nth l (l.length - 1)) ≤ 32 := bitLen_le hlt
    clear hlast hne
    go_enter Tryd.func58, Tryd.ntmps58
    go_wp2
    go_loop [3, 4] (fun n v => ∃ (x m : Nat), x < 4294967296 ∧ v = .int .u32 (x : Int) ∧ n = .int .i64 (m : Int) ∧ m + bitLen x = 32 * (l.length - 1) + bitLen (nth l (l.length - 1))) (fun _ v => (intOf v).toNat)
    case atStart => exact ⟨nth l (l.length - 1), 32 * (l.length - 1), hlt, rfl, vi (by omega), rfl⟩
    case round =>
      obtain ⟨x, m, hx, rfl, rfl, hm⟩ := hrel
      have HM := Lib.hid hm
      by_cases hx0 : x = 0
      · subst hx0
        clear hm
        go_wp2
        go_ret
        refine ⟨ret_int ?_, rfl⟩
        rw [E.out, ← HM.out]
        rfl
      · have hmb : m ≤ 32 * (l.length - 1) + 32 := by omega
        have H2 := Lib.hid (bitLen_half hx0)
        clear hm
        go_wp2
        go_round
        case rel => exact ⟨x / 2, m + 1, by omega, vi (by omega), by go_num, by have := HM.out; have := H2.out; omega⟩
        case measure => first | (simp [intOf]; done) | (simp [intOf]; omega)
  · have hl0 : l = [] := List.eq_nil_of_length_eq_zero (by omega)
    subst hl0
    go_enter Tryd.func58, Tryd.ntmps58
    go_wp2
    go_ret
    exact ⟨rfl, rfl⟩

end Go.Proofs.YtenekbfnlbipiaaDoor
