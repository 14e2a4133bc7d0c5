/- Walks: a list over a small number; a list times a power of two; how many bits. -/
import Derived.Test.YtkepjhgafpbecaaC
import Derived.Test.YtkepjhgafpbecaaApp
namespace Go.Proofs.Ytkepjhgafpbecaa
open Go.RowKit
set_option linter.unusedVariables false
set_option linter.unusedSimpArgs false
set_option maxHeartbeats 4000000
set_option maxRecDepth 100000

theorem elem32 : ElemOf Try.prog 33 28 .u32 := by
  obtain ⟨i, hi, hz, hs, hb⟩ := info_parts info_u32
  exact ⟨under_u32s, i, 4, hi, hz, hs, hb, by decide⟩

theorem over_div {l o : List Nat} {d r : Nat} (h : val (l.drop 0) = d * val (o.drop 0) + r) (hr : r < d) : val o = val l / d ∧ r = val l % d := by
  rw [List.drop_zero, List.drop_zero] at h
  rw [h]
  exact ⟨by rw [Nat.mul_add_div (by omega), Nat.div_eq_of_lt hr, Nat.add_zero], by rw [Nat.mul_add_mod, Nat.mod_eq_of_lt hr]⟩

/-- What over answers. -/
def OverPost (l : List Nat) (w : World) (e : Ending) (w' : World) : Prop :=
  ∃ A c, e = .returned (.tuple #[.slice A (limbs (val l / 1000000000)).length c, .int .u64 ((val l % 1000000000 : Nat) : Int)]) ∧ Own w' 28 w.heap.size A c (limbs (val l / 1000000000)) ∧ (limbs (val l / 1000000000)).length ≤ c ∧ Below w.heap.size w w'

theorem ref_over (A : Option Addr) (l : List Nat) (n c : Nat) (hn : n = l.length) (hl16 : l.length ≤ 1000000) (w : World) (h : Rd w A l) :
    Calls Try.prog 59 #[.slice A n c, .int .u64 1000000000] w (OverPost l w) := by
  subst hn
  have hmk := fun W => mk32 l.length (l.length : Int) rfl (by omega) W
  go_enter Try.func59, Try.ntmps59
  go_wp2
  go_loopw [7, 8] (fun r i wr => ∃ (k : Nat) (o : List Nat) (q : Nat), k ≤ l.length ∧ i = .int .i64 ((k : Int) - 1) ∧ r = .int .u64 (q : Int) ∧ q < 1000000000 ∧ o.length = l.length ∧ Sm o ∧ val (l.drop k) = 1000000000 * val (o.drop k) + q ∧ Row wr 28 w.heap.size o ∧ Below w.heap.size w wr) (fun _ i _ => (intOf i + 1).toNat)
  case atStart =>
    refine ⟨l.length, List.replicate l.length 0, 0, Nat.le_refl _, rfl, rfl, by decide, by simp, Sm.replicate _, ?_, row_new rfl rfl, (by repeat' (first | (with_reducible assumption) | (with_reducible exact Below.refl _ _) | (with_reducible refine bdn ?_ _) | (with_reducible refine Below.drew ?_) | (with_reducible refine Below.setCell ?_ ?_ _) | (with_reducible refine Below.alloc ?_ ?_ _) | go_size))⟩
    rw [List.drop_length, List.drop_of_length_le (by simp)]; rfl
  case round =>
    obtain ⟨k, o, q, hk, rfl, rfl, hq, hlen, hso, hv, hrow, hbl⟩ := hrel
    have HV := Lib.hid hv
    have HLEN := Lib.hid hlen
    clear hv hlen
    by_cases hk0 : k = 0
    · subst hk0
      have E := Lib.hid (over_div HV.out hq)
      have hrd := hrow.rd0 hso (by rw [HLEN.out]; omega)
      go_wp2_with fail
      refine (ref_Trim _ o _ l.length HLEN.out.symm (Nat.le_refl _) _ hrd).mono ?_
      rintro e w1 ⟨rfl, rfl⟩
      go_wp2
      go_ret2
      have ho := hrow.own hso (by rw [HLEN.out]; omega) (Nat.le_refl _) (limbs (val o)).length (limbs_length_le hso) (Nat.le_refl _)
      have hle := limbs_length_le hso
      rw [← limbs_prefix hso, HLEN.out] at ho
      rw [HLEN.out] at hle
      rw [E.out.1] at ho hle
      exact ⟨_, _, by rw [← E.out.2, ← E.out.1]; rfl, ho, hle, hbl⟩
    · obtain ⟨k, rfl⟩ : ∃ j, k = j + 1 := ⟨k - 1, by omega⟩
      obtain ⟨b, off, rfl, hc1⟩ := rd_at h hbl (k := k) (by omega)
      have hlt := h.sm.nth k
      have hor := or_low32 q (nth l k) (by omega) hlt
      have hcw := hrow.cell k (by rw [HLEN.out]; omega)
      have hfz := hrow.frozen k
      go_wp2
      go_roundw
      case rel => 
        refine ⟨k, o.set k ((q * 4294967296 + nth l k) / 1000000000), (q * 4294967296 + nth l k) % 1000000000, by omega, by go_num, vi (by omega), by omega, by simp [HLEN.out], hso.set _ _ (by omega), ?_, hrow.setE _ _ (by omega), (by repeat' (first | (with_reducible assumption) | (with_reducible exact Below.refl _ _) | (with_reducible refine bdn ?_ _) | (with_reducible refine Below.drew ?_) | (with_reducible refine Below.setCell ?_ ?_ _) | (with_reducible refine Below.alloc ?_ ?_ _) | go_size))⟩
        exact over_step (by rw [HLEN.out]; omega) (by decide) HV.out
      case measure => first | (simp [intOf]; done) | (simp [intOf]; omega)

/-! ### how many bits -/
theorem bitLen_half {n : Nat} (h : n ≠ 0) : bitLen n = 1 + bitLen (n / 2) := by
  by_cases h1 : n / 2 = 0
  · have : n = 1 := by omega
    subst this; decide
  · have := bitLen_shift n 1 (by simpa using h1)
    simpa using this
/-- How many bits a list of limbs has, that does not end in 0. -/
theorem bitLen_val {l : List Nat} (h : Sm l) (h0 : 0 < l.length) (hl : nth l (l.length - 1) ≠ 0) : bitLen (val l) = 32 * (l.length - 1) + bitLen (nth l (l.length - 1)) := by
  have h1 := val_drop l h (l.length - 1)
  rw [val_drop_nth, List.drop_of_length_le (by omega)] at h1
  have h2 : val [] = 0 := rfl
  rw [h2, Nat.mul_zero, Nat.add_zero] at h1
  have e : 4294967296 ^ (l.length - 1) = 2 ^ (32 * (l.length - 1)) := by rw [Nat.pow_mul]
  rw [e] at h1
  rw [h1]
  exact bitLen_shift _ _ (by rw [← h1]; exact hl)

theorem ref_size (A : Option Addr) (l : List Nat) (n c : Nat) (hn : n = l.length) (hl16 : l.length ≤ 1000000) (w : World) (h : Rd w A l) (hlast : l.getLast? ≠ some 0) :
    Calls Try.prog 62 #[.slice A n c] w fun e w' => e = .returned (.int .i64 (bitLen (val l) : Nat)) ∧ w = w' := by
  subst hn
  by_cases h0 : 0 < l.length
  · obtain ⟨b, off, rfl, hb, hc⟩ := chk_facts l A w h h0
    have hne : nth l (l.length - 1) ≠ 0 := by
      rw [last_nth (by intro e; rw [e] at h0; simp at h0)] at hlast; simpa using hlast
    have E := Lib.hid (bitLen_val h.sm h0 hne)
    have h2 : ((l.length : Int) == 0) = false := by rw [beq_eq_false_iff_ne]; omega
    have hlt := h.sm.nth (l.length - 1)
    have hbl : bitLen (nth l (l.length - 1)) ≤ 32 := bitLen_le hlt
    clear hlast hne
    go_enter Try.func62, Try.ntmps62
    go_wp2
    go_loop [3, 4] (fun n v => ∃ (x m : Nat), x < 4294967296 ∧ v = .int .u32 (x : Int) ∧ n = .int .i64 (m : Int) ∧ m + bitLen x = 32 * (l.length - 1) + bitLen (nth l (l.length - 1))) (fun _ v => (intOf v).toNat)
    case atStart => exact ⟨nth l (l.length - 1), 32 * (l.length - 1), hlt, rfl, vi (by omega), rfl⟩
    case round =>
      obtain ⟨x, m, hx, rfl, rfl, hm⟩ := hrel
      have HM := Lib.hid hm
      by_cases hx0 : x = 0
      · subst hx0
        clear hm
        go_wp2
        go_ret
        refine ⟨ret_int ?_, rfl⟩
        rw [E.out, ← HM.out]
        rfl
      · have hmb : m ≤ 32 * (l.length - 1) + 32 := by omega
        have H2 := Lib.hid (bitLen_half hx0)
        clear hm
        go_wp2
        go_round
        case rel => exact ⟨x / 2, m + 1, by omega, vi (by omega), by go_num, by have := HM.out; have := H2.out; omega⟩
        case measure => first | (simp [intOf]; done) | (simp [intOf]; omega)
  · have hl0 : l = [] := List.eq_nil_of_length_eq_zero (by omega)
    subst hl0
    go_enter Try.func62, Try.ntmps62
    go_wp2
    go_ret
    exact ⟨rfl, rfl⟩

end Go.Proofs.Ytkepjhgafpbecaa
