/- Walks: both packages' Bits, Bit and Low. -/
import Derived.Test.YtenekbfnlbipiaaDoorD
import Derived.Test.YtenekbfnlbipiaaDoorN
namespace Go.Proofs.YtenekbfnlbipiaaDoor
open Go.RowKit
set_option linter.unusedVariables false
set_option linter.unusedSimpArgs false
set_option maxHeartbeats 4000000
set_option maxRecDepth 100000

def bitsS (l : List Nat) : Int × Int := if chk l = 0 then (((bitLen (val l) : Nat) : Int), 0) else (0, chk l)

theorem nat_Bits (A : Option Addr) (l : List Nat) (n c : Nat) (hn : n = l.length) (w : World) (h : Rd w A l) :
    Calls Tryd.prog 43 #[.agg #[.slice A n c]] w (Says w (.tuple #[.int .i64 (bitsS l).1, .int .i64 (bitsS l).2])) := by
  subst hn
  have hl := h.len
  have h1 := h.alloc (Obj.cells #[Value.slice A l.length c] 56)
  by_cases hc0 : chk l = 0
  · have hlen := (chk_zero hc0).1
    have hlast := (chk_zero hc0).2
    have Hchk : Hid (chk l = 0) := hc0
    have e : bitsS l = (((bitLen (val l) : Nat) : Int), 0) := by unfold bitsS; rw [if_pos hc0]
    rw [e]
    clear hc0
    by_cases h0 : 0 < l.length
    · obtain ⟨b, off, rfl, hb, hc⟩ := chk_facts l A w h h0
      have hne : nth l (l.length - 1) ≠ 0 := by
        rw [last_nth (by intro e; rw [e] at h0; simp at h0)] at hlast; simpa using hlast
      have E := Lib.hid (bitLen_val h.sm h0 hne)
      have hlt := h.sm.nth (l.length - 1)
      have hbl : bitLen (nth l (l.length - 1)) ≤ 32 := bitLen_le hlt
      have h2 : ((l.length : Int) == 0) = false := by rw [beq_eq_false_iff_ne]; omega
      clear hlast hne
      go_enter Tryd.func43, Tryd.ntmps43
      go_wp2_with fail
      refine (nat_Check _ l _ c rfl _ h1).mono ?_
      rintro e w1 ⟨rfl, hb1⟩
      rw [Hchk.out]
      obtain ⟨hc1, hf1⟩ := bcell hb1
      have hbw1 : Below w.heap.size w w1 := Below.trans (b := _) (by repeat' (first | (with_reducible assumption) | (with_reducible exact Below.refl _ _) | (with_reducible refine bdn ?_ _) | (with_reducible refine Below.drew ?_) | (with_reducible refine Below.setCell ?_ ?_ _) | (with_reducible refine Below.alloc ?_ ?_ _) | go_size)) (hb1.mono (by go_size))
      have hz1_0 : w.heap.size < w1.heap.size := by have := hb1.size; simp at this; omega
      have hcc := cell_keep hbw1 hc
      go_wp2_with fail
      refine (bits_LeadingZeros32 _ _ (by omega) (by omega)).mono ?_
      rintro e w2 ⟨rfl, rfl⟩
      rw [Int.toNat_natCast]
      go_wp2
      go_ret2
      exact ⟨ret_pair (by rw [E.out]; omega) rfl, hbw1⟩
    · have hl0 : l = [] := List.eq_nil_of_length_eq_zero (by omega)
      subst hl0
      go_enter Tryd.func43, Tryd.ntmps43
      go_wp2_with fail
      refine (nat_Check _ [] _ c rfl _ h1).mono ?_
      rintro e w1 ⟨rfl, hb1⟩
      rw [Hchk.out]
      obtain ⟨hc1, hf1⟩ := bcell hb1
      have hbw1 : Below w.heap.size w w1 := Below.trans (b := _) (by repeat' (first | (with_reducible assumption) | (with_reducible exact Below.refl _ _) | (with_reducible refine bdn ?_ _) | (with_reducible refine Below.drew ?_) | (with_reducible refine Below.setCell ?_ ?_ _) | (with_reducible refine Below.alloc ?_ ?_ _) | go_size)) (hb1.mono (by go_size))
      have hz1_0 : w.heap.size < w1.heap.size := by have := hb1.size; simp at this; omega
      go_wp2
      go_ret2
      exact ⟨rfl, hbw1⟩
  · have e : bitsS l = (0, chk l) := by unfold bitsS; rw [if_neg hc0]
    have hne : (chk l != 0) = true := by rw [bne_iff_ne]; exact hc0
    rw [e]
    clear hc0
    go_enter Tryd.func43, Tryd.ntmps43
    go_wp2_with fail
    refine (nat_Check A l _ c rfl _ h1).mono ?_
    rintro e w1 ⟨rfl, hb1⟩
    obtain ⟨hc1, hf1⟩ := bcell hb1
    have hbw1 : Below w.heap.size w w1 := Below.trans (b := _) (by repeat' (first | (with_reducible assumption) | (with_reducible exact Below.refl _ _) | (with_reducible refine bdn ?_ _) | (with_reducible refine Below.drew ?_) | (with_reducible refine Below.setCell ?_ ?_ _) | (with_reducible refine Below.alloc ?_ ?_ _) | go_size)) (hb1.mono (by go_size))
    have hz1_0 : w.heap.size < w1.heap.size := by have := hb1.size; simp at this; omega
    go_wp2
    go_ret2
    exact ⟨rfl, hbw1⟩

theorem ref_Bits (A : Option Addr) (l : List Nat) (n c : Nat) (hn : n = l.length) (w : World) (h : Rd w A l) :
    Calls Tryd.prog 49 #[.agg #[.slice A n c]] w (Says w (.tuple #[.int .i64 (bitsS l).1, .int .i64 (bitsS l).2])) := by
  subst hn
  have hl := h.len
  have h1 := h.alloc (Obj.cells #[Value.slice A l.length c] 56)
  by_cases hc0 : chk l = 0
  · have hlen := (chk_zero hc0).1
    have hlast := (chk_zero hc0).2
    have Hchk : Hid (chk l = 0) := hc0
    have e : bitsS l = (((bitLen (val l) : Nat) : Int), 0) := by unfold bitsS; rw [if_pos hc0]
    rw [e]
    clear hc0
    go_enter Tryd.func49, Tryd.ntmps49
    go_wp2_with fail
    refine (ref_Check _ l _ c rfl _ h1).mono ?_
    rintro e w1 ⟨rfl, hb1⟩
    rw [Hchk.out]
    obtain ⟨hc1, hf1⟩ := bcell hb1
    have hbw1 : Below w.heap.size w w1 := Below.trans (b := _) (by repeat' (first | (with_reducible assumption) | (with_reducible exact Below.refl _ _) | (with_reducible refine bdn ?_ _) | (with_reducible refine Below.drew ?_) | (with_reducible refine Below.setCell ?_ ?_ _) | (with_reducible refine Below.alloc ?_ ?_ _) | go_size)) (hb1.mono (by go_size))
    have hz1_0 : w.heap.size < w1.heap.size := by have := hb1.size; simp at this; omega
    go_wp2_with fail
    refine (ref_size A l _ c rfl (by omega) _ (h1.below hb1) hlast).mono ?_
    rintro e w2 ⟨rfl, rfl⟩
    go_wp2
    go_ret2
    exact ⟨rfl, hbw1⟩
  · have e : bitsS l = (0, chk l) := by unfold bitsS; rw [if_neg hc0]
    have hne : (chk l != 0) = true := by rw [bne_iff_ne]; exact hc0
    rw [e]
    clear hc0
    go_enter Tryd.func49, Tryd.ntmps49
    go_wp2_with fail
    refine (ref_Check A l _ c rfl _ h1).mono ?_
    rintro e w1 ⟨rfl, hb1⟩
    obtain ⟨hc1, hf1⟩ := bcell hb1
    have hbw1 : Below w.heap.size w w1 := Below.trans (b := _) (by repeat' (first | (with_reducible assumption) | (with_reducible exact Below.refl _ _) | (with_reducible refine bdn ?_ _) | (with_reducible refine Below.drew ?_) | (with_reducible refine Below.setCell ?_ ?_ _) | (with_reducible refine Below.alloc ?_ ?_ _) | go_size)) (hb1.mono (by go_size))
    have hz1_0 : w.heap.size < w1.heap.size := by have := hb1.size; simp at this; omega
    go_wp2
    go_ret2
    exact ⟨rfl, hbw1⟩

def bitS (l : List Nat) (i : Int) : Bool × Int := if chk l = 0 then if i < 0 then (false, 2) else ((val l).testBit i.toNat, 0) else (false, chk l)
theorem testBit_nth {l : List Nat} (h : Sm l) (i : Nat) : (val l).testBit i = (nth l (i / 32)).testBit (i % 32) := by
  have e : nth l (i / 32) = val l / 2 ^ (32 * (i / 32)) % 2 ^ 32 := by
    rw [Nat.pow_mul]; exact getD_val l h (i / 32)
  rw [e, Nat.testBit_mod_two_pow, ← Nat.shiftRight_eq_div_pow, Nat.testBit_shiftRight]
  have h1 : i % 32 < 32 := Nat.mod_lt _ (by decide)
  simp only [h1, decide_true, Bool.true_and]
  congr 1
  omega
theorem bit_u32 (x r : Nat) (hx : x < 4294967296) : (bits BinOp.and IntKind.u32 ((x : Int) / 2 ^ r) 1 == 1) = x.testBit r := by
  have e : (x : Int) / 2 ^ r = ((x / 2 ^ r : Nat) : Int) := by rw [Int.natCast_ediv, Int.natCast_pow]; rfl
  have hle : x / 2 ^ r ≤ x := Nat.div_le_self _ _
  rw [e, show (1 : Int) = ((1 : Nat) : Int) from rfl, u32_and_nat _ _ (by omega) (by decide), Nat.and_one_is_mod, Nat.testBit_eq_decide_div_mod_eq]
  rcases Nat.mod_two_eq_zero_or_one (x / 2 ^ r) with h | h <;> rw [h] <;> rfl
theorem bit_u64 (x r : Nat) (hx : x < 4294967296) : (bits BinOp.and IntKind.u64 ((x : Int) / 2 ^ r) 1 == 1) = x.testBit r := by
  have e : (x : Int) / 2 ^ r = ((x / 2 ^ r : Nat) : Int) := by rw [Int.natCast_ediv, Int.natCast_pow]; rfl
  have hle : x / 2 ^ r ≤ x := Nat.div_le_self _ _
  rw [e, show (1 : Int) = ((1 : Nat) : Int) from rfl, u64_and_nat _ _ (by omega) (by decide), Nat.and_one_is_mod, Nat.testBit_eq_decide_div_mod_eq]
  rcases Nat.mod_two_eq_zero_or_one (x / 2 ^ r) with h | h <;> rw [h] <;> rfl

end Go.Proofs.YtenekbfnlbipiaaDoor
