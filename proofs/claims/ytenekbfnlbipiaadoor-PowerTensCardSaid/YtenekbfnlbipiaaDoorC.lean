/- Walks: numbers out of lists; how many bits. -/
import Derived.Test.YtenekbfnlbipiaaDoorB
import Derived.Test.YtenekbfnlbipiaaDoorBits
namespace Go.Proofs.YtenekbfnlbipiaaDoor
open Go.RowKit
set_option linter.unusedVariables false
set_option linter.unusedSimpArgs false
set_option maxHeartbeats 4000000
set_option maxRecDepth 100000

theorem info_u32 : (Tryd.prog.info? 90).map (fun i => (i.zero, i.size, i.bytes)) = some (some (.int .u32 0), 1, 4) := by kernel_rfl
theorem under_u32s : Tryd.prog.underlying 54 = some (.slice 90) := Tryd.underlying54
/-- make([]uint32, n), in any world. -/
theorem mk32 (n : Nat) (N : Int) (hN : N = (n : Int)) (hn : n ≤ 70368744177664) (w : World) :
    (Instr.makeSlice 54 (.int .i64 N) (.int .i64 N)).run Tryd.prog w = .ok (.slice (some ⟨w.heap.size, 0, none⟩) n n) (w.alloc (.cells (c32 (List.replicate n 0)) 90)) := by
  obtain ⟨i, hi, hz, hs, hb⟩ := info_parts info_u32
  exact run_make32 _ _ i under_u32s hi hz hs hb n N hN hn w

/-- trimmed, of a row of the call's own. -/
theorem nat_trimmed_own (g : Nat) (l : List Nat) (n c : Nat) (B : Nat) (hn : n = l.length) (hc : n ≤ c) (w : World) (h : Row w 90 g l) (hs : Sm l) (hl : l.length ≤ 35184372088960) (hB : B ≤ g) :
    Calls Tryd.prog 78 #[.slice (some ⟨g, 0, none⟩) n c] w fun e w' => ∃ A c, e = .returned (.agg #[.slice A (limbs (val l)).length c]) ∧ Own w' 90 B A c (limbs (val l)) ∧ (A = none ∨ A = some ⟨g, 0, none⟩) ∧ Below w.heap.size w w' := by
  refine (nat_trimmed _ l n c hn hc w (h.rd0 hs hl)).mono ?_
  rintro e w' ⟨A', hA, hz, rfl, hb⟩
  have hlen := limbs_length_le hs
  rcases hA with rfl | rfl
  · refine ⟨_, _, rfl, ?_, .inr rfl, hb⟩
    have := (h.below hb h.lt).own hs hl hB (limbs (val l)).length (Nat.le_refl _) hlen
    rw [← limbs_prefix hs] at this
    exact this
  · have e0 := hz rfl
    rw [e0]
    exact ⟨none, 0, rfl, Own.nil _ _ _, .inl rfl, hb⟩

theorem nat_Of (N : Int) (n : Nat) (hN : N = (n : Int)) (hn : n < 18446744073709551616) (w : World) :
    Calls Tryd.prog 45 #[.int .u64 N] w (NatOne 90 w (limbs n)) := by
  have h1 : 0 ≤ N := by omega
  have h2 : N < 18446744073709551616 := by omega
  have hs : Sm [n % 4294967296, n / 4294967296] := Sm.cons (by omega) (Sm.cons (by omega) Sm.nil)
  have hv : val [n % 4294967296, n / 4294967296] = n := by simp only [val]; omega
  have HV := Lib.hid hv
  have HN := Lib.hid hN
  clear hN hv
  go_enter Tryd.func45, Tryd.ntmps45
  go_wp2_with fail
  refine (nat_trimmed_own _ [n % 4294967296, n / 4294967296] 2 2 (w.heap.size + 1) rfl (by decide) _ (row_new ?_ (by simp)) hs (by simp) (Nat.le_refl _)).mono ?_
  · have := HN.out
    simp [c32]; omega
  rintro e w1 ⟨A, c, rfl, ho, hA, hb⟩
  obtain ⟨hc, hf⟩ := bcell hb
  have hz := hb.size
  have hbw : Below w.heap.size w w1 := Below.trans (b := _) (by repeat' (first | (with_reducible assumption) | (with_reducible exact Below.refl _ _) | (with_reducible refine bdn ?_ _) | (with_reducible refine Below.drew ?_) | (with_reducible refine Below.setCell ?_ ?_ _) | (with_reducible refine Below.alloc ?_ ?_ _) | go_size)) (hb.mono (by go_size))
  go_wp2
  (try simp only [Exit.inBlock, Exit.then]); refine bodyPost_ret (by simp (maxDischargeDepth := 9) [results, Tryd.results45, go_sem, hc]; try rfl) rfl ?_
  rw [HV.out] at ho ⊢
  exact ⟨A, c, rfl, (ho.setCell (by simp) _).mono (by omega), (by repeat' (first | (with_reducible assumption) | (with_reducible exact Below.refl _ _) | (with_reducible refine bdn ?_ _) | (with_reducible refine Below.drew ?_) | (with_reducible refine Below.setCell ?_ ?_ _) | (with_reducible refine Below.alloc ?_ ?_ _) | go_size))⟩

theorem ref_Of (N : Int) (n : Nat) (hN : N = (n : Int)) (hn : n < 18446744073709551616) (w : World) :
    Calls Tryd.prog 28 #[.int .u64 N] w (NatOne 90 w (limbs n)) := by
  have h1 : 0 ≤ N := by omega
  have h2 : N < 18446744073709551616 := by omega
  have hs : Sm [n % 4294967296, n / 4294967296] := Sm.cons (by omega) (Sm.cons (by omega) Sm.nil)
  have hv : val [n % 4294967296, n / 4294967296] = n := by simp only [val]; omega
  have HV := Lib.hid hv
  have HN := Lib.hid hN
  clear hN hv
  go_enter Tryd.func28, Tryd.ntmps28
  go_wp2_with fail
  have hr : Row ((w.alloc (Obj.cells #[Value.slice none 0 0] 56)).alloc (Obj.cells #[Value.int IntKind.u32 (N % 4294967296), Value.int IntKind.u32 (N / 4294967296)] 90)) 90 (w.heap.size + 1) [n % 4294967296, n / 4294967296] := by
    refine row_new ?_ (by simp)
    have := HN.out
    simp [c32]; omega
  refine (ref_Trim _ [n % 4294967296, n / 4294967296] 2 2 rfl (by decide) _ (hr.rd0 hs (by simp))).mono ?_
  rintro e w1 ⟨rfl, rfl⟩
  go_wp2_with fail
  refine (ref_nat _ _ _ _).mono ?_
  rintro e w1 ⟨rfl, hb⟩
  obtain ⟨hc, hf⟩ := bcell hb
  have hz := hb.size
  have hbw : Below w.heap.size w w1 := Below.trans (b := _) (by repeat' (first | (with_reducible assumption) | (with_reducible exact Below.refl _ _) | (with_reducible refine bdn ?_ _) | (with_reducible refine Below.drew ?_) | (with_reducible refine Below.setCell ?_ ?_ _) | (with_reducible refine Below.alloc ?_ ?_ _) | go_size)) (hb.mono (by go_size))
  have ho : Own w1 90 (w.heap.size + 1) (some ⟨w.heap.size + 1, 0, none⟩) 2 (limbs n) := by
    have := (hr.below hb hr.lt).own hs (by simp) (Nat.le_refl _) (limbs (val [n % 4294967296, n / 4294967296])).length (limbs_length_le hs) (Nat.le_refl _)
    rw [← limbs_prefix hs, HV.out] at this
    exact this
  go_wp2
  (try simp only [Exit.inBlock, Exit.then]); refine bodyPost_ret (by simp (maxDischargeDepth := 9) [results, Tryd.results28, go_sem, hc]; try rfl) rfl ?_
  exact ⟨_, _, by rw [HV.out], (ho.setCell (by simp) _).mono (by omega), (by repeat' (first | (with_reducible assumption) | (with_reducible exact Below.refl _ _) | (with_reducible refine bdn ?_ _) | (with_reducible refine Below.drew ?_) | (with_reducible refine Below.setCell ?_ ?_ _) | (with_reducible refine Below.alloc ?_ ?_ _) | go_size))⟩

/-- fits, of a row of the call's own. -/
theorem nat_fits (g : Nat) (l : List Nat) (n c : Nat) (B : Nat) (hn : n = l.length) (hc : n ≤ c) (w : World) (h : Row w 90 g l) (hs : Sm l) (hl : l.length ≤ 35184372088960) (hB : B ≤ g) (hBw : B ≤ w.heap.size) :
    Calls Tryd.prog 99 #[.slice (some ⟨g, 0, none⟩) n c] w fun e w' => ∃ A c, e = .returned (.tuple #[.agg #[.slice A (fitS (val l)).1.length c], .int .i64 (fitS (val l)).2]) ∧ Own w' 90 B A c (fitS (val l)).1 ∧ Below w.heap.size w w' := by
  subst hn
  have h1 := h.alloc (Obj.cells #[Value.slice none 0 0] 56)
  have hlim := limbs_length_le hs
  by_cases h5 : 16384 < (limbs (val l)).length
  · have e : fitS (val l) = ([], 4) := by unfold fitS; rw [if_pos h5]
    rw [e]
    go_enter Tryd.func99, Tryd.ntmps99
    go_wp2_with fail
    refine (nat_trimmed_own g l _ c B rfl hc _ h1 hs hl hB).mono ?_
    rintro e w1 ⟨A, c', rfl, ho, hA, hb1⟩
    obtain ⟨hc1, hf1⟩ := bcell hb1
    have hbw1 : Below w.heap.size w w1 := Below.trans (b := _) (by repeat' (first | (with_reducible assumption) | (with_reducible exact Below.refl _ _) | (with_reducible refine bdn ?_ _) | (with_reducible refine Below.drew ?_) | (with_reducible refine Below.setCell ?_ ?_ _) | (with_reducible refine Below.alloc ?_ ?_ _) | go_size)) (hb1.mono (by go_size))
    have hz1_0 : w.heap.size < w1.heap.size := by have := hb1.size; simp at this; omega
    go_wp2
    (try simp only [Exit.inBlock, Exit.then]); refine bodyPost_ret (by simp (maxDischargeDepth := 9) [results, Tryd.results99, go_sem, hc1, hz1_0]; try rfl) rfl ?_
    exact ⟨none, 0, rfl, Own.nil _ _ _, (by repeat' (first | (with_reducible assumption) | (with_reducible exact Below.refl _ _) | (with_reducible refine bdn ?_ _) | (with_reducible refine Below.drew ?_) | (with_reducible refine Below.setCell ?_ ?_ _) | (with_reducible refine Below.alloc ?_ ?_ _) | go_size))⟩
  · have e : fitS (val l) = (limbs (val l), 0) := by unfold fitS; rw [if_neg h5]
    rw [e]
    go_enter Tryd.func99, Tryd.ntmps99
    go_wp2_with fail
    refine (nat_trimmed_own g l _ c B rfl hc _ h1 hs hl hB).mono ?_
    rintro e w1 ⟨A, c', rfl, ho, hA, hb1⟩
    obtain ⟨hc1, hf1⟩ := bcell hb1
    have hbw1 : Below w.heap.size w w1 := Below.trans (b := _) (by repeat' (first | (with_reducible assumption) | (with_reducible exact Below.refl _ _) | (with_reducible refine bdn ?_ _) | (with_reducible refine Below.drew ?_) | (with_reducible refine Below.setCell ?_ ?_ _) | (with_reducible refine Below.alloc ?_ ?_ _) | go_size)) (hb1.mono (by go_size))
    have hz1_0 : w.heap.size < w1.heap.size := by have := hb1.size; simp at this; omega
    go_wp2
    (try simp only [Exit.inBlock, Exit.then]); refine bodyPost_ret (by simp (maxDischargeDepth := 9) [results, Tryd.results99, go_sem, hc1, hz1_0]; try rfl) rfl ?_
    refine ⟨_, _, rfl, ?_, (by repeat' (first | (with_reducible assumption) | (with_reducible exact Below.refl _ _) | (with_reducible refine bdn ?_ _) | (with_reducible refine Below.drew ?_) | (with_reducible refine Below.setCell ?_ ?_ _) | (with_reducible refine Below.alloc ?_ ?_ _) | go_size))⟩
    exact (ho.setNe hA (by have := h.lt; simp; omega) _).alloc _
end Go.Proofs.YtenekbfnlbipiaaDoor
