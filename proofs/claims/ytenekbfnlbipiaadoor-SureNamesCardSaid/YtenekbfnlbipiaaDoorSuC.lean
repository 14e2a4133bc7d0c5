/- Walks: is a float below a power of ten; the power of its first digit. -/
import Derived.Test.YtenekbfnlbipiaaDoorSuF
import Derived.Test.YtenekbfnlbipiaaDoorSuA
namespace Go.Proofs.YtenekbfnlbipiaaDoor
open Go.RowKit
set_option linter.unusedVariables false
set_option linter.unusedSimpArgs false
set_option maxHeartbeats 4000000
set_option maxRecDepth 100000

theorem suLen {m : Nat} (h : m < 18446744073709551616) : Lib.bitLen m = bitLen m ∧ bitLen m ≤ 64 := by
  by_cases h0 : m = 0
  · subst h0; exact ⟨rfl, by decide⟩
  obtain ⟨b1, b2, b3⟩ := bitLen_bd h0
  have hL : bitLen m ≤ 64 := by
    apply Nat.le_of_not_lt
    intro h1
    have := Nat.pow_le_pow_right (n := 2) (by decide) (show 64 ≤ bitLen m - 1 by omega)
    have h64 : (2 : Nat) ^ 64 = 18446744073709551616 := rfl
    omega
  refine ⟨?_, hL⟩
  have hu : Lib.bitLen m ≤ bitLen m := by
    by_cases h64 : bitLen m < 64
    · exact (Fo.libLen_le m (bitLen m) h64 h).2 b2
    · have := Lib.bitLen_le m 64 (by omega) h
      omega
  have hl : ¬ Lib.bitLen m ≤ bitLen m - 1 := by
    intro h1
    have := (Fo.libLen_le m (bitLen m - 1) (by omega) h).1 h1
    omega
  omega
theorem len64 {m L : Nat} (h : m < 18446744073709551616) (hL : L = bitLen m) (w : World) : Calls Tryd.prog 65 #[.int .u64 (m : Int)] w fun e w' => e = .returned (.int .i64 (L : Int)) ∧ w = w' :=
  Fo.len64_n L (by rw [hL, (suLen h).1]) h w
theorem leadingZ {m L : Nat} (h : m < 18446744073709551616) (hL : L = bitLen m) (w : World) : Calls Tryd.prog 93 #[.int .u64 (m : Int)] w fun e w' => e = .returned (.int .i64 (64 - (L : Int))) ∧ w = w' := by
  have hL2 : L ≤ 64 := by rw [hL]; exact (suLen h).2
  have HL := Lib.hid hL
  clear hL
  go_enter Tryd.func93, Tryd.ntmps93
  go_wp2_with fail
  refine (len64 h HL.out _).mono ?_
  rintro e w1 ⟨rfl, rfl⟩
  go_wp2
  go_ret
  exact ⟨rfl, rfl⟩
theorem sure_below (ng st : Bool) (m : Nat) (q p : Int) (h0 : m ≠ 0) (hm : m < 18446744073709551616) (hq1 : -5000 ≤ q) (hq2 : q ≤ 5000) (hf : farB p = false) (w : World) (hT : Tab5 w) :
    Calls Tryd.prog 66 #[.agg #[.bool ng, .int .u64 (m : Int), .int .i64 q, .bool st], .int .i64 p] w (Says w (.tuple #[.bool (underB m q p), .int .i64 0])) := by
  rw [← below_eq h0 (suLen hm).2 hf]
  have hTe := fun W hT => power_Ten p W hT
  have hWh := fun W hT => power_Whole p W hT
  have hE : -2000 ≤ tenE p ∧ tenE p ≤ 2000 := by
    have := tS_le hf
    unfold tenE
    simp only [farB, Bool.or_eq_false_iff, decide_eq_false_iff_not] at hf
    split <;> omega
  have e2 : (tenHi p = tenN p / 2 ^ 64) ∧ (tenLo p = tenN p % 2 ^ 64) ∧ tenEr p = 0 ∧ tenEx p = tenE p ∧ wholeB p = tenX p := by
    unfold tenHi tenLo tenEr tenEx wholeB; rw [hf]; exact ⟨rfl, rfl, rfl, rfl, rfl⟩
  rw [e2.1, e2.2.1, e2.2.2.1, e2.2.2.2.1] at hTe
  rw [e2.2.2.1, e2.2.2.2.2] at hWh
  unfold belowS topI
  have hL2 := (suLen hm).2
  obtain ⟨L, hL⟩ : ∃ L, L = bitLen m := ⟨_, rfl⟩
  have hmL : m * 2 ^ (64 - bitLen m) < 18446744073709551616 := by
    obtain ⟨b1, b2, b3⟩ := bitLen_bd h0
    have h1 := (Nat.mul_lt_mul_right (Nat.two_pow_pos (64 - bitLen m))).2 b2
    rw [← Nat.pow_add, show bitLen m + (64 - bitLen m) = 64 by omega] at h1
    exact h1
  rw [← hL] at hL2 hmL ⊢
  have HL := Lib.hid hL
  clear hL e2 hf
  generalize tenE p = X at hE hTe ⊢
  generalize tenN p / 2 ^ 64 = H at hTe ⊢
  generalize tenN p % 2 ^ 64 = lo at hTe ⊢
  generalize tenX p = XB at hWh ⊢
  have hL1 : 1 ≤ L := by rw [HL.out]; exact (bitLen_bd h0).2.2
  have hsh : IntKind.u64.wrap ((m : Int) * 2 ^ (64 - L)) = ((m * 2 ^ (64 - L) : Nat) : Int) := Fo.shl_eq m (64 - L) (by omega) hmL
  by_cases ht : q + (L : Int) - 1 = X + 127
  · rw [if_neg (by simpa using ht)]
    generalize m * 2 ^ (64 - L) = M at hsh hmL ⊢
    rcases Nat.lt_trichotomy M H with hMH | hMH | hMH
    · have hD1 : decide (M < H) = true := by rw [decide_eq_true hMH]
      rw [hD1, Bool.true_or]
      have hb0 : Below w.heap.size w w := Below.refl _ _
      go_enter Tryd.func66, Tryd.ntmps66
      go_wp2_with fail
      have hv1 : Below w.heap.size w (w.alloc (.cells #[.bool ng, .int .u64 (m : Int), .int .i64 q, .bool st] 69)) := (Below.refl _ _).alloc (by first | exact Nat.le_refl _ | (simp; done) | (simp; omega)) _
      have k1 : Blk (w.alloc (.cells #[.bool ng, .int .u64 (m : Int), .int .i64 q, .bool st] 69)) (w.heap.size) 69 #[.bool ng, .int .u64 (m : Int), .int .i64 q, .bool st] := Blk.new w 69 #[.bool ng, .int .u64 (m : Int), .int .i64 q, .bool st]
      replace hb0 := hb0.trans (hv1.mono hb0.size)
      replace hT := hT.below hv1
      generalize (w.alloc (.cells #[.bool ng, .int .u64 (m : Int), .int .i64 q, .bool st] 69)) = v1 at *
      clear hv1
      refine (hTe _ hT).mono ?_
      rintro e w2 ⟨rfl, hb2⟩
      replace hb0 := hb0.trans (hb2.mono hb0.size)
      replace hT := hT.below hb2
      replace k1 := k1.below hb2 k1.lt
      clear hb2
      have hne : (q + (L : Int) - 1 != X + 127) = false := by simpa using ht
      have k1_c0 := k1.cell 0
      have k1_f0 := k1.frozen 0
      have k1_c1 := k1.cell 1
      have k1_f1 := k1.frozen 1
      have k1_c2 := k1.cell 2
      have k1_f2 := k1.frozen 2
      have k1_c3 := k1.cell 3
      have k1_f3 := k1.frozen 3
      have k1_z := k1.lt
      simp only [List.getElem?_toArray, List.getElem?_cons_zero, List.getElem?_cons_succ] at k1_c0 k1_c1 k1_c2 k1_c3
      have hk : (64 : Int) - (L : Int) = ((64 - L : Nat) : Int) := by omega
      go_wp2_with fail
      go_quiet ((go_at_call 65; exact Fo.quiet_left (len64 hm HL.out _)))
      go_wp2_with fail
      go_quiet ((go_at_call 93; exact Fo.quiet_add_left (leadingZ hm HL.out _)))
      go_wp2_with fail
      refine (hWh _ (hT.below (by repeat' (first | (with_reducible assumption) | (with_reducible exact Below.refl _ _) | (with_reducible refine bdn ?_ _) | (with_reducible refine Below.drew ?_) | (with_reducible refine Below.setCell ?_ ?_ _) | (with_reducible refine Below.alloc ?_ ?_ _) | go_size)))).mono ?_
      rintro e w3 ⟨rfl, hb3⟩
      have hb4 := Below.trans (b := _) (show Below w.heap.size w _ from (by repeat' (first | (with_reducible assumption) | (with_reducible exact Below.refl _ _) | (with_reducible refine bdn ?_ _) | (with_reducible refine Below.drew ?_) | (with_reducible refine Below.setCell ?_ ?_ _) | (with_reducible refine Below.alloc ?_ ?_ _) | go_size))) (hb3.mono (by have := hb0.size; simpa using this))
      go_wp2
      all_goals (go_ret2; exact ⟨rfl, hb4⟩)
    · subst hMH
      by_cases hlo : lo = 0
      · subst hlo
        cases XB
        · rw [show (decide (M < M) || decide (M = M) && (decide ((0 : Nat) ≠ 0) || !false)) = true by simp]
          have hb0 : Below w.heap.size w w := Below.refl _ _
          go_enter Tryd.func66, Tryd.ntmps66
          go_wp2_with fail
          have hv1 : Below w.heap.size w (w.alloc (.cells #[.bool ng, .int .u64 (m : Int), .int .i64 q, .bool st] 69)) := (Below.refl _ _).alloc (by first | exact Nat.le_refl _ | (simp; done) | (simp; omega)) _
          have k1 : Blk (w.alloc (.cells #[.bool ng, .int .u64 (m : Int), .int .i64 q, .bool st] 69)) (w.heap.size) 69 #[.bool ng, .int .u64 (m : Int), .int .i64 q, .bool st] := Blk.new w 69 #[.bool ng, .int .u64 (m : Int), .int .i64 q, .bool st]
          replace hb0 := hb0.trans (hv1.mono hb0.size)
          replace hT := hT.below hv1
          generalize (w.alloc (.cells #[.bool ng, .int .u64 (m : Int), .int .i64 q, .bool st] 69)) = v1 at *
          clear hv1
          refine (hTe _ hT).mono ?_
          rintro e w2 ⟨rfl, hb2⟩
          replace hb0 := hb0.trans (hb2.mono hb0.size)
          replace hT := hT.below hb2
          replace k1 := k1.below hb2 k1.lt
          clear hb2
          have hne : (q + (L : Int) - 1 != X + 127) = false := by simpa using ht
          have k1_c0 := k1.cell 0
          have k1_f0 := k1.frozen 0
          have k1_c1 := k1.cell 1
          have k1_f1 := k1.frozen 1
          have k1_c2 := k1.cell 2
          have k1_f2 := k1.frozen 2
          have k1_c3 := k1.cell 3
          have k1_f3 := k1.frozen 3
          have k1_z := k1.lt
          simp only [List.getElem?_toArray, List.getElem?_cons_zero, List.getElem?_cons_succ] at k1_c0 k1_c1 k1_c2 k1_c3
          have hk : (64 : Int) - (L : Int) = ((64 - L : Nat) : Int) := by omega
          go_wp2_with fail
          go_quiet ((go_at_call 65; exact Fo.quiet_left (len64 hm HL.out _)))
          go_wp2_with fail
          go_quiet ((go_at_call 93; exact Fo.quiet_add_left (leadingZ hm HL.out _)))
          go_wp2_with fail
          refine (hWh _ (hT.below (by repeat' (first | (with_reducible assumption) | (with_reducible exact Below.refl _ _) | (with_reducible refine bdn ?_ _) | (with_reducible refine Below.drew ?_) | (with_reducible refine Below.setCell ?_ ?_ _) | (with_reducible refine Below.alloc ?_ ?_ _) | go_size)))).mono ?_
          rintro e w3 ⟨rfl, hb3⟩
          have hb4 := Below.trans (b := _) (show Below w.heap.size w _ from (by repeat' (first | (with_reducible assumption) | (with_reducible exact Below.refl _ _) | (with_reducible refine bdn ?_ _) | (with_reducible refine Below.drew ?_) | (with_reducible refine Below.setCell ?_ ?_ _) | (with_reducible refine Below.alloc ?_ ?_ _) | go_size))) (hb3.mono (by have := hb0.size; simpa using this))
          go_wp2
          all_goals (go_ret2; exact ⟨rfl, hb4⟩)
        · rw [show (decide (M < M) || decide (M = M) && (decide ((0 : Nat) ≠ 0) || !true)) = false by simp]
          have hb0 : Below w.heap.size w w := Below.refl _ _
          go_enter Tryd.func66, Tryd.ntmps66
          go_wp2_with fail
          have hv1 : Below w.heap.size w (w.alloc (.cells #[.bool ng, .int .u64 (m : Int), .int .i64 q, .bool st] 69)) := (Below.refl _ _).alloc (by first | exact Nat.le_refl _ | (simp; done) | (simp; omega)) _
          have k1 : Blk (w.alloc (.cells #[.bool ng, .int .u64 (m : Int), .int .i64 q, .bool st] 69)) (w.heap.size) 69 #[.bool ng, .int .u64 (m : Int), .int .i64 q, .bool st] := Blk.new w 69 #[.bool ng, .int .u64 (m : Int), .int .i64 q, .bool st]
          replace hb0 := hb0.trans (hv1.mono hb0.size)
          replace hT := hT.below hv1
          generalize (w.alloc (.cells #[.bool ng, .int .u64 (m : Int), .int .i64 q, .bool st] 69)) = v1 at *
          clear hv1
          refine (hTe _ hT).mono ?_
          rintro e w2 ⟨rfl, hb2⟩
          replace hb0 := hb0.trans (hb2.mono hb0.size)
          replace hT := hT.below hb2
          replace k1 := k1.below hb2 k1.lt
          clear hb2
          have hne : (q + (L : Int) - 1 != X + 127) = false := by simpa using ht
          have k1_c0 := k1.cell 0
          have k1_f0 := k1.frozen 0
          have k1_c1 := k1.cell 1
          have k1_f1 := k1.frozen 1
          have k1_c2 := k1.cell 2
          have k1_f2 := k1.frozen 2
          have k1_c3 := k1.cell 3
          have k1_f3 := k1.frozen 3
          have k1_z := k1.lt
          simp only [List.getElem?_toArray, List.getElem?_cons_zero, List.getElem?_cons_succ] at k1_c0 k1_c1 k1_c2 k1_c3
          have hk : (64 : Int) - (L : Int) = ((64 - L : Nat) : Int) := by omega
          go_wp2_with fail
          go_quiet ((go_at_call 65; exact Fo.quiet_left (len64 hm HL.out _)))
          go_wp2_with fail
          go_quiet ((go_at_call 93; exact Fo.quiet_add_left (leadingZ hm HL.out _)))
          go_wp2_with fail
          refine (hWh _ (hT.below (by repeat' (first | (with_reducible assumption) | (with_reducible exact Below.refl _ _) | (with_reducible refine bdn ?_ _) | (with_reducible refine Below.drew ?_) | (with_reducible refine Below.setCell ?_ ?_ _) | (with_reducible refine Below.alloc ?_ ?_ _) | go_size)))).mono ?_
          rintro e w3 ⟨rfl, hb3⟩
          have hb4 := Below.trans (b := _) (show Below w.heap.size w _ from (by repeat' (first | (with_reducible assumption) | (with_reducible exact Below.refl _ _) | (with_reducible refine bdn ?_ _) | (with_reducible refine Below.drew ?_) | (with_reducible refine Below.setCell ?_ ?_ _) | (with_reducible refine Below.alloc ?_ ?_ _) | go_size))) (hb3.mono (by have := hb0.size; simpa using this))
          go_wp2
          all_goals (go_ret2; exact ⟨rfl, hb4⟩)
      · have hD1 : ((lo : Int) != 0) = true := by rw [bne_iff_ne]; omega
        rw [show (decide (M < M) || decide (M = M) && (decide (lo ≠ 0) || !XB)) = true by simp [hlo]]
        have hb0 : Below w.heap.size w w := Below.refl _ _
        go_enter Tryd.func66, Tryd.ntmps66
        go_wp2_with fail
        have hv1 : Below w.heap.size w (w.alloc (.cells #[.bool ng, .int .u64 (m : Int), .int .i64 q, .bool st] 69)) := (Below.refl _ _).alloc (by first | exact Nat.le_refl _ | (simp; done) | (simp; omega)) _
        have k1 : Blk (w.alloc (.cells #[.bool ng, .int .u64 (m : Int), .int .i64 q, .bool st] 69)) (w.heap.size) 69 #[.bool ng, .int .u64 (m : Int), .int .i64 q, .bool st] := Blk.new w 69 #[.bool ng, .int .u64 (m : Int), .int .i64 q, .bool st]
        replace hb0 := hb0.trans (hv1.mono hb0.size)
        replace hT := hT.below hv1
        generalize (w.alloc (.cells #[.bool ng, .int .u64 (m : Int), .int .i64 q, .bool st] 69)) = v1 at *
        clear hv1
        refine (hTe _ hT).mono ?_
        rintro e w2 ⟨rfl, hb2⟩
        replace hb0 := hb0.trans (hb2.mono hb0.size)
        replace hT := hT.below hb2
        replace k1 := k1.below hb2 k1.lt
        clear hb2
        have hne : (q + (L : Int) - 1 != X + 127) = false := by simpa using ht
        have k1_c0 := k1.cell 0
        have k1_f0 := k1.frozen 0
        have k1_c1 := k1.cell 1
        have k1_f1 := k1.frozen 1
        have k1_c2 := k1.cell 2
        have k1_f2 := k1.frozen 2
        have k1_c3 := k1.cell 3
        have k1_f3 := k1.frozen 3
        have k1_z := k1.lt
        simp only [List.getElem?_toArray, List.getElem?_cons_zero, List.getElem?_cons_succ] at k1_c0 k1_c1 k1_c2 k1_c3
        have hk : (64 : Int) - (L : Int) = ((64 - L : Nat) : Int) := by omega
        go_wp2_with fail
        go_quiet ((go_at_call 65; exact Fo.quiet_left (len64 hm HL.out _)))
        go_wp2_with fail
        go_quiet ((go_at_call 93; exact Fo.quiet_add_left (leadingZ hm HL.out _)))
        go_wp2_with fail
        refine (hWh _ (hT.below (by repeat' (first | (with_reducible assumption) | (with_reducible exact Below.refl _ _) | (with_reducible refine bdn ?_ _) | (with_reducible refine Below.drew ?_) | (with_reducible refine Below.setCell ?_ ?_ _) | (with_reducible refine Below.alloc ?_ ?_ _) | go_size)))).mono ?_
        rintro e w3 ⟨rfl, hb3⟩
        have hb4 := Below.trans (b := _) (show Below w.heap.size w _ from (by repeat' (first | (with_reducible assumption) | (with_reducible exact Below.refl _ _) | (with_reducible refine bdn ?_ _) | (with_reducible refine Below.drew ?_) | (with_reducible refine Below.setCell ?_ ?_ _) | (with_reducible refine Below.alloc ?_ ?_ _) | go_size))) (hb3.mono (by have := hb0.size; simpa using this))
        go_wp2
        all_goals (go_ret2; exact ⟨rfl, hb4⟩)
    · have hD1 : decide (M < H) = false := by rw [decide_eq_false]; omega
      have hD2 : ((M : Int) == (H : Int)) = false := by rw [beq_eq_false_iff_ne]; omega
      rw [hD1, Bool.false_or, decide_eq_false (show ¬ M = H by omega), Bool.false_and]
      have hb0 : Below w.heap.size w w := Below.refl _ _
      go_enter Tryd.func66, Tryd.ntmps66
      go_wp2_with fail
      have hv1 : Below w.heap.size w (w.alloc (.cells #[.bool ng, .int .u64 (m : Int), .int .i64 q, .bool st] 69)) := (Below.refl _ _).alloc (by first | exact Nat.le_refl _ | (simp; done) | (simp; omega)) _
      have k1 : Blk (w.alloc (.cells #[.bool ng, .int .u64 (m : Int), .int .i64 q, .bool st] 69)) (w.heap.size) 69 #[.bool ng, .int .u64 (m : Int), .int .i64 q, .bool st] := Blk.new w 69 #[.bool ng, .int .u64 (m : Int), .int .i64 q, .bool st]
      replace hb0 := hb0.trans (hv1.mono hb0.size)
      replace hT := hT.below hv1
      generalize (w.alloc (.cells #[.bool ng, .int .u64 (m : Int), .int .i64 q, .bool st] 69)) = v1 at *
      clear hv1
      refine (hTe _ hT).mono ?_
      rintro e w2 ⟨rfl, hb2⟩
      replace hb0 := hb0.trans (hb2.mono hb0.size)
      replace hT := hT.below hb2
      replace k1 := k1.below hb2 k1.lt
      clear hb2
      have hne : (q + (L : Int) - 1 != X + 127) = false := by simpa using ht
      have k1_c0 := k1.cell 0
      have k1_f0 := k1.frozen 0
      have k1_c1 := k1.cell 1
      have k1_f1 := k1.frozen 1
      have k1_c2 := k1.cell 2
      have k1_f2 := k1.frozen 2
      have k1_c3 := k1.cell 3
      have k1_f3 := k1.frozen 3
      have k1_z := k1.lt
      simp only [List.getElem?_toArray, List.getElem?_cons_zero, List.getElem?_cons_succ] at k1_c0 k1_c1 k1_c2 k1_c3
      have hk : (64 : Int) - (L : Int) = ((64 - L : Nat) : Int) := by omega
      go_wp2_with fail
      go_quiet ((go_at_call 65; exact Fo.quiet_left (len64 hm HL.out _)))
      go_wp2_with fail
      go_quiet ((go_at_call 93; exact Fo.quiet_add_left (leadingZ hm HL.out _)))
      go_wp2_with fail
      refine (hWh _ (hT.below (by repeat' (first | (with_reducible assumption) | (with_reducible exact Below.refl _ _) | (with_reducible refine bdn ?_ _) | (with_reducible refine Below.drew ?_) | (with_reducible refine Below.setCell ?_ ?_ _) | (with_reducible refine Below.alloc ?_ ?_ _) | go_size)))).mono ?_
      rintro e w3 ⟨rfl, hb3⟩
      have hb4 := Below.trans (b := _) (show Below w.heap.size w _ from (by repeat' (first | (with_reducible assumption) | (with_reducible exact Below.refl _ _) | (with_reducible refine bdn ?_ _) | (with_reducible refine Below.drew ?_) | (with_reducible refine Below.setCell ?_ ?_ _) | (with_reducible refine Below.alloc ?_ ?_ _) | go_size))) (hb3.mono (by have := hb0.size; simpa using this))
      go_wp2
      all_goals (go_ret2; exact ⟨rfl, hb4⟩)
  · rw [if_pos ht]
    clear hsh
    have hb0 : Below w.heap.size w w := Below.refl _ _
    go_enter Tryd.func66, Tryd.ntmps66
    go_wp2_with fail
    have hv1 : Below w.heap.size w (w.alloc (.cells #[.bool ng, .int .u64 (m : Int), .int .i64 q, .bool st] 69)) := (Below.refl _ _).alloc (by first | exact Nat.le_refl _ | (simp; done) | (simp; omega)) _
    have k1 : Blk (w.alloc (.cells #[.bool ng, .int .u64 (m : Int), .int .i64 q, .bool st] 69)) (w.heap.size) 69 #[.bool ng, .int .u64 (m : Int), .int .i64 q, .bool st] := Blk.new w 69 #[.bool ng, .int .u64 (m : Int), .int .i64 q, .bool st]
    replace hb0 := hb0.trans (hv1.mono hb0.size)
    replace hT := hT.below hv1
    generalize (w.alloc (.cells #[.bool ng, .int .u64 (m : Int), .int .i64 q, .bool st] 69)) = v1 at *
    clear hv1
    refine (hTe _ hT).mono ?_
    rintro e w2 ⟨rfl, hb2⟩
    replace hb0 := hb0.trans (hb2.mono hb0.size)
    replace hT := hT.below hb2
    replace k1 := k1.below hb2 k1.lt
    clear hb2
    have hne : (q + (L : Int) - 1 != X + 127) = true := by simpa using ht
    have k1_c0 := k1.cell 0
    have k1_f0 := k1.frozen 0
    have k1_c1 := k1.cell 1
    have k1_f1 := k1.frozen 1
    have k1_c2 := k1.cell 2
    have k1_f2 := k1.frozen 2
    have k1_c3 := k1.cell 3
    have k1_f3 := k1.frozen 3
    have k1_z := k1.lt
    simp only [List.getElem?_toArray, List.getElem?_cons_zero, List.getElem?_cons_succ] at k1_c0 k1_c1 k1_c2 k1_c3
    go_wp2_with fail
    go_quiet ((go_at_call 65; exact Fo.quiet_left (len64 hm HL.out _)))
    go_wp2
    go_ret2
    exact ⟨rfl, bdn hb0 _⟩
end Go.Proofs.YtenekbfnlbipiaaDoor
