/- Walk: the power of ten of the first digit. -/
import Derived.Test.YtenekbfnlbipiaaGreatDoorSuA
import Derived.LoopN
import Derived.Laws.Rows
namespace Go.Proofs.YtenekbfnlbipiaaGreatDoor
open Go.RowKit
set_option linter.unusedVariables false
set_option linter.unusedSimpArgs false
set_option maxHeartbeats 4000000
set_option maxRecDepth 100000

theorem sure_first (ng st : Bool) (m : Nat) (q P : Int) (h0 : m ≠ 0) (hm : m < 9007199254740992) (hq1 : -1074 ≤ q) (hq2 : q ≤ 1022) (hP : IsFirst m q P) (hP1 : -350 ≤ P) (hP2 : P < 350) (w : World) (hT : Tab5 w) :
    Calls Tryz.prog 11 #[.agg #[.bool ng, .int .u64 (m : Int), .int .i64 q, .bool st]] w (Says w (.tuple #[.int .i64 P, .int .i64 0])) := by
  have hm64 : m < 18446744073709551616 := by omega
  have hL1 : 1 ≤ bitLen m ∧ bitLen m ≤ 64 := ⟨(bitLen_bd h0).2.2, (suLen hm64).2⟩
  obtain ⟨L, hL⟩ : ∃ L, L = bitLen m := ⟨_, rfl⟩
  rw [← hL] at hL1
  have HL := Lib.hid hL
  have HP := Lib.hid hP
  have H0 := Lib.hid h0
  clear hL hP h0
  obtain ⟨l1, l2⟩ := hL1
  have hb0 : Below w.heap.size w w := Below.refl _ _
  go_enter Tryz.func11, Tryz.ntmps11
  go_wp2_with fail
  have hv1 : Below w.heap.size w (w.alloc (.cells #[.bool ng, .int .u64 (m : Int), .int .i64 q, .bool st] 37)) := (Below.refl _ _).alloc (by first | exact Nat.le_refl _ | (simp; done) | (simp; omega)) _
  have k1 : Blk (w.alloc (.cells #[.bool ng, .int .u64 (m : Int), .int .i64 q, .bool st] 37)) (w.heap.size) 37 #[.bool ng, .int .u64 (m : Int), .int .i64 q, .bool st] := Blk.new w 37 #[.bool ng, .int .u64 (m : Int), .int .i64 q, .bool st]
  replace hb0 := hb0.trans (hv1.mono hb0.size)
  replace hT := hT.below hv1
  generalize (w.alloc (.cells #[.bool ng, .int .u64 (m : Int), .int .i64 q, .bool st] 37)) = v1 at *
  clear hv1
  have k1_c0 := k1.cell 0
  have k1_f0 := k1.frozen 0
  have k1_c1 := k1.cell 1
  have k1_f1 := k1.frozen 1
  have k1_c2 := k1.cell 2
  have k1_f2 := k1.frozen 2
  have k1_c3 := k1.cell 3
  have k1_f3 := k1.frozen 3
  have k1_z := k1.lt
  simp only [List.getElem?_toArray, List.getElem?_cons_zero, List.getElem?_cons_succ] at k1_c0 k1_c1 k1_c2 k1_c3
  go_quiet ((go_at_call 33; exact Fo.quiet_left (len64 hm64 HL.out _)))
  clear k1_c0 k1_f0 k1_c1 k1_f1 k1_c2 k1_f2 k1_c3 k1_f3 k1_z
  obtain ⟨G, hG, g1, g2⟩ : ∃ G, ((q + (L : Int) - 1) * 30103).tdiv 100000 = G ∧ -335 ≤ G ∧ G ≤ 335 := by
    refine ⟨_, rfl, ?_, ?_⟩
    · rcases Int.le_total 0 ((q + (L : Int) - 1) * 30103) with h | h
      · rw [Int.tdiv_eq_ediv_of_nonneg h]; omega
      · have : ((q + (L : Int) - 1) * 30103) = -(-((q + (L : Int) - 1) * 30103)) := by omega
        rw [this, Int.neg_tdiv, Int.tdiv_eq_ediv_of_nonneg (by omega)]; omega
    · rcases Int.le_total 0 ((q + (L : Int) - 1) * 30103) with h | h
      · rw [Int.tdiv_eq_ediv_of_nonneg h]; omega
      · have : ((q + (L : Int) - 1) * 30103) = -(-((q + (L : Int) - 1) * 30103)) := by omega
        rw [this, Int.neg_tdiv, Int.tdiv_eq_ediv_of_nonneg (by omega)]; omega
  by_cases htop : q + (L : Int) - 1 < 0
  · have htd : decide (q + (L : Int) - 1 < 0) = true := decide_eq_true htop
    go_wp2
    go_loopw [5] (fun v5 wr => ∃ p : Int, v5 = .int .i64 p ∧ -399 ≤ p ∧ p ≤ 398 ∧ Blk wr w.heap.size 37 #[.bool ng, .int .u64 (m : Int), .int .i64 q, .bool st] ∧ Tab5 wr ∧ Below w.heap.size w wr) (fun v5 _ => (P - intOf v5).natAbs)
    case atStart => exact ⟨_, rfl, by omega, by omega, k1.drewN _, hT.below (bdn (Below.refl _ _) _), bdn hb0 _⟩
    case round =>
      obtain ⟨p, rfl, p1, p2, kk, hTr, hbr⟩ := hrel
      have hf1 : farB (p + 1) = false := by simp only [farB, Bool.or_eq_false_iff, decide_eq_false_iff_not]; omega
      have hf0 : farB p = false := by simp only [farB, Bool.or_eq_false_iff, decide_eq_false_iff_not]; omega
      have hC1 := fun W hT => sure_below ng st m q (p + 1) H0.out hm64 (by omega) (by omega) hf1 W hT
      have hC0 := fun W hT => sure_below ng st m q p H0.out hm64 (by omega) (by omega) hf0 W hT
      rw [HP.out.iff] at hC1 hC0
      clear hf1 hf0
      have kk_c0 := kk.cell 0
      have kk_c1 := kk.cell 1
      have kk_c2 := kk.cell 2
      have kk_c3 := kk.cell 3
      simp only [List.getElem?_toArray, List.getElem?_cons_zero, List.getElem?_cons_succ] at kk_c0 kk_c1 kk_c2 kk_c3
      have kk_z := kk.lt
      by_cases h1 : P < p + 1
      · rw [decide_eq_true h1] at hC1
        by_cases h2 : P < p
        · rw [decide_eq_true h2] at hC0
          go_wp2_with fail
          refine (hC1 _ hTr).mono ?_
          rintro e w1 ⟨rfl, hb1⟩
          replace hbr := hbr.trans (hb1.mono hbr.size)
          replace hTr := hTr.below hb1
          replace kk := kk.below hb1 kk_z
          clear kk_c0 kk_c1 kk_c2 kk_c3
          have kk_c0 := kk.cell 0
          have kk_c1 := kk.cell 1
          have kk_c2 := kk.cell 2
          have kk_c3 := kk.cell 3
          simp only [List.getElem?_toArray, List.getElem?_cons_zero, List.getElem?_cons_succ] at kk_c0 kk_c1 kk_c2 kk_c3
          replace kk_z := kk.lt
          clear hb1
          go_wp2_with fail
          refine (hC0 _ hTr).mono ?_
          rintro e w2 ⟨rfl, hb2⟩
          replace hbr := hbr.trans (hb2.mono hbr.size)
          replace hTr := hTr.below hb2
          replace kk := kk.below hb2 kk_z
          clear kk_c0 kk_c1 kk_c2 kk_c3
          have kk_c0 := kk.cell 0
          have kk_c1 := kk.cell 1
          have kk_c2 := kk.cell 2
          have kk_c3 := kk.cell 3
          simp only [List.getElem?_toArray, List.getElem?_cons_zero, List.getElem?_cons_succ] at kk_c0 kk_c1 kk_c2 kk_c3
          replace kk_z := kk.lt
          clear hb2
          go_wp2
          go_roundw
          case rel => exact ⟨_, rfl, by omega, by omega, kk, hTr, hbr⟩
          case measure => first | (simp [intOf]; done) | (simp [intOf]; omega)
        · rw [decide_eq_false h2] at hC0
          go_wp2_with fail
          refine (hC1 _ hTr).mono ?_
          rintro e w1 ⟨rfl, hb1⟩
          replace hbr := hbr.trans (hb1.mono hbr.size)
          replace hTr := hTr.below hb1
          replace kk := kk.below hb1 kk_z
          clear kk_c0 kk_c1 kk_c2 kk_c3
          have kk_c0 := kk.cell 0
          have kk_c1 := kk.cell 1
          have kk_c2 := kk.cell 2
          have kk_c3 := kk.cell 3
          simp only [List.getElem?_toArray, List.getElem?_cons_zero, List.getElem?_cons_succ] at kk_c0 kk_c1 kk_c2 kk_c3
          replace kk_z := kk.lt
          clear hb1
          go_wp2_with fail
          refine (hC0 _ hTr).mono ?_
          rintro e w2 ⟨rfl, hb2⟩
          replace hbr := hbr.trans (hb2.mono hbr.size)
          replace hTr := hTr.below hb2
          replace kk := kk.below hb2 kk_z
          clear kk_c0 kk_c1 kk_c2 kk_c3
          have kk_c0 := kk.cell 0
          have kk_c1 := kk.cell 1
          have kk_c2 := kk.cell 2
          have kk_c3 := kk.cell 3
          simp only [List.getElem?_toArray, List.getElem?_cons_zero, List.getElem?_cons_succ] at kk_c0 kk_c1 kk_c2 kk_c3
          replace kk_z := kk.lt
          clear hb2
          go_wp2
          obtain rfl : p = P := by omega
          go_ret2
          exact ⟨rfl, hbr⟩
      · rw [decide_eq_false h1] at hC1
        go_wp2_with fail
        refine (hC1 _ hTr).mono ?_
        rintro e w1 ⟨rfl, hb1⟩
        replace hbr := hbr.trans (hb1.mono hbr.size)
        replace hTr := hTr.below hb1
        replace kk := kk.below hb1 kk_z
        clear kk_c0 kk_c1 kk_c2 kk_c3
        have kk_c0 := kk.cell 0
        have kk_c1 := kk.cell 1
        have kk_c2 := kk.cell 2
        have kk_c3 := kk.cell 3
        simp only [List.getElem?_toArray, List.getElem?_cons_zero, List.getElem?_cons_succ] at kk_c0 kk_c1 kk_c2 kk_c3
        replace kk_z := kk.lt
        clear hb1
        go_wp2
        go_roundw
        case rel => exact ⟨_, rfl, by omega, by omega, kk, hTr, hbr⟩
        case measure => first | (simp [intOf]; done) | (simp [intOf]; omega)
  · have htd : decide (q + (L : Int) - 1 < 0) = false := decide_eq_false htop
    go_wp2
    go_loopw [5] (fun v5 wr => ∃ p : Int, v5 = .int .i64 p ∧ -399 ≤ p ∧ p ≤ 398 ∧ Blk wr w.heap.size 37 #[.bool ng, .int .u64 (m : Int), .int .i64 q, .bool st] ∧ Tab5 wr ∧ Below w.heap.size w wr) (fun v5 _ => (P - intOf v5).natAbs)
    case atStart => exact ⟨_, rfl, by omega, by omega, k1.drewN _, hT.below (bdn (Below.refl _ _) _), bdn hb0 _⟩
    case round =>
      obtain ⟨p, rfl, p1, p2, kk, hTr, hbr⟩ := hrel
      have hf1 : farB (p + 1) = false := by simp only [farB, Bool.or_eq_false_iff, decide_eq_false_iff_not]; omega
      have hf0 : farB p = false := by simp only [farB, Bool.or_eq_false_iff, decide_eq_false_iff_not]; omega
      have hC1 := fun W hT => sure_below ng st m q (p + 1) H0.out hm64 (by omega) (by omega) hf1 W hT
      have hC0 := fun W hT => sure_below ng st m q p H0.out hm64 (by omega) (by omega) hf0 W hT
      rw [HP.out.iff] at hC1 hC0
      clear hf1 hf0
      have kk_c0 := kk.cell 0
      have kk_c1 := kk.cell 1
      have kk_c2 := kk.cell 2
      have kk_c3 := kk.cell 3
      simp only [List.getElem?_toArray, List.getElem?_cons_zero, List.getElem?_cons_succ] at kk_c0 kk_c1 kk_c2 kk_c3
      have kk_z := kk.lt
      by_cases h1 : P < p + 1
      · rw [decide_eq_true h1] at hC1
        by_cases h2 : P < p
        · rw [decide_eq_true h2] at hC0
          go_wp2_with fail
          refine (hC1 _ hTr).mono ?_
          rintro e w1 ⟨rfl, hb1⟩
          replace hbr := hbr.trans (hb1.mono hbr.size)
          replace hTr := hTr.below hb1
          replace kk := kk.below hb1 kk_z
          clear kk_c0 kk_c1 kk_c2 kk_c3
          have kk_c0 := kk.cell 0
          have kk_c1 := kk.cell 1
          have kk_c2 := kk.cell 2
          have kk_c3 := kk.cell 3
          simp only [List.getElem?_toArray, List.getElem?_cons_zero, List.getElem?_cons_succ] at kk_c0 kk_c1 kk_c2 kk_c3
          replace kk_z := kk.lt
          clear hb1
          go_wp2_with fail
          refine (hC0 _ hTr).mono ?_
          rintro e w2 ⟨rfl, hb2⟩
          replace hbr := hbr.trans (hb2.mono hbr.size)
          replace hTr := hTr.below hb2
          replace kk := kk.below hb2 kk_z
          clear kk_c0 kk_c1 kk_c2 kk_c3
          have kk_c0 := kk.cell 0
          have kk_c1 := kk.cell 1
          have kk_c2 := kk.cell 2
          have kk_c3 := kk.cell 3
          simp only [List.getElem?_toArray, List.getElem?_cons_zero, List.getElem?_cons_succ] at kk_c0 kk_c1 kk_c2 kk_c3
          replace kk_z := kk.lt
          clear hb2
          go_wp2
          go_roundw
          case rel => exact ⟨_, rfl, by omega, by omega, kk, hTr, hbr⟩
          case measure => first | (simp [intOf]; done) | (simp [intOf]; omega)
        · rw [decide_eq_false h2] at hC0
          go_wp2_with fail
          refine (hC1 _ hTr).mono ?_
          rintro e w1 ⟨rfl, hb1⟩
          replace hbr := hbr.trans (hb1.mono hbr.size)
          replace hTr := hTr.below hb1
          replace kk := kk.below hb1 kk_z
          clear kk_c0 kk_c1 kk_c2 kk_c3
          have kk_c0 := kk.cell 0
          have kk_c1 := kk.cell 1
          have kk_c2 := kk.cell 2
          have kk_c3 := kk.cell 3
          simp only [List.getElem?_toArray, List.getElem?_cons_zero, List.getElem?_cons_succ] at kk_c0 kk_c1 kk_c2 kk_c3
          replace kk_z := kk.lt
          clear hb1
          go_wp2_with fail
          refine (hC0 _ hTr).mono ?_
          rintro e w2 ⟨rfl, hb2⟩
          replace hbr := hbr.trans (hb2.mono hbr.size)
          replace hTr := hTr.below hb2
          replace kk := kk.below hb2 kk_z
          clear kk_c0 kk_c1 kk_c2 kk_c3
          have kk_c0 := kk.cell 0
          have kk_c1 := kk.cell 1
          have kk_c2 := kk.cell 2
          have kk_c3 := kk.cell 3
          simp only [List.getElem?_toArray, List.getElem?_cons_zero, List.getElem?_cons_succ] at kk_c0 kk_c1 kk_c2 kk_c3
          replace kk_z := kk.lt
          clear hb2
          go_wp2
          obtain rfl : p = P := by omega
          go_ret2
          exact ⟨rfl, hbr⟩
      · rw [decide_eq_false h1] at hC1
        go_wp2_with fail
        refine (hC1 _ hTr).mono ?_
        rintro e w1 ⟨rfl, hb1⟩
        replace hbr := hbr.trans (hb1.mono hbr.size)
        replace hTr := hTr.below hb1
        replace kk := kk.below hb1 kk_z
        clear kk_c0 kk_c1 kk_c2 kk_c3
        have kk_c0 := kk.cell 0
        have kk_c1 := kk.cell 1
        have kk_c2 := kk.cell 2
        have kk_c3 := kk.cell 3
        simp only [List.getElem?_toArray, List.getElem?_cons_zero, List.getElem?_cons_succ] at kk_c0 kk_c1 kk_c2 kk_c3
        replace kk_z := kk.lt
        clear hb1
        go_wp2
        go_roundw
        case rel => exact ⟨_, rfl, by omega, by omega, kk, hTr, hbr⟩
        case measure => first | (simp [intOf]; done) | (simp [intOf]; omega)

theorem next_low (h l : Nat) (hl : l < 18446744073709551615) (w : World) :
    Calls Tryz.prog 37 #[.agg #[.int .u64 0, .int .u64 0, .int .u64 (h : Int), .int .u64 (l : Int)]] w (Says w (.agg #[.int .u64 0, .int .u64 0, .int .u64 (h : Int), .int .u64 ((l : Int) + 1)])) := by
  have hne : ((l : Int) + 1 != 0) = true := by rw [bne_iff_ne]; omega
  have hb0 : Below w.heap.size w w := Below.refl _ _
  go_enter Tryz.func37, Tryz.ntmps37
  go_wp2_with fail
  have hv1 : Below w.heap.size w ((w.alloc (.cells #[.int .u64 0, .int .u64 0, .int .u64 (h : Int), .int .u64 (l : Int)] 43)).alloc (.cells #[.int .u64 0, .int .u64 0, .int .u64 0, .int .u64 0] 43)) := ((Below.refl _ _).alloc (by first | exact Nat.le_refl _ | (simp; done) | (simp; omega)) _).alloc (by first | exact Nat.le_refl _ | (simp; done) | (simp; omega)) _
  have k1 : Blk ((w.alloc (.cells #[.int .u64 0, .int .u64 0, .int .u64 (h : Int), .int .u64 (l : Int)] 43)).alloc (.cells #[.int .u64 0, .int .u64 0, .int .u64 0, .int .u64 0] 43)) (w.heap.size) 43 #[.int .u64 0, .int .u64 0, .int .u64 (h : Int), .int .u64 (l : Int)] := (Blk.new w 43 #[.int .u64 0, .int .u64 0, .int .u64 (h : Int), .int .u64 (l : Int)]).alloc _
  have k2 : Blk ((w.alloc (.cells #[.int .u64 0, .int .u64 0, .int .u64 (h : Int), .int .u64 (l : Int)] 43)).alloc (.cells #[.int .u64 0, .int .u64 0, .int .u64 0, .int .u64 0] 43)) (w.heap.size + 1) 43 #[.int .u64 0, .int .u64 0, .int .u64 0, .int .u64 0] := by
    have := Blk.new (w.alloc (.cells #[.int .u64 0, .int .u64 0, .int .u64 (h : Int), .int .u64 (l : Int)] 43)) 43 #[.int .u64 0, .int .u64 0, .int .u64 0, .int .u64 0]
    simpa using this
  replace hb0 := hb0.trans (hv1.mono hb0.size)
  generalize ((w.alloc (.cells #[.int .u64 0, .int .u64 0, .int .u64 (h : Int), .int .u64 (l : Int)] 43)).alloc (.cells #[.int .u64 0, .int .u64 0, .int .u64 0, .int .u64 0] 43)) = v1 at *
  clear hv1
  have k1_c0 := k1.cell 0
  have k1_f0 := k1.frozen 0
  have k1_c1 := k1.cell 1
  have k1_f1 := k1.frozen 1
  have k1_c2 := k1.cell 2
  have k1_f2 := k1.frozen 2
  have k1_c3 := k1.cell 3
  have k1_f3 := k1.frozen 3
  have k1_z := k1.lt
  have k2_c0 := k2.cell 0
  have k2_f0 := k2.frozen 0
  have k2_c1 := k2.cell 1
  have k2_f1 := k2.frozen 1
  have k2_c2 := k2.cell 2
  have k2_f2 := k2.frozen 2
  have k2_c3 := k2.cell 3
  have k2_f3 := k2.frozen 3
  have k2_z := k2.lt
  simp only [List.getElem?_toArray, List.getElem?_cons_zero, List.getElem?_cons_succ] at k1_c0 k1_c1 k1_c2 k1_c3 k2_c0 k2_c1 k2_c2 k2_c3
  refine wp_loop_rounds 4 ?_
  rw [rounds_succ]
  go_wp2
  refine bodyPost_ret (v := .agg #[.int .u64 0, .int .u64 0, .int .u64 (h : Int), .int .u64 ((l : Int) + 1)]) ?_ rfl ⟨rfl, (((((hb0.setCell (p := ⟨w.heap.size, 3, none⟩) (by simp) _).setCell (p := ⟨w.heap.size + 1, 0, none⟩) (by simp) _).setCell (p := ⟨w.heap.size + 1, 1, none⟩) (by simp) _).setCell (p := ⟨w.heap.size + 1, 2, none⟩) (by simp) _).setCell (p := ⟨w.heap.size + 1, 3, none⟩) (by simp) _)⟩
  refine results_cell_row rfl _ _ (w.heap.size + 1) _ _ _ _ ?_ (((((k2.far (p := ⟨w.heap.size, 3, none⟩) (by simp) _).set_ 0 _).set_ 1 _).set_ 2 _).set_ 3 _) Tryz.underlying43 rfl (by kernel_rfl)
  rfl

theorem next_mid (h : Nat) (hl : h < 18446744073709551615) (w : World) :
    Calls Tryz.prog 37 #[.agg #[.int .u64 0, .int .u64 0, .int .u64 (h : Int), .int .u64 18446744073709551615]] w (Says w (.agg #[.int .u64 0, .int .u64 0, .int .u64 ((h : Int) + 1), .int .u64 0])) := by
  have hne : ((h : Int) + 1 != 0) = true := by rw [bne_iff_ne]; omega
  have hb0 : Below w.heap.size w w := Below.refl _ _
  go_enter Tryz.func37, Tryz.ntmps37
  go_wp2_with fail
  have hv1 : Below w.heap.size w ((w.alloc (.cells #[.int .u64 0, .int .u64 0, .int .u64 (h : Int), .int .u64 18446744073709551615] 43)).alloc (.cells #[.int .u64 0, .int .u64 0, .int .u64 0, .int .u64 0] 43)) := ((Below.refl _ _).alloc (by first | exact Nat.le_refl _ | (simp; done) | (simp; omega)) _).alloc (by first | exact Nat.le_refl _ | (simp; done) | (simp; omega)) _
  have k1 : Blk ((w.alloc (.cells #[.int .u64 0, .int .u64 0, .int .u64 (h : Int), .int .u64 18446744073709551615] 43)).alloc (.cells #[.int .u64 0, .int .u64 0, .int .u64 0, .int .u64 0] 43)) (w.heap.size) 43 #[.int .u64 0, .int .u64 0, .int .u64 (h : Int), .int .u64 18446744073709551615] := (Blk.new w 43 #[.int .u64 0, .int .u64 0, .int .u64 (h : Int), .int .u64 18446744073709551615]).alloc _
  have k2 : Blk ((w.alloc (.cells #[.int .u64 0, .int .u64 0, .int .u64 (h : Int), .int .u64 18446744073709551615] 43)).alloc (.cells #[.int .u64 0, .int .u64 0, .int .u64 0, .int .u64 0] 43)) (w.heap.size + 1) 43 #[.int .u64 0, .int .u64 0, .int .u64 0, .int .u64 0] := by
    have := Blk.new (w.alloc (.cells #[.int .u64 0, .int .u64 0, .int .u64 (h : Int), .int .u64 18446744073709551615] 43)) 43 #[.int .u64 0, .int .u64 0, .int .u64 0, .int .u64 0]
    simpa using this
  replace hb0 := hb0.trans (hv1.mono hb0.size)
  generalize ((w.alloc (.cells #[.int .u64 0, .int .u64 0, .int .u64 (h : Int), .int .u64 18446744073709551615] 43)).alloc (.cells #[.int .u64 0, .int .u64 0, .int .u64 0, .int .u64 0] 43)) = v1 at *
  clear hv1
  have k1_c0 := k1.cell 0
  have k1_f0 := k1.frozen 0
  have k1_c1 := k1.cell 1
  have k1_f1 := k1.frozen 1
  have k1_c2 := k1.cell 2
  have k1_f2 := k1.frozen 2
  have k1_c3 := k1.cell 3
  have k1_f3 := k1.frozen 3
  have k1_z := k1.lt
  have k2_c0 := k2.cell 0
  have k2_f0 := k2.frozen 0
  have k2_c1 := k2.cell 1
  have k2_f1 := k2.frozen 1
  have k2_c2 := k2.cell 2
  have k2_f2 := k2.frozen 2
  have k2_c3 := k2.cell 3
  have k2_f3 := k2.frozen 3
  have k2_z := k2.lt
  simp only [List.getElem?_toArray, List.getElem?_cons_zero, List.getElem?_cons_succ] at k1_c0 k1_c1 k1_c2 k1_c3 k2_c0 k2_c1 k2_c2 k2_c3
  refine wp_loop_rounds 4 ?_
  rw [rounds_succ]
  go_wp2
  rw [rounds_succ]
  go_wp2
  refine bodyPost_ret (v := .agg #[.int .u64 0, .int .u64 0, .int .u64 ((h : Int) + 1), .int .u64 0]) ?_ rfl ⟨rfl, ((((((hb0.setCell (p := ⟨w.heap.size, 3, none⟩) (by simp) _).setCell (p := ⟨w.heap.size, 2, none⟩) (by simp) _).setCell (p := ⟨w.heap.size + 1, 0, none⟩) (by simp) _).setCell (p := ⟨w.heap.size + 1, 1, none⟩) (by simp) _).setCell (p := ⟨w.heap.size + 1, 2, none⟩) (by simp) _).setCell (p := ⟨w.heap.size + 1, 3, none⟩) (by simp) _)⟩
  refine results_cell_row rfl _ _ (w.heap.size + 1) _ _ _ _ ?_ ((((((k2.far (p := ⟨w.heap.size, 3, none⟩) (by simp) _).far (p := ⟨w.heap.size, 2, none⟩) (by simp) _).set_ 0 _).set_ 1 _).set_ 2 _).set_ 3 _) Tryz.underlying43 rfl (by kernel_rfl)
  rfl

theorem next_top (w : World) :
    Calls Tryz.prog 37 #[.agg #[.int .u64 0, .int .u64 0, .int .u64 18446744073709551615, .int .u64 18446744073709551615]] w (Says w (.agg #[.int .u64 0, .int .u64 1, .int .u64 0, .int .u64 0])) := by
  have hb0 : Below w.heap.size w w := Below.refl _ _
  go_enter Tryz.func37, Tryz.ntmps37
  go_wp2_with fail
  have hv1 : Below w.heap.size w ((w.alloc (.cells #[.int .u64 0, .int .u64 0, .int .u64 18446744073709551615, .int .u64 18446744073709551615] 43)).alloc (.cells #[.int .u64 0, .int .u64 0, .int .u64 0, .int .u64 0] 43)) := ((Below.refl _ _).alloc (by first | exact Nat.le_refl _ | (simp; done) | (simp; omega)) _).alloc (by first | exact Nat.le_refl _ | (simp; done) | (simp; omega)) _
  have k1 : Blk ((w.alloc (.cells #[.int .u64 0, .int .u64 0, .int .u64 18446744073709551615, .int .u64 18446744073709551615] 43)).alloc (.cells #[.int .u64 0, .int .u64 0, .int .u64 0, .int .u64 0] 43)) (w.heap.size) 43 #[.int .u64 0, .int .u64 0, .int .u64 18446744073709551615, .int .u64 18446744073709551615] := (Blk.new w 43 #[.int .u64 0, .int .u64 0, .int .u64 18446744073709551615, .int .u64 18446744073709551615]).alloc _
  have k2 : Blk ((w.alloc (.cells #[.int .u64 0, .int .u64 0, .int .u64 18446744073709551615, .int .u64 18446744073709551615] 43)).alloc (.cells #[.int .u64 0, .int .u64 0, .int .u64 0, .int .u64 0] 43)) (w.heap.size + 1) 43 #[.int .u64 0, .int .u64 0, .int .u64 0, .int .u64 0] := by
    have := Blk.new (w.alloc (.cells #[.int .u64 0, .int .u64 0, .int .u64 18446744073709551615, .int .u64 18446744073709551615] 43)) 43 #[.int .u64 0, .int .u64 0, .int .u64 0, .int .u64 0]
    simpa using this
  replace hb0 := hb0.trans (hv1.mono hb0.size)
  generalize ((w.alloc (.cells #[.int .u64 0, .int .u64 0, .int .u64 18446744073709551615, .int .u64 18446744073709551615] 43)).alloc (.cells #[.int .u64 0, .int .u64 0, .int .u64 0, .int .u64 0] 43)) = v1 at *
  clear hv1
  have k1_c0 := k1.cell 0
  have k1_f0 := k1.frozen 0
  have k1_c1 := k1.cell 1
  have k1_f1 := k1.frozen 1
  have k1_c2 := k1.cell 2
  have k1_f2 := k1.frozen 2
  have k1_c3 := k1.cell 3
  have k1_f3 := k1.frozen 3
  have k1_z := k1.lt
  have k2_c0 := k2.cell 0
  have k2_f0 := k2.frozen 0
  have k2_c1 := k2.cell 1
  have k2_f1 := k2.frozen 1
  have k2_c2 := k2.cell 2
  have k2_f2 := k2.frozen 2
  have k2_c3 := k2.cell 3
  have k2_f3 := k2.frozen 3
  have k2_z := k2.lt
  simp only [List.getElem?_toArray, List.getElem?_cons_zero, List.getElem?_cons_succ] at k1_c0 k1_c1 k1_c2 k1_c3 k2_c0 k2_c1 k2_c2 k2_c3
  refine wp_loop_rounds 4 ?_
  rw [rounds_succ]
  go_wp2
  rw [rounds_succ]
  go_wp2
  rw [rounds_succ]
  go_wp2
  refine bodyPost_ret (v := .agg #[.int .u64 0, .int .u64 1, .int .u64 0, .int .u64 0]) ?_ rfl ⟨rfl, (((((((hb0.setCell (p := ⟨w.heap.size, 3, none⟩) (by simp) _).setCell (p := ⟨w.heap.size, 2, none⟩) (by simp) _).setCell (p := ⟨w.heap.size, 1, none⟩) (by simp) _).setCell (p := ⟨w.heap.size + 1, 0, none⟩) (by simp) _).setCell (p := ⟨w.heap.size + 1, 1, none⟩) (by simp) _).setCell (p := ⟨w.heap.size + 1, 2, none⟩) (by simp) _).setCell (p := ⟨w.heap.size + 1, 3, none⟩) (by simp) _)⟩
  refine results_cell_row rfl _ _ (w.heap.size + 1) _ _ _ _ ?_ (((((((k2.far (p := ⟨w.heap.size, 3, none⟩) (by simp) _).far (p := ⟨w.heap.size, 2, none⟩) (by simp) _).far (p := ⟨w.heap.size, 1, none⟩) (by simp) _).set_ 0 _).set_ 1 _).set_ 2 _).set_ 3 _) Tryz.underlying43 rfl (by kernel_rfl)
  rfl

def W4 (v : Nat) : Array Value := #[.int .u64 ((v / 2 ^ 192 % 2 ^ 64 : Nat) : Int), .int .u64 ((v / 2 ^ 128 % 2 ^ 64 : Nat) : Int), .int .u64 ((v / 2 ^ 64 % 2 ^ 64 : Nat) : Int), .int .u64 ((v % 2 ^ 64 : Nat) : Int)]
theorem W4_of {v a b c d : Nat} (hb : b < 18446744073709551616) (hc : c < 18446744073709551616) (hd : d < 18446744073709551616) (ha : a < 18446744073709551616) (h : v = ((a * 18446744073709551616 + b) * 18446744073709551616 + c) * 18446744073709551616 + d) : W4 v = #[.int .u64 (a : Int), .int .u64 (b : Int), .int .u64 (c : Int), .int .u64 (d : Int)] := by
  unfold W4
  have e1 : v / 2 ^ 192 % 2 ^ 64 = a := by
    rw [show 2 ^ 192 = 18446744073709551616 * 18446744073709551616 * 18446744073709551616 from rfl, ← Nat.div_div_eq_div_mul, ← Nat.div_div_eq_div_mul, show 2 ^ 64 = 18446744073709551616 from rfl]; omega
  have e2 : v / 2 ^ 128 % 2 ^ 64 = b := by
    rw [show 2 ^ 128 = 18446744073709551616 * 18446744073709551616 from rfl, ← Nat.div_div_eq_div_mul, show 2 ^ 64 = 18446744073709551616 from rfl]; omega
  have e3 : v / 2 ^ 64 % 2 ^ 64 = c := by
    rw [show 2 ^ 64 = 18446744073709551616 from rfl]; omega
  have e4 : v % 2 ^ 64 = d := by
    rw [show 2 ^ 64 = 18446744073709551616 from rfl]; omega
  rw [e1, e2, e3, e4]
theorem sure_next (v : Nat) (hv : v < 2 ^ 128) (w : World) : Calls Tryz.prog 37 #[.agg (W4 v)] w (Says w (.agg (W4 (v + 1)))) := by
  have h128 : (2 : Nat) ^ 128 = 340282366920938463463374607431768211456 := rfl
  rw [h128] at hv
  obtain ⟨h, hh⟩ : ∃ h, h = v / 18446744073709551616 := ⟨_, rfl⟩
  obtain ⟨l, hl⟩ : ∃ l, l = v % 18446744073709551616 := ⟨_, rfl⟩
  have h1 : h < 18446744073709551616 := by omega
  have h2 : l < 18446744073709551616 := by omega
  rw [W4_of (v := v) (a := 0) (b := 0) (c := h) (d := l) (by decide) h1 h2 (by decide) (by omega)]
  by_cases hl1 : l < 18446744073709551615
  · rw [W4_of (v := v + 1) (a := 0) (b := 0) (c := h) (d := l + 1) (by decide) h1 (by omega) (by decide) (by omega)]
    exact next_low h l hl1 w
  · obtain rfl : l = 18446744073709551615 := by omega
    by_cases hh1 : h < 18446744073709551615
    · rw [W4_of (v := v + 1) (a := 0) (b := 0) (c := h + 1) (d := 0) (by decide) (by omega) (by decide) (by decide) (by omega)]
      exact next_mid h hh1 w
    · obtain rfl : h = 18446744073709551615 := by omega
      rw [W4_of (v := v + 1) (a := 0) (b := 1) (c := 0) (d := 0) (by decide) (by decide) (by decide) (by decide) (by omega)]
      exact next_top w
end Go.Proofs.YtenekbfnlbipiaaGreatDoor
