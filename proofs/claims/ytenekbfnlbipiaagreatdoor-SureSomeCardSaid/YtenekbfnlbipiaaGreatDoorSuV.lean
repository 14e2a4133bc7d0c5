/- Walk: so many digits by 128 bits. -/
import Derived.Test.YtenekbfnlbipiaaGreatDoorSuT
import Derived.Test.YtenekbfnlbipiaaGreatDoorSuS
namespace Go.Proofs.YtenekbfnlbipiaaGreatDoor
open Go.RowKit
set_option linter.unusedVariables false
set_option linter.unusedSimpArgs false
set_option maxHeartbeats 4000000
set_option maxRecDepth 100000

theorem sure_some (e f : Int) (b : Nat) (ng st : Bool) (m : Nat) (q P : Int) (n : Nat)
    (hO : ∀ W, Calls Tryz.prog 10 #[.agg #[.int .i64 e, .int .i64 f], .int .u64 (b : Int)] W (Says W (.tuple #[.agg #[.bool ng, .int .u64 (m : Int), .int .i64 q, .bool st], .bool true, .agg #[.bool false, .string ⟨#[]⟩, .int .i64 0], .int .i64 0])))
    (h0 : m ≠ 0) (hm : m < 9007199254740992) (hq1 : -1074 ≤ q) (hq2 : q ≤ 1022) (hP : IsFirst m q P) (hP1 : -350 ≤ P) (hP2 : P < 350) (hn1 : 1 ≤ n) (hn2 : n ≤ 17) (w : World) (hT : Tab5 w) (hU : TabU w) :
    Calls Tryz.prog 6 #[.agg #[.int .i64 e, .int .i64 f], .int .u64 (b : Int), .int .i64 (n : Int)] w (Says w (match someS m q P n with
      | none => .tuple #[.agg #[.bool false, .string ⟨#[]⟩, .int .i64 0], .bool false, .int .i64 0]
      | some x => .tuple #[.agg #[.bool ng, .string ⟨(mkD (Lib.decDigits x) (P + 1 - n)).1.toArray⟩, .int .i64 (mkD (Lib.decDigits x) (P + 1 - n)).2], .bool true, .int .i64 0])) := by
  have hf : farB (kS P n) = false := by unfold kS; simp only [farB, Bool.or_eq_false_iff, decide_eq_false_iff_not]; omega
  have hks : -(P + 1 - (n : Int)) = kS P n := by unfold kS; omega
  have hAt := fun W hT => sure_at P n (P + 1 - n) (by omega) (by omega) (by omega) (by omega) rfl (by rw [hks]; exact hf) W hT
  rw [hks] at hAt
  have hXb : -2000 ≤ tenE (kS P n) ∧ tenE (kS P n) ≤ 2000 := by
    have := tS_le hf
    unfold tenE
    simp only [farB, Bool.or_eq_false_iff, decide_eq_false_iff_not] at hf
    split <;> omega
  obtain ⟨N, hN, n1, n2, hall⟩ := scale_ok h0 hm hP hn1 hn2 (k := kS P n) rfl hf
  have hNS : NS q P n = N := by unfold NS; rw [hN, Int.toNat_natCast]
  have e256 : (2 : Nat) ^ 192 ≤ 2 ^ 256 := Nat.pow_le_pow_right (by decide) (by decide)
  have hT1 : tenN (kS P n) < 2 ^ 256 := Nat.lt_of_lt_of_le (tenN_bd hf).2 (Nat.pow_le_pow_right (by decide) (by decide))
  have hT2 : kB (kS P n) < 2 ^ 256 := by
    have h1 := (tenN_bd hf).2
    have h2 : kB (kS P n) ≤ tenN (kS P n) + 1 := by unfold kB; split <;> omega
    have h3 : (2 : Nat) ^ 128 < 2 ^ 256 := Nat.pow_lt_pow_right (by decide) (by decide)
    omega
  obtain ⟨a1, a2, a3, a4, a5, a6⟩ := hall (4 * m) (by omega) (by omega)
  have hSda := fun W => sure_side ng st m (4 * m) (tenN (kS P n)) (kB (kS P n)) q (tenE (kS P n)) (P + 1 - n) 0 (by omega) (by omega) (by omega) (by omega) (by omega) (by omega) (by omega) hT1 hT2 (Nat.lt_of_lt_of_le a1 e256) (Nat.lt_of_lt_of_le a2 e256) W
  rw [hN] at hSda
  have hq60 : (2 : Nat) ^ 60 = 1152921504606846976 := rfl
  have hNr := fun W => sure_nearest (tenN (kS P n) * (4 * m)) (kB (kS P n) * (4 * m)) N a1 a2 n1 n2 (by rw [hq60] at a3; omega) (by rw [hq60] at a4; omega) W
  have hnl := near_lt a3
  unfold someS
  rw [hNS]
  show Calls _ _ _ _ (Says w (match (if nearS (tenN (kS P n) * (4 * m)) N = nearS (kB (kS P n) * (4 * m)) N then some (nearS (tenN (kS P n) * (4 * m)) N) else none) with | none => _ | some x => _))
  have hFi := fun W hT => sure_first ng st m q P h0 hm hq1 hq2 hP hP1 hP2 W hT
  have hDc := fun W hU => sure_decimal ng st m (nearS (tenN (kS P n) * (4 * m)) N) q (P + 1 - n) (by omega) (by omega) (by omega) W hU
  generalize nearS (tenN (kS P n) * (4 * m)) N = R1 at *
  generalize nearS (kB (kS P n) * (4 * m)) N = R2 at *
  obtain ⟨x0, x1, x2, x3, hx⟩ : ∃ a b c d : Nat, W4 (tenN (kS P n)) = #[.int .u64 (a : Int), .int .u64 (b : Int), .int .u64 (c : Int), .int .u64 (d : Int)] := ⟨_, _, _, _, rfl⟩
  obtain ⟨y0, y1, y2, y3, hy⟩ : ∃ a b c d : Nat, W4 (kB (kS P n)) = #[.int .u64 (a : Int), .int .u64 (b : Int), .int .u64 (c : Int), .int .u64 (d : Int)] := ⟨_, _, _, _, rfl⟩
  obtain ⟨p0, p1, p2, p3, hp⟩ : ∃ a b c d : Nat, W4 (tenN (kS P n) * (4 * m)) = #[.int .u64 (a : Int), .int .u64 (b : Int), .int .u64 (c : Int), .int .u64 (d : Int)] := ⟨_, _, _, _, rfl⟩
  obtain ⟨r0, r1, r2, r3, hr⟩ : ∃ a b c d : Nat, W4 (kB (kS P n) * (4 * m)) = #[.int .u64 (a : Int), .int .u64 (b : Int), .int .u64 (c : Int), .int .u64 (d : Int)] := ⟨_, _, _, _, rfl⟩
  rw [hx, hy] at hAt hSda
  rw [hp, hr] at hSda hNr
  clear hx hy hp hr hN hNS hall hT1 hT2 e256 a1 a2 a3 a4 a5 a6 hf hks hq60 n1 n2 hnl
  generalize tenE (kS P n) = X at *
  clear hXb
  replace hAt : ∀ (W : World), Tab5 W → Calls Tryz.prog 12 #[.int .i64 P, .int .i64 (n : Int)] W (Says W (.tuple #[.agg #[.int .u64 (x0 : Int), .int .u64 (x1 : Int), .int .u64 (x2 : Int), .int .u64 (x3 : Int), .int .u64 (y0 : Int), .int .u64 (y1 : Int), .int .u64 (y2 : Int), .int .u64 (y3 : Int), .int .i64 X, .int .i64 (P + 1 - n)], .int .i64 0])) := hAt
  replace hSda : ∀ (W : World), Calls Tryz.prog 13 #[.agg #[.bool ng, .int .u64 (m : Int), .int .i64 q, .bool st], .agg #[.int .u64 (x0 : Int), .int .u64 (x1 : Int), .int .u64 (x2 : Int), .int .u64 (x3 : Int), .int .u64 (y0 : Int), .int .u64 (y1 : Int), .int .u64 (y2 : Int), .int .u64 (y3 : Int), .int .i64 X, .int .i64 (P + 1 - n)], .int .i64 0] W (Says W (.tuple #[.agg #[.int .u64 (p0 : Int), .int .u64 (p1 : Int), .int .u64 (p2 : Int), .int .u64 (p3 : Int)], .agg #[.int .u64 (r0 : Int), .int .u64 (r1 : Int), .int .u64 (r2 : Int), .int .u64 (r3 : Int)], .int .i64 (N : Int)])) := hSda
  have HP := Lib.hid hP
  have g1 : decide ((n : Int) < 1) = false := by simp; omega
  have g2 : decide ((17 : Int) < (n : Int)) = false := by simp; omega
  have g3 : (n : Int) ≠ 0 := by omega
  clear hP
  by_cases hR : R1 = R2
  · rw [if_pos hR]
    rw [decide_eq_true hR] at hNr
    clear hR
    have hb0 : Below w.heap.size w w := Below.refl _ _
    go_enter Tryz.func6, Tryz.ntmps6
    go_upto_region 1 with fail
    have hv1 : Below w.heap.size w ((w.alloc (.cells #[.int .i64 e, .int .i64 f] 23)).alloc (.cells #[.bool false, .string ⟨#[]⟩, .int .i64 0] 26)) := ((Below.refl _ _).alloc (by first | exact Nat.le_refl _ | (simp; done) | (simp; omega)) _).alloc (by first | exact Nat.le_refl _ | (simp; done) | (simp; omega)) _
    have k1 : Blk ((w.alloc (.cells #[.int .i64 e, .int .i64 f] 23)).alloc (.cells #[.bool false, .string ⟨#[]⟩, .int .i64 0] 26)) (w.heap.size) 23 #[.int .i64 e, .int .i64 f] := (Blk.new w 23 #[.int .i64 e, .int .i64 f]).alloc _
    have k2 : Blk ((w.alloc (.cells #[.int .i64 e, .int .i64 f] 23)).alloc (.cells #[.bool false, .string ⟨#[]⟩, .int .i64 0] 26)) (w.heap.size + 1) 26 #[.bool false, .string ⟨#[]⟩, .int .i64 0] := by
      have := Blk.new (w.alloc (.cells #[.int .i64 e, .int .i64 f] 23)) 26 #[.bool false, .string ⟨#[]⟩, .int .i64 0]
      simpa using this
    replace hb0 := hb0.trans (hv1.mono hb0.size)
    replace hT := hT.below hv1
    replace hU := hU.below hv1
    generalize ((w.alloc (.cells #[.int .i64 e, .int .i64 f] 23)).alloc (.cells #[.bool false, .string ⟨#[]⟩, .int .i64 0] 26)) = v1 at *
    clear hv1
    have k1_c0 := k1.cell 0
    have k1_f0 := k1.frozen 0
    have k1_c1 := k1.cell 1
    have k1_f1 := k1.frozen 1
    have k1_z := k1.lt
    have k2_c0 := k2.cell 0
    have k2_f0 := k2.frozen 0
    have k2_c1 := k2.cell 1
    have k2_f1 := k2.frozen 1
    have k2_c2 := k2.cell 2
    have k2_f2 := k2.frozen 2
    have k2_z := k2.lt
    simp only [List.getElem?_toArray, List.getElem?_cons_zero, List.getElem?_cons_succ] at k1_c0 k1_c1 k2_c0 k2_c1 k2_c2
    go_wp2_with fail
    clear k1_c0 k1_f0 k1_c1 k1_f1 k1_z k2_c0 k2_f0 k2_c1 k2_f1 k2_c2 k2_f2 k2_z
    refine (hO _).mono ?_
    rintro e w2 ⟨rfl, hb2⟩
    replace hb0 := hb0.trans (hb2.mono hb0.size)
    replace hT := hT.below hb2
    replace hU := hU.below hb2
    replace k1 := k1.below hb2 k1.lt
    replace k2 := k2.below hb2 k2.lt
    clear hb2
    go_upto_region 2 with fail
    have hv3 : Below w2.heap.size w2 ((w2.alloc (.cells #[.bool ng, .int .u64 (m : Int), .int .i64 q, .bool st] 37)).alloc (.cells #[.bool false, .string ⟨#[]⟩, .int .i64 0] 26)) := ((Below.refl _ _).alloc (by first | exact Nat.le_refl _ | (simp; done) | (simp; omega)) _).alloc (by first | exact Nat.le_refl _ | (simp; done) | (simp; omega)) _
    have k3 : Blk ((w2.alloc (.cells #[.bool ng, .int .u64 (m : Int), .int .i64 q, .bool st] 37)).alloc (.cells #[.bool false, .string ⟨#[]⟩, .int .i64 0] 26)) (w2.heap.size) 37 #[.bool ng, .int .u64 (m : Int), .int .i64 q, .bool st] := (Blk.new w2 37 #[.bool ng, .int .u64 (m : Int), .int .i64 q, .bool st]).alloc _
    have k4 : Blk ((w2.alloc (.cells #[.bool ng, .int .u64 (m : Int), .int .i64 q, .bool st] 37)).alloc (.cells #[.bool false, .string ⟨#[]⟩, .int .i64 0] 26)) (w2.heap.size + 1) 26 #[.bool false, .string ⟨#[]⟩, .int .i64 0] := by
      have := Blk.new (w2.alloc (.cells #[.bool ng, .int .u64 (m : Int), .int .i64 q, .bool st] 37)) 26 #[.bool false, .string ⟨#[]⟩, .int .i64 0]
      simpa using this
    replace hb0 := hb0.trans (hv3.mono hb0.size)
    replace hT := hT.below hv3
    replace hU := hU.below hv3
    replace k1 := k1.below hv3 k1.lt
    replace k2 := k2.below hv3 k2.lt
    generalize ((w2.alloc (.cells #[.bool ng, .int .u64 (m : Int), .int .i64 q, .bool st] 37)).alloc (.cells #[.bool false, .string ⟨#[]⟩, .int .i64 0] 26)) = v3 at *
    clear hv3
    have k1_c0 := k1.cell 0
    have k1_f0 := k1.frozen 0
    have k1_c1 := k1.cell 1
    have k1_f1 := k1.frozen 1
    have k1_z := k1.lt
    have k2_c0 := k2.cell 0
    have k2_f0 := k2.frozen 0
    have k2_c1 := k2.cell 1
    have k2_f1 := k2.frozen 1
    have k2_c2 := k2.cell 2
    have k2_f2 := k2.frozen 2
    have k2_z := k2.lt
    have k3_c0 := k3.cell 0
    have k3_f0 := k3.frozen 0
    have k3_c1 := k3.cell 1
    have k3_f1 := k3.frozen 1
    have k3_c2 := k3.cell 2
    have k3_f2 := k3.frozen 2
    have k3_c3 := k3.cell 3
    have k3_f3 := k3.frozen 3
    have k3_z := k3.lt
    have k4_c0 := k4.cell 0
    have k4_f0 := k4.frozen 0
    have k4_c1 := k4.cell 1
    have k4_f1 := k4.frozen 1
    have k4_c2 := k4.cell 2
    have k4_f2 := k4.frozen 2
    have k4_z := k4.lt
    simp only [List.getElem?_toArray, List.getElem?_cons_zero, List.getElem?_cons_succ] at k1_c0 k1_c1 k2_c0 k2_c1 k2_c2 k3_c0 k3_c1 k3_c2 k3_c3 k4_c0 k4_c1 k4_c2
    go_wp2_with fail
    clear k1_c0 k1_f0 k1_c1 k1_f1 k1_z k2_c0 k2_f0 k2_c1 k2_f1 k2_c2 k2_f2 k2_z k3_c0 k3_f0 k3_c1 k3_f1 k3_c2 k3_f2 k3_c3 k3_f3 k3_z k4_c0 k4_f0 k4_c1 k4_f1 k4_c2 k4_f2 k4_z
    refine (hFi _ hT).mono ?_
    rintro e w4 ⟨rfl, hb4⟩
    replace hb0 := hb0.trans (hb4.mono hb0.size)
    replace hT := hT.below hb4
    replace hU := hU.below hb4
    replace k1 := k1.below hb4 k1.lt
    replace k2 := k2.below hb4 k2.lt
    replace k3 := k3.below hb4 k3.lt
    replace k4 := k4.below hb4 k4.lt
    clear hb4
    have k1_c0 := k1.cell 0
    have k1_f0 := k1.frozen 0
    have k1_c1 := k1.cell 1
    have k1_f1 := k1.frozen 1
    have k1_z := k1.lt
    have k2_c0 := k2.cell 0
    have k2_f0 := k2.frozen 0
    have k2_c1 := k2.cell 1
    have k2_f1 := k2.frozen 1
    have k2_c2 := k2.cell 2
    have k2_f2 := k2.frozen 2
    have k2_z := k2.lt
    have k3_c0 := k3.cell 0
    have k3_f0 := k3.frozen 0
    have k3_c1 := k3.cell 1
    have k3_f1 := k3.frozen 1
    have k3_c2 := k3.cell 2
    have k3_f2 := k3.frozen 2
    have k3_c3 := k3.cell 3
    have k3_f3 := k3.frozen 3
    have k3_z := k3.lt
    have k4_c0 := k4.cell 0
    have k4_f0 := k4.frozen 0
    have k4_c1 := k4.cell 1
    have k4_f1 := k4.frozen 1
    have k4_c2 := k4.cell 2
    have k4_f2 := k4.frozen 2
    have k4_z := k4.lt
    simp only [List.getElem?_toArray, List.getElem?_cons_zero, List.getElem?_cons_succ] at k1_c0 k1_c1 k2_c0 k2_c1 k2_c2 k3_c0 k3_c1 k3_c2 k3_c3 k4_c0 k4_c1 k4_c2
    go_wp2_with fail
    clear k1_c0 k1_f0 k1_c1 k1_f1 k1_z k2_c0 k2_f0 k2_c1 k2_f1 k2_c2 k2_f2 k2_z k3_c0 k3_f0 k3_c1 k3_f1 k3_c2 k3_f2 k3_c3 k3_f3 k3_z k4_c0 k4_f0 k4_c1 k4_f1 k4_c2 k4_f2 k4_z
    refine (hAt _ hT).mono ?_
    rintro e w5 ⟨rfl, hb5⟩
    replace hb0 := hb0.trans (hb5.mono hb0.size)
    replace hT := hT.below hb5
    replace hU := hU.below hb5
    replace k1 := k1.below hb5 k1.lt
    replace k2 := k2.below hb5 k2.lt
    replace k3 := k3.below hb5 k3.lt
    replace k4 := k4.below hb5 k4.lt
    clear hb5
    go_upto_region 12 with fail
    have hv6 : Below w5.heap.size w5 (w5.alloc (.cells #[.int .u64 (x0 : Int), .int .u64 (x1 : Int), .int .u64 (x2 : Int), .int .u64 (x3 : Int), .int .u64 (y0 : Int), .int .u64 (y1 : Int), .int .u64 (y2 : Int), .int .u64 (y3 : Int), .int .i64 X, .int .i64 (P + 1 - n)] 45)) := (Below.refl _ _).alloc (by first | exact Nat.le_refl _ | (simp; done) | (simp; omega)) _
    have k5 : Blk (w5.alloc (.cells #[.int .u64 (x0 : Int), .int .u64 (x1 : Int), .int .u64 (x2 : Int), .int .u64 (x3 : Int), .int .u64 (y0 : Int), .int .u64 (y1 : Int), .int .u64 (y2 : Int), .int .u64 (y3 : Int), .int .i64 X, .int .i64 (P + 1 - n)] 45)) (w5.heap.size) 45 #[.int .u64 (x0 : Int), .int .u64 (x1 : Int), .int .u64 (x2 : Int), .int .u64 (x3 : Int), .int .u64 (y0 : Int), .int .u64 (y1 : Int), .int .u64 (y2 : Int), .int .u64 (y3 : Int), .int .i64 X, .int .i64 (P + 1 - n)] := Blk.new w5 45 #[.int .u64 (x0 : Int), .int .u64 (x1 : Int), .int .u64 (x2 : Int), .int .u64 (x3 : Int), .int .u64 (y0 : Int), .int .u64 (y1 : Int), .int .u64 (y2 : Int), .int .u64 (y3 : Int), .int .i64 X, .int .i64 (P + 1 - n)]
    replace hb0 := hb0.trans (hv6.mono hb0.size)
    replace hT := hT.below hv6
    replace hU := hU.below hv6
    replace k1 := k1.below hv6 k1.lt
    replace k2 := k2.below hv6 k2.lt
    replace k3 := k3.below hv6 k3.lt
    replace k4 := k4.below hv6 k4.lt
    generalize (w5.alloc (.cells #[.int .u64 (x0 : Int), .int .u64 (x1 : Int), .int .u64 (x2 : Int), .int .u64 (x3 : Int), .int .u64 (y0 : Int), .int .u64 (y1 : Int), .int .u64 (y2 : Int), .int .u64 (y3 : Int), .int .i64 X, .int .i64 (P + 1 - n)] 45)) = v6 at *
    clear hv6
    have k1_c0 := k1.cell 0
    have k1_f0 := k1.frozen 0
    have k1_c1 := k1.cell 1
    have k1_f1 := k1.frozen 1
    have k1_z := k1.lt
    have k2_c0 := k2.cell 0
    have k2_f0 := k2.frozen 0
    have k2_c1 := k2.cell 1
    have k2_f1 := k2.frozen 1
    have k2_c2 := k2.cell 2
    have k2_f2 := k2.frozen 2
    have k2_z := k2.lt
    have k3_c0 := k3.cell 0
    have k3_f0 := k3.frozen 0
    have k3_c1 := k3.cell 1
    have k3_f1 := k3.frozen 1
    have k3_c2 := k3.cell 2
    have k3_f2 := k3.frozen 2
    have k3_c3 := k3.cell 3
    have k3_f3 := k3.frozen 3
    have k3_z := k3.lt
    have k4_c0 := k4.cell 0
    have k4_f0 := k4.frozen 0
    have k4_c1 := k4.cell 1
    have k4_f1 := k4.frozen 1
    have k4_c2 := k4.cell 2
    have k4_f2 := k4.frozen 2
    have k4_z := k4.lt
    have k5_c0 := k5.cell 0
    have k5_f0 := k5.frozen 0
    have k5_c1 := k5.cell 1
    have k5_f1 := k5.frozen 1
    have k5_c2 := k5.cell 2
    have k5_f2 := k5.frozen 2
    have k5_c3 := k5.cell 3
    have k5_f3 := k5.frozen 3
    have k5_c4 := k5.cell 4
    have k5_f4 := k5.frozen 4
    have k5_c5 := k5.cell 5
    have k5_f5 := k5.frozen 5
    have k5_c6 := k5.cell 6
    have k5_f6 := k5.frozen 6
    have k5_c7 := k5.cell 7
    have k5_f7 := k5.frozen 7
    have k5_c8 := k5.cell 8
    have k5_f8 := k5.frozen 8
    have k5_c9 := k5.cell 9
    have k5_f9 := k5.frozen 9
    have k5_z := k5.lt
    simp only [List.getElem?_toArray, List.getElem?_cons_zero, List.getElem?_cons_succ] at k1_c0 k1_c1 k2_c0 k2_c1 k2_c2 k3_c0 k3_c1 k3_c2 k3_c3 k4_c0 k4_c1 k4_c2 k5_c0 k5_c1 k5_c2 k5_c3 k5_c4 k5_c5 k5_c6 k5_c7 k5_c8 k5_c9
    go_wp2_with fail
    clear k1_c0 k1_f0 k1_c1 k1_f1 k1_z k2_c0 k2_f0 k2_c1 k2_f1 k2_c2 k2_f2 k2_z k3_c0 k3_f0 k3_c1 k3_f1 k3_c2 k3_f2 k3_c3 k3_f3 k3_z k4_c0 k4_f0 k4_c1 k4_f1 k4_c2 k4_f2 k4_z k5_c0 k5_f0 k5_c1 k5_f1 k5_c2 k5_f2 k5_c3 k5_f3 k5_c4 k5_f4 k5_c5 k5_f5 k5_c6 k5_f6 k5_c7 k5_f7 k5_c8 k5_f8 k5_c9 k5_f9 k5_z
    refine (hSda _).mono ?_
    rintro e w7 ⟨rfl, hb7⟩
    replace hb0 := hb0.trans (hb7.mono hb0.size)
    replace hT := hT.below hb7
    replace hU := hU.below hb7
    replace k1 := k1.below hb7 k1.lt
    replace k2 := k2.below hb7 k2.lt
    replace k3 := k3.below hb7 k3.lt
    replace k4 := k4.below hb7 k4.lt
    replace k5 := k5.below hb7 k5.lt
    clear hb7
    go_upto_region 15 with fail
    have hv8 : Below w7.heap.size w7 ((w7.alloc (.cells #[.int .u64 (p0 : Int), .int .u64 (p1 : Int), .int .u64 (p2 : Int), .int .u64 (p3 : Int)] 43)).alloc (.cells #[.int .u64 (r0 : Int), .int .u64 (r1 : Int), .int .u64 (r2 : Int), .int .u64 (r3 : Int)] 43)) := ((Below.refl _ _).alloc (by first | exact Nat.le_refl _ | (simp; done) | (simp; omega)) _).alloc (by first | exact Nat.le_refl _ | (simp; done) | (simp; omega)) _
    have k6 : Blk ((w7.alloc (.cells #[.int .u64 (p0 : Int), .int .u64 (p1 : Int), .int .u64 (p2 : Int), .int .u64 (p3 : Int)] 43)).alloc (.cells #[.int .u64 (r0 : Int), .int .u64 (r1 : Int), .int .u64 (r2 : Int), .int .u64 (r3 : Int)] 43)) (w7.heap.size) 43 #[.int .u64 (p0 : Int), .int .u64 (p1 : Int), .int .u64 (p2 : Int), .int .u64 (p3 : Int)] := (Blk.new w7 43 #[.int .u64 (p0 : Int), .int .u64 (p1 : Int), .int .u64 (p2 : Int), .int .u64 (p3 : Int)]).alloc _
    have k7 : Blk ((w7.alloc (.cells #[.int .u64 (p0 : Int), .int .u64 (p1 : Int), .int .u64 (p2 : Int), .int .u64 (p3 : Int)] 43)).alloc (.cells #[.int .u64 (r0 : Int), .int .u64 (r1 : Int), .int .u64 (r2 : Int), .int .u64 (r3 : Int)] 43)) (w7.heap.size + 1) 43 #[.int .u64 (r0 : Int), .int .u64 (r1 : Int), .int .u64 (r2 : Int), .int .u64 (r3 : Int)] := by
      have := Blk.new (w7.alloc (.cells #[.int .u64 (p0 : Int), .int .u64 (p1 : Int), .int .u64 (p2 : Int), .int .u64 (p3 : Int)] 43)) 43 #[.int .u64 (r0 : Int), .int .u64 (r1 : Int), .int .u64 (r2 : Int), .int .u64 (r3 : Int)]
      simpa using this
    replace hb0 := hb0.trans (hv8.mono hb0.size)
    replace hT := hT.below hv8
    replace hU := hU.below hv8
    replace k1 := k1.below hv8 k1.lt
    replace k2 := k2.below hv8 k2.lt
    replace k3 := k3.below hv8 k3.lt
    replace k4 := k4.below hv8 k4.lt
    replace k5 := k5.below hv8 k5.lt
    generalize ((w7.alloc (.cells #[.int .u64 (p0 : Int), .int .u64 (p1 : Int), .int .u64 (p2 : Int), .int .u64 (p3 : Int)] 43)).alloc (.cells #[.int .u64 (r0 : Int), .int .u64 (r1 : Int), .int .u64 (r2 : Int), .int .u64 (r3 : Int)] 43)) = v8 at *
    clear hv8
    have k1_c0 := k1.cell 0
    have k1_f0 := k1.frozen 0
    have k1_c1 := k1.cell 1
    have k1_f1 := k1.frozen 1
    have k1_z := k1.lt
    have k2_c0 := k2.cell 0
    have k2_f0 := k2.frozen 0
    have k2_c1 := k2.cell 1
    have k2_f1 := k2.frozen 1
    have k2_c2 := k2.cell 2
    have k2_f2 := k2.frozen 2
    have k2_z := k2.lt
    have k3_c0 := k3.cell 0
    have k3_f0 := k3.frozen 0
    have k3_c1 := k3.cell 1
    have k3_f1 := k3.frozen 1
    have k3_c2 := k3.cell 2
    have k3_f2 := k3.frozen 2
    have k3_c3 := k3.cell 3
    have k3_f3 := k3.frozen 3
    have k3_z := k3.lt
    have k4_c0 := k4.cell 0
    have k4_f0 := k4.frozen 0
    have k4_c1 := k4.cell 1
    have k4_f1 := k4.frozen 1
    have k4_c2 := k4.cell 2
    have k4_f2 := k4.frozen 2
    have k4_z := k4.lt
    have k5_c0 := k5.cell 0
    have k5_f0 := k5.frozen 0
    have k5_c1 := k5.cell 1
    have k5_f1 := k5.frozen 1
    have k5_c2 := k5.cell 2
    have k5_f2 := k5.frozen 2
    have k5_c3 := k5.cell 3
    have k5_f3 := k5.frozen 3
    have k5_c4 := k5.cell 4
    have k5_f4 := k5.frozen 4
    have k5_c5 := k5.cell 5
    have k5_f5 := k5.frozen 5
    have k5_c6 := k5.cell 6
    have k5_f6 := k5.frozen 6
    have k5_c7 := k5.cell 7
    have k5_f7 := k5.frozen 7
    have k5_c8 := k5.cell 8
    have k5_f8 := k5.frozen 8
    have k5_c9 := k5.cell 9
    have k5_f9 := k5.frozen 9
    have k5_z := k5.lt
    have k6_c0 := k6.cell 0
    have k6_f0 := k6.frozen 0
    have k6_c1 := k6.cell 1
    have k6_f1 := k6.frozen 1
    have k6_c2 := k6.cell 2
    have k6_f2 := k6.frozen 2
    have k6_c3 := k6.cell 3
    have k6_f3 := k6.frozen 3
    have k6_z := k6.lt
    have k7_c0 := k7.cell 0
    have k7_f0 := k7.frozen 0
    have k7_c1 := k7.cell 1
    have k7_f1 := k7.frozen 1
    have k7_c2 := k7.cell 2
    have k7_f2 := k7.frozen 2
    have k7_c3 := k7.cell 3
    have k7_f3 := k7.frozen 3
    have k7_z := k7.lt
    simp only [List.getElem?_toArray, List.getElem?_cons_zero, List.getElem?_cons_succ] at k1_c0 k1_c1 k2_c0 k2_c1 k2_c2 k3_c0 k3_c1 k3_c2 k3_c3 k4_c0 k4_c1 k4_c2 k5_c0 k5_c1 k5_c2 k5_c3 k5_c4 k5_c5 k5_c6 k5_c7 k5_c8 k5_c9 k6_c0 k6_c1 k6_c2 k6_c3 k7_c0 k7_c1 k7_c2 k7_c3
    go_wp2_with fail
    clear k1_c0 k1_f0 k1_c1 k1_f1 k1_z k2_c0 k2_f0 k2_c1 k2_f1 k2_c2 k2_f2 k2_z k3_c0 k3_f0 k3_c1 k3_f1 k3_c2 k3_f2 k3_c3 k3_f3 k3_z k4_c0 k4_f0 k4_c1 k4_f1 k4_c2 k4_f2 k4_z k5_c0 k5_f0 k5_c1 k5_f1 k5_c2 k5_f2 k5_c3 k5_f3 k5_c4 k5_f4 k5_c5 k5_f5 k5_c6 k5_f6 k5_c7 k5_f7 k5_c8 k5_f8 k5_c9 k5_f9 k5_z k6_c0 k6_f0 k6_c1 k6_f1 k6_c2 k6_f2 k6_c3 k6_f3 k6_z k7_c0 k7_f0 k7_c1 k7_f1 k7_c2 k7_f2 k7_c3 k7_f3 k7_z
    refine (hNr _).mono ?_
    rintro e w9 ⟨rfl, hb9⟩
    replace hb0 := hb0.trans (hb9.mono hb0.size)
    replace hT := hT.below hb9
    replace hU := hU.below hb9
    replace k1 := k1.below hb9 k1.lt
    replace k2 := k2.below hb9 k2.lt
    replace k3 := k3.below hb9 k3.lt
    replace k4 := k4.below hb9 k4.lt
    replace k5 := k5.below hb9 k5.lt
    replace k6 := k6.below hb9 k6.lt
    replace k7 := k7.below hb9 k7.lt
    clear hb9
    have k1_c0 := k1.cell 0
    have k1_f0 := k1.frozen 0
    have k1_c1 := k1.cell 1
    have k1_f1 := k1.frozen 1
    have k1_z := k1.lt
    have k2_c0 := k2.cell 0
    have k2_f0 := k2.frozen 0
    have k2_c1 := k2.cell 1
    have k2_f1 := k2.frozen 1
    have k2_c2 := k2.cell 2
    have k2_f2 := k2.frozen 2
    have k2_z := k2.lt
    have k3_c0 := k3.cell 0
    have k3_f0 := k3.frozen 0
    have k3_c1 := k3.cell 1
    have k3_f1 := k3.frozen 1
    have k3_c2 := k3.cell 2
    have k3_f2 := k3.frozen 2
    have k3_c3 := k3.cell 3
    have k3_f3 := k3.frozen 3
    have k3_z := k3.lt
    have k4_c0 := k4.cell 0
    have k4_f0 := k4.frozen 0
    have k4_c1 := k4.cell 1
    have k4_f1 := k4.frozen 1
    have k4_c2 := k4.cell 2
    have k4_f2 := k4.frozen 2
    have k4_z := k4.lt
    have k5_c0 := k5.cell 0
    have k5_f0 := k5.frozen 0
    have k5_c1 := k5.cell 1
    have k5_f1 := k5.frozen 1
    have k5_c2 := k5.cell 2
    have k5_f2 := k5.frozen 2
    have k5_c3 := k5.cell 3
    have k5_f3 := k5.frozen 3
    have k5_c4 := k5.cell 4
    have k5_f4 := k5.frozen 4
    have k5_c5 := k5.cell 5
    have k5_f5 := k5.frozen 5
    have k5_c6 := k5.cell 6
    have k5_f6 := k5.frozen 6
    have k5_c7 := k5.cell 7
    have k5_f7 := k5.frozen 7
    have k5_c8 := k5.cell 8
    have k5_f8 := k5.frozen 8
    have k5_c9 := k5.cell 9
    have k5_f9 := k5.frozen 9
    have k5_z := k5.lt
    have k6_c0 := k6.cell 0
    have k6_f0 := k6.frozen 0
    have k6_c1 := k6.cell 1
    have k6_f1 := k6.frozen 1
    have k6_c2 := k6.cell 2
    have k6_f2 := k6.frozen 2
    have k6_c3 := k6.cell 3
    have k6_f3 := k6.frozen 3
    have k6_z := k6.lt
    have k7_c0 := k7.cell 0
    have k7_f0 := k7.frozen 0
    have k7_c1 := k7.cell 1
    have k7_f1 := k7.frozen 1
    have k7_c2 := k7.cell 2
    have k7_f2 := k7.frozen 2
    have k7_c3 := k7.cell 3
    have k7_f3 := k7.frozen 3
    have k7_z := k7.lt
    simp only [List.getElem?_toArray, List.getElem?_cons_zero, List.getElem?_cons_succ] at k1_c0 k1_c1 k2_c0 k2_c1 k2_c2 k3_c0 k3_c1 k3_c2 k3_c3 k4_c0 k4_c1 k4_c2 k5_c0 k5_c1 k5_c2 k5_c3 k5_c4 k5_c5 k5_c6 k5_c7 k5_c8 k5_c9 k6_c0 k6_c1 k6_c2 k6_c3 k7_c0 k7_c1 k7_c2 k7_c3
    go_wp2_with fail
    clear k1_c0 k1_f0 k1_c1 k1_f1 k1_z k2_c0 k2_f0 k2_c1 k2_f1 k2_c2 k2_f2 k2_z k3_c0 k3_f0 k3_c1 k3_f1 k3_c2 k3_f2 k3_c3 k3_f3 k3_z k4_c0 k4_f0 k4_c1 k4_f1 k4_c2 k4_f2 k4_z k5_c0 k5_f0 k5_c1 k5_f1 k5_c2 k5_f2 k5_c3 k5_f3 k5_c4 k5_f4 k5_c5 k5_f5 k5_c6 k5_f6 k5_c7 k5_f7 k5_c8 k5_f8 k5_c9 k5_f9 k5_z k6_c0 k6_f0 k6_c1 k6_f1 k6_c2 k6_f2 k6_c3 k6_f3 k6_z k7_c0 k7_f0 k7_c1 k7_f1 k7_c2 k7_f2 k7_c3 k7_f3 k7_z
    refine (hDc _ hU).mono ?_
    rintro e w10 ⟨rfl, hb10⟩
    replace hb0 := hb0.trans (hb10.mono hb0.size)
    replace hT := hT.below hb10
    replace hU := hU.below hb10
    replace k1 := k1.below hb10 k1.lt
    replace k2 := k2.below hb10 k2.lt
    replace k3 := k3.below hb10 k3.lt
    replace k4 := k4.below hb10 k4.lt
    replace k5 := k5.below hb10 k5.lt
    replace k6 := k6.below hb10 k6.lt
    replace k7 := k7.below hb10 k7.lt
    clear hb10
    have k1_c0 := k1.cell 0
    have k1_f0 := k1.frozen 0
    have k1_c1 := k1.cell 1
    have k1_f1 := k1.frozen 1
    have k1_z := k1.lt
    have k2_c0 := k2.cell 0
    have k2_f0 := k2.frozen 0
    have k2_c1 := k2.cell 1
    have k2_f1 := k2.frozen 1
    have k2_c2 := k2.cell 2
    have k2_f2 := k2.frozen 2
    have k2_z := k2.lt
    have k3_c0 := k3.cell 0
    have k3_f0 := k3.frozen 0
    have k3_c1 := k3.cell 1
    have k3_f1 := k3.frozen 1
    have k3_c2 := k3.cell 2
    have k3_f2 := k3.frozen 2
    have k3_c3 := k3.cell 3
    have k3_f3 := k3.frozen 3
    have k3_z := k3.lt
    have k4_c0 := k4.cell 0
    have k4_f0 := k4.frozen 0
    have k4_c1 := k4.cell 1
    have k4_f1 := k4.frozen 1
    have k4_c2 := k4.cell 2
    have k4_f2 := k4.frozen 2
    have k4_z := k4.lt
    have k5_c0 := k5.cell 0
    have k5_f0 := k5.frozen 0
    have k5_c1 := k5.cell 1
    have k5_f1 := k5.frozen 1
    have k5_c2 := k5.cell 2
    have k5_f2 := k5.frozen 2
    have k5_c3 := k5.cell 3
    have k5_f3 := k5.frozen 3
    have k5_c4 := k5.cell 4
    have k5_f4 := k5.frozen 4
    have k5_c5 := k5.cell 5
    have k5_f5 := k5.frozen 5
    have k5_c6 := k5.cell 6
    have k5_f6 := k5.frozen 6
    have k5_c7 := k5.cell 7
    have k5_f7 := k5.frozen 7
    have k5_c8 := k5.cell 8
    have k5_f8 := k5.frozen 8
    have k5_c9 := k5.cell 9
    have k5_f9 := k5.frozen 9
    have k5_z := k5.lt
    have k6_c0 := k6.cell 0
    have k6_f0 := k6.frozen 0
    have k6_c1 := k6.cell 1
    have k6_f1 := k6.frozen 1
    have k6_c2 := k6.cell 2
    have k6_f2 := k6.frozen 2
    have k6_c3 := k6.cell 3
    have k6_f3 := k6.frozen 3
    have k6_z := k6.lt
    have k7_c0 := k7.cell 0
    have k7_f0 := k7.frozen 0
    have k7_c1 := k7.cell 1
    have k7_f1 := k7.frozen 1
    have k7_c2 := k7.cell 2
    have k7_f2 := k7.frozen 2
    have k7_c3 := k7.cell 3
    have k7_f3 := k7.frozen 3
    have k7_z := k7.lt
    simp only [List.getElem?_toArray, List.getElem?_cons_zero, List.getElem?_cons_succ] at k1_c0 k1_c1 k2_c0 k2_c1 k2_c2 k3_c0 k3_c1 k3_c2 k3_c3 k4_c0 k4_c1 k4_c2 k5_c0 k5_c1 k5_c2 k5_c3 k5_c4 k5_c5 k5_c6 k5_c7 k5_c8 k5_c9 k6_c0 k6_c1 k6_c2 k6_c3 k7_c0 k7_c1 k7_c2 k7_c3
    go_wp2
    refine bodyPost_ret (v := .tuple #[.agg #[.bool ng, .string ⟨(mkD (Lib.decDigits R1) (P + 1 - (n : Int))).1.toArray⟩, .int .i64 (mkD (Lib.decDigits R1) (P + 1 - (n : Int))).2], .bool true, .int .i64 0]) ?_ rfl ⟨rfl, (((hb0.setCell (p := ⟨w.heap.size + 1, 0, none⟩) (by simp) _).setCell (p := ⟨w.heap.size + 1, 1, none⟩) (by simp) _).setCell (p := ⟨w.heap.size + 1, 2, none⟩) (by simp) _)⟩
    refine results_cell_tmp2 rfl _ _ (w.heap.size + 1) _ _ _ _ _ _ ?_ ?_ ?_ (((k2.set_ 0 _).set_ 1 _).set_ 2 _) Tryz.underlying26 rfl (by kernel_rfl)
    · rfl
    · rfl
    · rfl
  · rw [if_neg hR]
    rw [decide_eq_false hR] at hNr
    clear hR
    have hb0 : Below w.heap.size w w := Below.refl _ _
    go_enter Tryz.func6, Tryz.ntmps6
    go_upto_region 1 with fail
    have hv1 : Below w.heap.size w ((w.alloc (.cells #[.int .i64 e, .int .i64 f] 23)).alloc (.cells #[.bool false, .string ⟨#[]⟩, .int .i64 0] 26)) := ((Below.refl _ _).alloc (by first | exact Nat.le_refl _ | (simp; done) | (simp; omega)) _).alloc (by first | exact Nat.le_refl _ | (simp; done) | (simp; omega)) _
    have k1 : Blk ((w.alloc (.cells #[.int .i64 e, .int .i64 f] 23)).alloc (.cells #[.bool false, .string ⟨#[]⟩, .int .i64 0] 26)) (w.heap.size) 23 #[.int .i64 e, .int .i64 f] := (Blk.new w 23 #[.int .i64 e, .int .i64 f]).alloc _
    have k2 : Blk ((w.alloc (.cells #[.int .i64 e, .int .i64 f] 23)).alloc (.cells #[.bool false, .string ⟨#[]⟩, .int .i64 0] 26)) (w.heap.size + 1) 26 #[.bool false, .string ⟨#[]⟩, .int .i64 0] := by
      have := Blk.new (w.alloc (.cells #[.int .i64 e, .int .i64 f] 23)) 26 #[.bool false, .string ⟨#[]⟩, .int .i64 0]
      simpa using this
    replace hb0 := hb0.trans (hv1.mono hb0.size)
    replace hT := hT.below hv1
    replace hU := hU.below hv1
    generalize ((w.alloc (.cells #[.int .i64 e, .int .i64 f] 23)).alloc (.cells #[.bool false, .string ⟨#[]⟩, .int .i64 0] 26)) = v1 at *
    clear hv1
    have k1_c0 := k1.cell 0
    have k1_f0 := k1.frozen 0
    have k1_c1 := k1.cell 1
    have k1_f1 := k1.frozen 1
    have k1_z := k1.lt
    have k2_c0 := k2.cell 0
    have k2_f0 := k2.frozen 0
    have k2_c1 := k2.cell 1
    have k2_f1 := k2.frozen 1
    have k2_c2 := k2.cell 2
    have k2_f2 := k2.frozen 2
    have k2_z := k2.lt
    simp only [List.getElem?_toArray, List.getElem?_cons_zero, List.getElem?_cons_succ] at k1_c0 k1_c1 k2_c0 k2_c1 k2_c2
    go_wp2_with fail
    clear k1_c0 k1_f0 k1_c1 k1_f1 k1_z k2_c0 k2_f0 k2_c1 k2_f1 k2_c2 k2_f2 k2_z
    refine (hO _).mono ?_
    rintro e w2 ⟨rfl, hb2⟩
    replace hb0 := hb0.trans (hb2.mono hb0.size)
    replace hT := hT.below hb2
    replace hU := hU.below hb2
    replace k1 := k1.below hb2 k1.lt
    replace k2 := k2.below hb2 k2.lt
    clear hb2
    go_upto_region 2 with fail
    have hv3 : Below w2.heap.size w2 ((w2.alloc (.cells #[.bool ng, .int .u64 (m : Int), .int .i64 q, .bool st] 37)).alloc (.cells #[.bool false, .string ⟨#[]⟩, .int .i64 0] 26)) := ((Below.refl _ _).alloc (by first | exact Nat.le_refl _ | (simp; done) | (simp; omega)) _).alloc (by first | exact Nat.le_refl _ | (simp; done) | (simp; omega)) _
    have k3 : Blk ((w2.alloc (.cells #[.bool ng, .int .u64 (m : Int), .int .i64 q, .bool st] 37)).alloc (.cells #[.bool false, .string ⟨#[]⟩, .int .i64 0] 26)) (w2.heap.size) 37 #[.bool ng, .int .u64 (m : Int), .int .i64 q, .bool st] := (Blk.new w2 37 #[.bool ng, .int .u64 (m : Int), .int .i64 q, .bool st]).alloc _
    have k4 : Blk ((w2.alloc (.cells #[.bool ng, .int .u64 (m : Int), .int .i64 q, .bool st] 37)).alloc (.cells #[.bool false, .string ⟨#[]⟩, .int .i64 0] 26)) (w2.heap.size + 1) 26 #[.bool false, .string ⟨#[]⟩, .int .i64 0] := by
      have := Blk.new (w2.alloc (.cells #[.bool ng, .int .u64 (m : Int), .int .i64 q, .bool st] 37)) 26 #[.bool false, .string ⟨#[]⟩, .int .i64 0]
      simpa using this
    replace hb0 := hb0.trans (hv3.mono hb0.size)
    replace hT := hT.below hv3
    replace hU := hU.below hv3
    replace k1 := k1.below hv3 k1.lt
    replace k2 := k2.below hv3 k2.lt
    generalize ((w2.alloc (.cells #[.bool ng, .int .u64 (m : Int), .int .i64 q, .bool st] 37)).alloc (.cells #[.bool false, .string ⟨#[]⟩, .int .i64 0] 26)) = v3 at *
    clear hv3
    have k1_c0 := k1.cell 0
    have k1_f0 := k1.frozen 0
    have k1_c1 := k1.cell 1
    have k1_f1 := k1.frozen 1
    have k1_z := k1.lt
    have k2_c0 := k2.cell 0
    have k2_f0 := k2.frozen 0
    have k2_c1 := k2.cell 1
    have k2_f1 := k2.frozen 1
    have k2_c2 := k2.cell 2
    have k2_f2 := k2.frozen 2
    have k2_z := k2.lt
    have k3_c0 := k3.cell 0
    have k3_f0 := k3.frozen 0
    have k3_c1 := k3.cell 1
    have k3_f1 := k3.frozen 1
    have k3_c2 := k3.cell 2
    have k3_f2 := k3.frozen 2
    have k3_c3 := k3.cell 3
    have k3_f3 := k3.frozen 3
    have k3_z := k3.lt
    have k4_c0 := k4.cell 0
    have k4_f0 := k4.frozen 0
    have k4_c1 := k4.cell 1
    have k4_f1 := k4.frozen 1
    have k4_c2 := k4.cell 2
    have k4_f2 := k4.frozen 2
    have k4_z := k4.lt
    simp only [List.getElem?_toArray, List.getElem?_cons_zero, List.getElem?_cons_succ] at k1_c0 k1_c1 k2_c0 k2_c1 k2_c2 k3_c0 k3_c1 k3_c2 k3_c3 k4_c0 k4_c1 k4_c2
    go_wp2_with fail
    clear k1_c0 k1_f0 k1_c1 k1_f1 k1_z k2_c0 k2_f0 k2_c1 k2_f1 k2_c2 k2_f2 k2_z k3_c0 k3_f0 k3_c1 k3_f1 k3_c2 k3_f2 k3_c3 k3_f3 k3_z k4_c0 k4_f0 k4_c1 k4_f1 k4_c2 k4_f2 k4_z
    refine (hFi _ hT).mono ?_
    rintro e w4 ⟨rfl, hb4⟩
    replace hb0 := hb0.trans (hb4.mono hb0.size)
    replace hT := hT.below hb4
    replace hU := hU.below hb4
    replace k1 := k1.below hb4 k1.lt
    replace k2 := k2.below hb4 k2.lt
    replace k3 := k3.below hb4 k3.lt
    replace k4 := k4.below hb4 k4.lt
    clear hb4
    have k1_c0 := k1.cell 0
    have k1_f0 := k1.frozen 0
    have k1_c1 := k1.cell 1
    have k1_f1 := k1.frozen 1
    have k1_z := k1.lt
    have k2_c0 := k2.cell 0
    have k2_f0 := k2.frozen 0
    have k2_c1 := k2.cell 1
    have k2_f1 := k2.frozen 1
    have k2_c2 := k2.cell 2
    have k2_f2 := k2.frozen 2
    have k2_z := k2.lt
    have k3_c0 := k3.cell 0
    have k3_f0 := k3.frozen 0
    have k3_c1 := k3.cell 1
    have k3_f1 := k3.frozen 1
    have k3_c2 := k3.cell 2
    have k3_f2 := k3.frozen 2
    have k3_c3 := k3.cell 3
    have k3_f3 := k3.frozen 3
    have k3_z := k3.lt
    have k4_c0 := k4.cell 0
    have k4_f0 := k4.frozen 0
    have k4_c1 := k4.cell 1
    have k4_f1 := k4.frozen 1
    have k4_c2 := k4.cell 2
    have k4_f2 := k4.frozen 2
    have k4_z := k4.lt
    simp only [List.getElem?_toArray, List.getElem?_cons_zero, List.getElem?_cons_succ] at k1_c0 k1_c1 k2_c0 k2_c1 k2_c2 k3_c0 k3_c1 k3_c2 k3_c3 k4_c0 k4_c1 k4_c2
    go_wp2_with fail
    clear k1_c0 k1_f0 k1_c1 k1_f1 k1_z k2_c0 k2_f0 k2_c1 k2_f1 k2_c2 k2_f2 k2_z k3_c0 k3_f0 k3_c1 k3_f1 k3_c2 k3_f2 k3_c3 k3_f3 k3_z k4_c0 k4_f0 k4_c1 k4_f1 k4_c2 k4_f2 k4_z
    refine (hAt _ hT).mono ?_
    rintro e w5 ⟨rfl, hb5⟩
    replace hb0 := hb0.trans (hb5.mono hb0.size)
    replace hT := hT.below hb5
    replace hU := hU.below hb5
    replace k1 := k1.below hb5 k1.lt
    replace k2 := k2.below hb5 k2.lt
    replace k3 := k3.below hb5 k3.lt
    replace k4 := k4.below hb5 k4.lt
    clear hb5
    go_upto_region 12 with fail
    have hv6 : Below w5.heap.size w5 (w5.alloc (.cells #[.int .u64 (x0 : Int), .int .u64 (x1 : Int), .int .u64 (x2 : Int), .int .u64 (x3 : Int), .int .u64 (y0 : Int), .int .u64 (y1 : Int), .int .u64 (y2 : Int), .int .u64 (y3 : Int), .int .i64 X, .int .i64 (P + 1 - n)] 45)) := (Below.refl _ _).alloc (by first | exact Nat.le_refl _ | (simp; done) | (simp; omega)) _
    have k5 : Blk (w5.alloc (.cells #[.int .u64 (x0 : Int), .int .u64 (x1 : Int), .int .u64 (x2 : Int), .int .u64 (x3 : Int), .int .u64 (y0 : Int), .int .u64 (y1 : Int), .int .u64 (y2 : Int), .int .u64 (y3 : Int), .int .i64 X, .int .i64 (P + 1 - n)] 45)) (w5.heap.size) 45 #[.int .u64 (x0 : Int), .int .u64 (x1 : Int), .int .u64 (x2 : Int), .int .u64 (x3 : Int), .int .u64 (y0 : Int), .int .u64 (y1 : Int), .int .u64 (y2 : Int), .int .u64 (y3 : Int), .int .i64 X, .int .i64 (P + 1 - n)] := Blk.new w5 45 #[.int .u64 (x0 : Int), .int .u64 (x1 : Int), .int .u64 (x2 : Int), .int .u64 (x3 : Int), .int .u64 (y0 : Int), .int .u64 (y1 : Int), .int .u64 (y2 : Int), .int .u64 (y3 : Int), .int .i64 X, .int .i64 (P + 1 - n)]
    replace hb0 := hb0.trans (hv6.mono hb0.size)
    replace hT := hT.below hv6
    replace hU := hU.below hv6
    replace k1 := k1.below hv6 k1.lt
    replace k2 := k2.below hv6 k2.lt
    replace k3 := k3.below hv6 k3.lt
    replace k4 := k4.below hv6 k4.lt
    generalize (w5.alloc (.cells #[.int .u64 (x0 : Int), .int .u64 (x1 : Int), .int .u64 (x2 : Int), .int .u64 (x3 : Int), .int .u64 (y0 : Int), .int .u64 (y1 : Int), .int .u64 (y2 : Int), .int .u64 (y3 : Int), .int .i64 X, .int .i64 (P + 1 - n)] 45)) = v6 at *
    clear hv6
    have k1_c0 := k1.cell 0
    have k1_f0 := k1.frozen 0
    have k1_c1 := k1.cell 1
    have k1_f1 := k1.frozen 1
    have k1_z := k1.lt
    have k2_c0 := k2.cell 0
    have k2_f0 := k2.frozen 0
    have k2_c1 := k2.cell 1
    have k2_f1 := k2.frozen 1
    have k2_c2 := k2.cell 2
    have k2_f2 := k2.frozen 2
    have k2_z := k2.lt
    have k3_c0 := k3.cell 0
    have k3_f0 := k3.frozen 0
    have k3_c1 := k3.cell 1
    have k3_f1 := k3.frozen 1
    have k3_c2 := k3.cell 2
    have k3_f2 := k3.frozen 2
    have k3_c3 := k3.cell 3
    have k3_f3 := k3.frozen 3
    have k3_z := k3.lt
    have k4_c0 := k4.cell 0
    have k4_f0 := k4.frozen 0
    have k4_c1 := k4.cell 1
    have k4_f1 := k4.frozen 1
    have k4_c2 := k4.cell 2
    have k4_f2 := k4.frozen 2
    have k4_z := k4.lt
    have k5_c0 := k5.cell 0
    have k5_f0 := k5.frozen 0
    have k5_c1 := k5.cell 1
    have k5_f1 := k5.frozen 1
    have k5_c2 := k5.cell 2
    have k5_f2 := k5.frozen 2
    have k5_c3 := k5.cell 3
    have k5_f3 := k5.frozen 3
    have k5_c4 := k5.cell 4
    have k5_f4 := k5.frozen 4
    have k5_c5 := k5.cell 5
    have k5_f5 := k5.frozen 5
    have k5_c6 := k5.cell 6
    have k5_f6 := k5.frozen 6
    have k5_c7 := k5.cell 7
    have k5_f7 := k5.frozen 7
    have k5_c8 := k5.cell 8
    have k5_f8 := k5.frozen 8
    have k5_c9 := k5.cell 9
    have k5_f9 := k5.frozen 9
    have k5_z := k5.lt
    simp only [List.getElem?_toArray, List.getElem?_cons_zero, List.getElem?_cons_succ] at k1_c0 k1_c1 k2_c0 k2_c1 k2_c2 k3_c0 k3_c1 k3_c2 k3_c3 k4_c0 k4_c1 k4_c2 k5_c0 k5_c1 k5_c2 k5_c3 k5_c4 k5_c5 k5_c6 k5_c7 k5_c8 k5_c9
    go_wp2_with fail
    clear k1_c0 k1_f0 k1_c1 k1_f1 k1_z k2_c0 k2_f0 k2_c1 k2_f1 k2_c2 k2_f2 k2_z k3_c0 k3_f0 k3_c1 k3_f1 k3_c2 k3_f2 k3_c3 k3_f3 k3_z k4_c0 k4_f0 k4_c1 k4_f1 k4_c2 k4_f2 k4_z k5_c0 k5_f0 k5_c1 k5_f1 k5_c2 k5_f2 k5_c3 k5_f3 k5_c4 k5_f4 k5_c5 k5_f5 k5_c6 k5_f6 k5_c7 k5_f7 k5_c8 k5_f8 k5_c9 k5_f9 k5_z
    refine (hSda _).mono ?_
    rintro e w7 ⟨rfl, hb7⟩
    replace hb0 := hb0.trans (hb7.mono hb0.size)
    replace hT := hT.below hb7
    replace hU := hU.below hb7
    replace k1 := k1.below hb7 k1.lt
    replace k2 := k2.below hb7 k2.lt
    replace k3 := k3.below hb7 k3.lt
    replace k4 := k4.below hb7 k4.lt
    replace k5 := k5.below hb7 k5.lt
    clear hb7
    go_upto_region 15 with fail
    have hv8 : Below w7.heap.size w7 ((w7.alloc (.cells #[.int .u64 (p0 : Int), .int .u64 (p1 : Int), .int .u64 (p2 : Int), .int .u64 (p3 : Int)] 43)).alloc (.cells #[.int .u64 (r0 : Int), .int .u64 (r1 : Int), .int .u64 (r2 : Int), .int .u64 (r3 : Int)] 43)) := ((Below.refl _ _).alloc (by first | exact Nat.le_refl _ | (simp; done) | (simp; omega)) _).alloc (by first | exact Nat.le_refl _ | (simp; done) | (simp; omega)) _
    have k6 : Blk ((w7.alloc (.cells #[.int .u64 (p0 : Int), .int .u64 (p1 : Int), .int .u64 (p2 : Int), .int .u64 (p3 : Int)] 43)).alloc (.cells #[.int .u64 (r0 : Int), .int .u64 (r1 : Int), .int .u64 (r2 : Int), .int .u64 (r3 : Int)] 43)) (w7.heap.size) 43 #[.int .u64 (p0 : Int), .int .u64 (p1 : Int), .int .u64 (p2 : Int), .int .u64 (p3 : Int)] := (Blk.new w7 43 #[.int .u64 (p0 : Int), .int .u64 (p1 : Int), .int .u64 (p2 : Int), .int .u64 (p3 : Int)]).alloc _
    have k7 : Blk ((w7.alloc (.cells #[.int .u64 (p0 : Int), .int .u64 (p1 : Int), .int .u64 (p2 : Int), .int .u64 (p3 : Int)] 43)).alloc (.cells #[.int .u64 (r0 : Int), .int .u64 (r1 : Int), .int .u64 (r2 : Int), .int .u64 (r3 : Int)] 43)) (w7.heap.size + 1) 43 #[.int .u64 (r0 : Int), .int .u64 (r1 : Int), .int .u64 (r2 : Int), .int .u64 (r3 : Int)] := by
      have := Blk.new (w7.alloc (.cells #[.int .u64 (p0 : Int), .int .u64 (p1 : Int), .int .u64 (p2 : Int), .int .u64 (p3 : Int)] 43)) 43 #[.int .u64 (r0 : Int), .int .u64 (r1 : Int), .int .u64 (r2 : Int), .int .u64 (r3 : Int)]
      simpa using this
    replace hb0 := hb0.trans (hv8.mono hb0.size)
    replace hT := hT.below hv8
    replace hU := hU.below hv8
    replace k1 := k1.below hv8 k1.lt
    replace k2 := k2.below hv8 k2.lt
    replace k3 := k3.below hv8 k3.lt
    replace k4 := k4.below hv8 k4.lt
    replace k5 := k5.below hv8 k5.lt
    generalize ((w7.alloc (.cells #[.int .u64 (p0 : Int), .int .u64 (p1 : Int), .int .u64 (p2 : Int), .int .u64 (p3 : Int)] 43)).alloc (.cells #[.int .u64 (r0 : Int), .int .u64 (r1 : Int), .int .u64 (r2 : Int), .int .u64 (r3 : Int)] 43)) = v8 at *
    clear hv8
    have k1_c0 := k1.cell 0
    have k1_f0 := k1.frozen 0
    have k1_c1 := k1.cell 1
    have k1_f1 := k1.frozen 1
    have k1_z := k1.lt
    have k2_c0 := k2.cell 0
    have k2_f0 := k2.frozen 0
    have k2_c1 := k2.cell 1
    have k2_f1 := k2.frozen 1
    have k2_c2 := k2.cell 2
    have k2_f2 := k2.frozen 2
    have k2_z := k2.lt
    have k3_c0 := k3.cell 0
    have k3_f0 := k3.frozen 0
    have k3_c1 := k3.cell 1
    have k3_f1 := k3.frozen 1
    have k3_c2 := k3.cell 2
    have k3_f2 := k3.frozen 2
    have k3_c3 := k3.cell 3
    have k3_f3 := k3.frozen 3
    have k3_z := k3.lt
    have k4_c0 := k4.cell 0
    have k4_f0 := k4.frozen 0
    have k4_c1 := k4.cell 1
    have k4_f1 := k4.frozen 1
    have k4_c2 := k4.cell 2
    have k4_f2 := k4.frozen 2
    have k4_z := k4.lt
    have k5_c0 := k5.cell 0
    have k5_f0 := k5.frozen 0
    have k5_c1 := k5.cell 1
    have k5_f1 := k5.frozen 1
    have k5_c2 := k5.cell 2
    have k5_f2 := k5.frozen 2
    have k5_c3 := k5.cell 3
    have k5_f3 := k5.frozen 3
    have k5_c4 := k5.cell 4
    have k5_f4 := k5.frozen 4
    have k5_c5 := k5.cell 5
    have k5_f5 := k5.frozen 5
    have k5_c6 := k5.cell 6
    have k5_f6 := k5.frozen 6
    have k5_c7 := k5.cell 7
    have k5_f7 := k5.frozen 7
    have k5_c8 := k5.cell 8
    have k5_f8 := k5.frozen 8
    have k5_c9 := k5.cell 9
    have k5_f9 := k5.frozen 9
    have k5_z := k5.lt
    have k6_c0 := k6.cell 0
    have k6_f0 := k6.frozen 0
    have k6_c1 := k6.cell 1
    have k6_f1 := k6.frozen 1
    have k6_c2 := k6.cell 2
    have k6_f2 := k6.frozen 2
    have k6_c3 := k6.cell 3
    have k6_f3 := k6.frozen 3
    have k6_z := k6.lt
    have k7_c0 := k7.cell 0
    have k7_f0 := k7.frozen 0
    have k7_c1 := k7.cell 1
    have k7_f1 := k7.frozen 1
    have k7_c2 := k7.cell 2
    have k7_f2 := k7.frozen 2
    have k7_c3 := k7.cell 3
    have k7_f3 := k7.frozen 3
    have k7_z := k7.lt
    simp only [List.getElem?_toArray, List.getElem?_cons_zero, List.getElem?_cons_succ] at k1_c0 k1_c1 k2_c0 k2_c1 k2_c2 k3_c0 k3_c1 k3_c2 k3_c3 k4_c0 k4_c1 k4_c2 k5_c0 k5_c1 k5_c2 k5_c3 k5_c4 k5_c5 k5_c6 k5_c7 k5_c8 k5_c9 k6_c0 k6_c1 k6_c2 k6_c3 k7_c0 k7_c1 k7_c2 k7_c3
    go_wp2_with fail
    clear k1_c0 k1_f0 k1_c1 k1_f1 k1_z k2_c0 k2_f0 k2_c1 k2_f1 k2_c2 k2_f2 k2_z k3_c0 k3_f0 k3_c1 k3_f1 k3_c2 k3_f2 k3_c3 k3_f3 k3_z k4_c0 k4_f0 k4_c1 k4_f1 k4_c2 k4_f2 k4_z k5_c0 k5_f0 k5_c1 k5_f1 k5_c2 k5_f2 k5_c3 k5_f3 k5_c4 k5_f4 k5_c5 k5_f5 k5_c6 k5_f6 k5_c7 k5_f7 k5_c8 k5_f8 k5_c9 k5_f9 k5_z k6_c0 k6_f0 k6_c1 k6_f1 k6_c2 k6_f2 k6_c3 k6_f3 k6_z k7_c0 k7_f0 k7_c1 k7_f1 k7_c2 k7_f2 k7_c3 k7_f3 k7_z
    refine (hNr _).mono ?_
    rintro e w9 ⟨rfl, hb9⟩
    replace hb0 := hb0.trans (hb9.mono hb0.size)
    replace hT := hT.below hb9
    replace hU := hU.below hb9
    replace k1 := k1.below hb9 k1.lt
    replace k2 := k2.below hb9 k2.lt
    replace k3 := k3.below hb9 k3.lt
    replace k4 := k4.below hb9 k4.lt
    replace k5 := k5.below hb9 k5.lt
    replace k6 := k6.below hb9 k6.lt
    replace k7 := k7.below hb9 k7.lt
    clear hb9
    have k1_c0 := k1.cell 0
    have k1_f0 := k1.frozen 0
    have k1_c1 := k1.cell 1
    have k1_f1 := k1.frozen 1
    have k1_z := k1.lt
    have k2_c0 := k2.cell 0
    have k2_f0 := k2.frozen 0
    have k2_c1 := k2.cell 1
    have k2_f1 := k2.frozen 1
    have k2_c2 := k2.cell 2
    have k2_f2 := k2.frozen 2
    have k2_z := k2.lt
    have k3_c0 := k3.cell 0
    have k3_f0 := k3.frozen 0
    have k3_c1 := k3.cell 1
    have k3_f1 := k3.frozen 1
    have k3_c2 := k3.cell 2
    have k3_f2 := k3.frozen 2
    have k3_c3 := k3.cell 3
    have k3_f3 := k3.frozen 3
    have k3_z := k3.lt
    have k4_c0 := k4.cell 0
    have k4_f0 := k4.frozen 0
    have k4_c1 := k4.cell 1
    have k4_f1 := k4.frozen 1
    have k4_c2 := k4.cell 2
    have k4_f2 := k4.frozen 2
    have k4_z := k4.lt
    have k5_c0 := k5.cell 0
    have k5_f0 := k5.frozen 0
    have k5_c1 := k5.cell 1
    have k5_f1 := k5.frozen 1
    have k5_c2 := k5.cell 2
    have k5_f2 := k5.frozen 2
    have k5_c3 := k5.cell 3
    have k5_f3 := k5.frozen 3
    have k5_c4 := k5.cell 4
    have k5_f4 := k5.frozen 4
    have k5_c5 := k5.cell 5
    have k5_f5 := k5.frozen 5
    have k5_c6 := k5.cell 6
    have k5_f6 := k5.frozen 6
    have k5_c7 := k5.cell 7
    have k5_f7 := k5.frozen 7
    have k5_c8 := k5.cell 8
    have k5_f8 := k5.frozen 8
    have k5_c9 := k5.cell 9
    have k5_f9 := k5.frozen 9
    have k5_z := k5.lt
    have k6_c0 := k6.cell 0
    have k6_f0 := k6.frozen 0
    have k6_c1 := k6.cell 1
    have k6_f1 := k6.frozen 1
    have k6_c2 := k6.cell 2
    have k6_f2 := k6.frozen 2
    have k6_c3 := k6.cell 3
    have k6_f3 := k6.frozen 3
    have k6_z := k6.lt
    have k7_c0 := k7.cell 0
    have k7_f0 := k7.frozen 0
    have k7_c1 := k7.cell 1
    have k7_f1 := k7.frozen 1
    have k7_c2 := k7.cell 2
    have k7_f2 := k7.frozen 2
    have k7_c3 := k7.cell 3
    have k7_f3 := k7.frozen 3
    have k7_z := k7.lt
    simp only [List.getElem?_toArray, List.getElem?_cons_zero, List.getElem?_cons_succ] at k1_c0 k1_c1 k2_c0 k2_c1 k2_c2 k3_c0 k3_c1 k3_c2 k3_c3 k4_c0 k4_c1 k4_c2 k5_c0 k5_c1 k5_c2 k5_c3 k5_c4 k5_c5 k5_c6 k5_c7 k5_c8 k5_c9 k6_c0 k6_c1 k6_c2 k6_c3 k7_c0 k7_c1 k7_c2 k7_c3
    go_wp2
    refine bodyPost_ret (v := .tuple #[.agg #[.bool false, .string ⟨#[]⟩, .int .i64 0], .bool false, .int .i64 0]) ?_ rfl ⟨rfl, (((hb0.setCell (p := ⟨w.heap.size + 1, 0, none⟩) (by simp) _).setCell (p := ⟨w.heap.size + 1, 1, none⟩) (by simp) _).setCell (p := ⟨w.heap.size + 1, 2, none⟩) (by simp) _)⟩
    refine results_cell_tmp2 rfl _ _ (w.heap.size + 1) _ _ _ _ _ _ ?_ ?_ ?_ (((k2.set_ 0 _).set_ 1 _).set_ 2 _) Tryz.underlying26 rfl (by kernel_rfl)
    · rfl
    · rfl
    · rfl
end Go.Proofs.YtenekbfnlbipiaaGreatDoor
