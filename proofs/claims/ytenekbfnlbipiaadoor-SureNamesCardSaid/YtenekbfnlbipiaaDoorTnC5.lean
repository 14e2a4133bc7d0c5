/- Walk: the document's Div, of a divisor that has no more bits. -/
import Derived.Test.YtenekbfnlbipiaaDoorTnC3
import Derived.Test.YtenekbfnlbipiaaDoorE
import Derived.Test.YtenekbfnlbipiaaDoorDvA
import Derived.Test.YtenekbfnlbipiaaDoorPl2
import Derived.Test.YtenekbfnlbipiaaDoorM
import Derived.Test.YtenekbfnlbipiaaDoorBits
import Derived.Deep.RegionHeld3
import Derived.Deep.CutBlock
import Derived.Deep.DeepCutAuto
namespace Go.Proofs.YtenekbfnlbipiaaDoor
open Go.RowKit
set_option linter.unusedVariables false
set_option linter.unusedSimpArgs false
set_option maxHeartbeats 4000000
set_option maxRecDepth 100000

theorem ref_Div_ok (A B : Option Addr) (a b : List Nat) (n m c d : Nat) (hn : n = a.length) (hm : m = b.length) (hz : chk2 a b = 0) (hb0 : val b ≠ 0) (N : Nat) (hN : bitLen (val a) = bitLen (val b) + N) (w : World) (ha : Rd w A a) (hb : Rd w B b) :
    Calls Tryd.prog 50 #[.agg #[.slice A n c], .agg #[.slice B m d]] w (DivAns w (limbs (val a / val b), limbs (val a % val b), 0)) := by
  subst hn hm
  have hl1 := (chk_zero (chk2_zero hz).1)
  have hl2 := (chk_zero (chk2_zero hz).2)
  have hbl0 : ((b.length : Int) == 0) = false := by
    rw [beq_eq_false_iff_ne]
    intro h
    have : b = [] := List.eq_nil_of_length_eq_zero (by omega)
    rw [this] at hb0; exact hb0 rfl
  have hqu := fun W h1 h2 => ref_quotient A B a b a.length b.length c d rfl rfl (by omega) (by omega) hl1.2 hl2.2 hb0 N hN W h1 h2
  have HZ := Lib.hid hz
  obtain ⟨q, hq⟩ : ∃ q, q = val a / val b := ⟨_, rfl⟩
  obtain ⟨r, hr⟩ : ∃ r, r = val a % val b := ⟨_, rfl⟩
  have hql : (limbs q).length ≤ 16384 := by
    rw [hq]; exact Nat.le_trans (limbs_div_length ha.sm (Nat.le_refl _) _) hl1.1
  have hrl : (limbs r).length ≤ 16384 := by
    rw [hr]
    exact Nat.le_trans (limbs_mono (Nat.le_of_lt (Nat.mod_lt _ (by omega)))) (Nat.le_trans (limbs_length_le hb.sm) hl2.1)
  rw [← hq, ← hr] at hqu ⊢
  have hb0' : Below w.heap.size w ((((w.alloc (.cells #[.slice A a.length c] 56)).alloc (.cells #[.slice B b.length d] 56)).alloc (.cells #[.slice none 0 0] 56)).alloc (.cells #[.slice none 0 0] 56)) := (by repeat' (first | (with_reducible assumption) | (with_reducible exact Below.refl _ _) | (with_reducible refine bdn ?_ _) | (with_reducible refine Below.drew ?_) | (with_reducible refine Below.setCell ?_ ?_ _) | (with_reducible refine Below.alloc ?_ ?_ _) | go_size))
  have hk0 : Blk ((((w.alloc (.cells #[.slice A a.length c] 56)).alloc (.cells #[.slice B b.length d] 56)).alloc (.cells #[.slice none 0 0] 56)).alloc (.cells #[.slice none 0 0] 56)) w.heap.size 56 #[.slice A a.length c] := (((Blk.new w _ _).alloc _).alloc _).alloc _
  have hk1 : Blk ((((w.alloc (.cells #[.slice A a.length c] 56)).alloc (.cells #[.slice B b.length d] 56)).alloc (.cells #[.slice none 0 0] 56)).alloc (.cells #[.slice none 0 0] 56)) (w.heap.size + 1) 56 #[.slice B b.length d] := by
    have := ((Blk.new (w.alloc (.cells #[.slice A a.length c] 56)) 56 #[.slice B b.length d]).alloc (.cells #[.slice none 0 0] 56)).alloc (.cells #[.slice none 0 0] 56)
    simpa using this
  have hk2 : Blk ((((w.alloc (.cells #[.slice A a.length c] 56)).alloc (.cells #[.slice B b.length d] 56)).alloc (.cells #[.slice none 0 0] 56)).alloc (.cells #[.slice none 0 0] 56)) (w.heap.size + 2) 56 #[.slice none 0 0] := by
    have := (Blk.new ((w.alloc (.cells #[.slice A a.length c] 56)).alloc (.cells #[.slice B b.length d] 56)) 56 #[.slice none 0 0]).alloc (.cells #[.slice none 0 0] 56)
    simpa using this
  have hk3 : Blk ((((w.alloc (.cells #[.slice A a.length c] 56)).alloc (.cells #[.slice B b.length d] 56)).alloc (.cells #[.slice none 0 0] 56)).alloc (.cells #[.slice none 0 0] 56)) (w.heap.size + 3) 56 #[.slice none 0 0] := by
    have := Blk.new (((w.alloc (.cells #[.slice A a.length c] 56)).alloc (.cells #[.slice B b.length d] 56)).alloc (.cells #[.slice none 0 0] 56)) 56 #[.slice none 0 0]
    simpa using this
  clear hz hb0 hN hq hr
  go_enter Tryd.func50, Tryd.ntmps50
  go_wp2_with fail
  generalize ((((w.alloc (.cells #[.slice A a.length c] 56)).alloc (.cells #[.slice B b.length d] 56)).alloc (.cells #[.slice none 0 0] 56)).alloc (.cells #[.slice none 0 0] 56)) = w0 at *
  refine (ref_two A B a b _ _ c d rfl rfl _ (ha.below hb0') (hb.below hb0')).mono ?_
  rintro e w1 ⟨rfl, hb1⟩
  rw [HZ.out]
  have k0 := hk0.below hb1 hk0.lt
  have k1 := hk1.below hb1 hk1.lt
  have k2 := hk2.below hb1 hk2.lt
  have k3 := hk3.below hb1 hk3.lt
  have c0 := k0.cell 0
  have c1 := k1.cell 0
  have c0z := k0.lt
  have c1z := k1.lt
  have hb01 := hb0'.trans (hb1.mono hb0'.size)
  clear hk0 hk1 hk2 hk3 hb1 hb0'
  go_wp2_with fail
  refine (hqu _ (ha.below hb01) (hb.below hb01)).mono ?_
  rintro e w2 ⟨V1, V2, rfl, o1, o2, hb2⟩
  obtain ⟨A1, c1', rfl⟩ := o1.len.2
  obtain ⟨A2, c2', rfl⟩ := o2.len.2
  have k2' := k2.below hb2 k2.lt
  have k3' := k3.below hb2 k3.lt
  have hb02 := hb01.trans (hb2.mono hb01.size)
  have hzw := hb01.size
  have hk3z := k3.lt
  clear k0 k1 k2 k3 c0 c1 c0z c1z hb2 hb01 hqu
  go_wp2_with fail
  refine (ref_nat A1 _ c1' _).mono ?_
  rintro e w3 ⟨rfl, hb3⟩
  go_wp2_with fail
  refine (ref_nat A2 _ c2' _).mono ?_
  rintro e w4 ⟨rfl, hb4⟩
  have hb24 := hb3.trans (hb4.mono hb3.size)
  have k2'' := k2'.below hb24 k2'.lt
  have k3'' := k3'.below hb24 k3'.lt
  have c2 := k2''.cell 0
  have c3 := k3''.cell 0
  have f2 := k2''.frozen 0
  have f3 := k3''.frozen 0
  have z2 := k2''.lt
  have z3 := k3''.lt
  obtain ⟨_, _, e1, _, p1⟩ := (o1.own (sm_limbs q) (by omega))
  injection e1 with a1 a2 a3
  subst a1 a3
  obtain ⟨_, _, e2, _, p2⟩ := (o2.own (sm_limbs r) (by omega))
  injection e2 with a1 a2 a3
  subst a1 a3
  have q1 := (((p1.below hb24 (Nat.le_refl _)).setCell (p := ⟨w.heap.size + 2, 0, none⟩) (by show w.heap.size + 2 < w1.heap.size; omega) (.slice A1 (limbs q).length c1')).setCell (p := ⟨w.heap.size + 3, 0, none⟩) (by show w.heap.size + 3 < w1.heap.size; omega) (.slice A2 (limbs r).length c2')).mono (B' := w.heap.size) hzw
  have q2 := (((p2.below hb24 (Nat.le_refl _)).setCell (p := ⟨w.heap.size + 2, 0, none⟩) (by show w.heap.size + 2 < w1.heap.size; omega) (.slice A1 (limbs q).length c1')).setCell (p := ⟨w.heap.size + 3, 0, none⟩) (by show w.heap.size + 3 < w1.heap.size; omega) (.slice A2 (limbs r).length c2')).mono (B' := w.heap.size) hzw
  have hbf := ((hb02.trans (hb24.mono hb02.size)).setCell (p := ⟨w.heap.size + 2, 0, none⟩) (by show w.heap.size ≤ w.heap.size + 2; omega) (.slice A1 (limbs q).length c1')).setCell (p := ⟨w.heap.size + 3, 0, none⟩) (by show w.heap.size ≤ w.heap.size + 3; omega) (.slice A2 (limbs r).length c2')
  clear k2' k3' k2'' k3'' hb3 hb4 hb24 o1 o2 p1 p2 hb02
  go_wp2
  (try simp only [Exit.inBlock, Exit.then]); refine bodyPost_ret (by simp (maxDischargeDepth := 9) [results, Tryd.results50, go_sem, c2, c3, f2, f3, z2, z3]; try rfl) rfl ?_
  exact ⟨_, _, _, _, rfl, q1, q2, hbf⟩
end Go.Proofs.YtenekbfnlbipiaaDoor
namespace Go.Proofs.YtenekbfnlbipiaaDoor
open Go.RowKit
set_option linter.unusedVariables false
set_option linter.unusedSimpArgs false
set_option maxHeartbeats 4000000
set_option maxRecDepth 100000

/-- The table of powers of five. -/
def Tab5 (w : World) : Prop := ∀ j, j < 28 → w.cell? ⟨1, j, none⟩ = some (.int .u64 ((5 ^ j : Nat) : Int))
theorem Tab5.below {w w' : World} (h : Tab5 w) (hb : Below w.heap.size w w') : Tab5 w' := fun j hj => cell_keep hb (h j hj)
theorem far_lo {K : Int} (h : K < -400) : farB K = true := by unfold farB; rw [decide_eq_true h]; rfl
theorem far_hi {K : Int} (h : 400 < K) : farB K = true := by unfold farB; rw [decide_eq_true h, Bool.or_true]
theorem far_no {K : Int} (h : ¬ K < -400) (h2 : ¬ 400 < K) : farB K = false := by unfold farB; rw [decide_eq_false h, decide_eq_false h2]; rfl
theorem power_far (K : Int) (w : World) : Calls Tryd.prog 41 #[.int .i64 K] w fun e w' => e = .returned (.bool (farB K)) ∧ w = w' := by
  by_cases h1 : K < -400
  · rw [far_lo h1]
    have d1 : decide (K < -400) = true := by simpa using h1
    go_enter Tryd.func41, Tryd.ntmps41
    go_wp2
    go_ret
    exact ⟨rfl, rfl⟩
  · have d1 : decide (K < -400) = false := by simpa using h1
    by_cases h2 : 400 < K
    · rw [far_hi h2]
      have d2 : decide (400 < K) = true := by simpa using h2
      go_enter Tryd.func41, Tryd.ntmps41
      go_wp2
      go_ret
      exact ⟨rfl, rfl⟩
    · rw [far_no h1 h2]
      have d2 : decide (400 < K) = false := by simpa using h2
      go_enter Tryd.func41, Tryd.ntmps41
      go_wp2
      go_ret
      exact ⟨rfl, rfl⟩
theorem ref_far (K : Int) (w : World) : Calls Tryd.prog 23 #[.int .i64 K] w fun e w' => e = .returned (.bool (farB K)) ∧ w = w' := by
  by_cases h1 : K < -400
  · rw [far_lo h1]
    have d1 : decide (K < -400) = true := by simpa using h1
    go_enter Tryd.func23, Tryd.ntmps23
    go_wp2
    go_ret
    exact ⟨rfl, rfl⟩
  · have d1 : decide (K < -400) = false := by simpa using h1
    by_cases h2 : 400 < K
    · rw [far_hi h2]
      have d2 : decide (400 < K) = true := by simpa using h2
      go_enter Tryd.func23, Tryd.ntmps23
      go_wp2
      go_ret
      exact ⟨rfl, rfl⟩
    · rw [far_no h1 h2]
      have d2 : decide (400 < K) = false := by simpa using h2
      go_enter Tryd.func23, Tryd.ntmps23
      go_wp2
      go_ret
      exact ⟨rfl, rfl⟩
theorem len5_le {k v m : Nat} (hk : k ≤ 400) (h : v * 5 ^ m = 5 ^ k) : (limbs v).length ≤ 30 := by
  rw [length_limbs_le]
  have h1 : v ≤ 5 ^ k := by rw [← h]; exact Nat.le_mul_of_pos_right _ (Nat.pow_pos (by decide))
  exact Nat.lt_of_le_of_lt h1 (len5 ⟨k, by omega⟩)
theorem set_keep {w : World} {a p : Addr} {u v : Value} (h : w.cell? a = some v) (hne : a.block < p.block) : (w.setCell p u).cell? a = some v := (World.cell?_setCell_other w p a u (fun e => by rw [e] at hne; exact Nat.lt_irrefl _ hne)).trans h
theorem power_five (k : Nat) (hk : k ≤ 400) (w : World) (hT : Tab5 w) :
    Calls Tryd.prog 42 #[.int .i64 (k : Int)] w (NatAns 90 w (limbs (5 ^ k), 0)) := by
  go_enter Tryd.func42, Tryd.ntmps42
  go_wp2_with fail
  refine (nat_Of 1 1 rfl (by decide) _).mono ?_
  rintro e w1 ⟨A1, c1, rfl, o1, hb1⟩
  have hb01 : Below w.heap.size w w1 := ((Below.refl w.heap.size w).alloc (Nat.le_refl _) _).trans (hb1.mono (by simp))
  have hz1 : w.heap.size < w1.heap.size := by have := hb1.size; simp at this; omega
  have hk0 : Blk w1 w.heap.size 56 #[.slice none 0 0] := (Blk.new w _ _).below hb1 (by simp)
  have hka := hk0.alloc (.cells #[.slice A1 (limbs 1).length c1] 56)
  have hk4 := Blk.new w1 56 #[.slice A1 (limbs 1).length c1]
  have ho1 := (o1.alloc (.cells #[.slice A1 (limbs 1).length c1] 56)).mono (B' := w.heap.size + 1) (by simp)
  have hb02 := hb01.alloc hb01.size (.cells #[.slice A1 (limbs 1).length c1] 56)
  obtain ⟨g4, hg4⟩ : ∃ g4, g4 = w1.heap.size := ⟨_, rfl⟩
  rw [← hg4] at hk4 hz1
  clear hb1 hb01 hk0 o1
  go_wp2
  rw [← hg4]
  clear hg4
  go_loopw [0] (fun v0 wr => ∃ (m v : Nat) (A : Option Addr) (c : Nat), m ≤ k ∧ v0 = .int .i64 (m : Int) ∧ v * 5 ^ m = 5 ^ k ∧ Blk wr w.heap.size 56 #[.slice none 0 0] ∧ Blk wr g4 56 #[.slice A (limbs v).length c] ∧ Own wr 90 (w.heap.size + 1) A c (limbs v) ∧ Below w.heap.size w wr) (fun v0 _ => (intOf v0).toNat)
  case atStart => exact ⟨k, 1, A1, c1, Nat.le_refl _, rfl, Nat.one_mul _, hka, hk4, ho1, hb02⟩
  case round =>
    clear hka hk4 ho1 hb02
    obtain ⟨m, v, A, c, hm, rfl, hv, hk0, hk4, ho, hbl⟩ := hrel
    by_cases hm0 : 0 < m
    · obtain ⟨s, hs⟩ : ∃ s, s = min m 27 := ⟨_, rfl⟩
      have hsm : s ≤ m := by omega
      have hs27 : s ≤ 27 := by omega
      have hs0 : 0 < s := by omega
      have hmin : Hid ((if (27 : Int) < (m : Int) then (27 : Int) else (m : Int)) = (s : Int)) := Lib.hid (by split <;> omega)
      have hd0 : decide ((0 : Int) < (m : Int)) = true := by simp; omega
      obtain ⟨p, hp⟩ : ∃ p, p = 5 ^ s := ⟨_, rfl⟩
      have hc5 := (hT.below hbl) s (by omega)
      rw [← hp] at hc5
      have hp64 : p < 18446744073709551616 := by
        rw [hp]
        exact Nat.lt_of_le_of_lt (Nat.pow_le_pow_right (by decide) hs27) (by decide)
      have hvp : v * p * 5 ^ (m - s) = 5 ^ k := by
        rw [hp, Nat.mul_assoc, ← Nat.pow_add, show s + (m - s) = m by omega, hv]
      have hlv := len5_le hk hv
      have hlvp := len5_le hk hvp
      have hlp : (limbs p).length ≤ 2 := (length_limbs_le _ _).2 (by simpa using hp64)
      have hms := mulS_limbs (x := v) (y := p) (by omega) (by omega)
      rw [fitS_ok (by omega)] at hms
      have e0 : wr.cell? ⟨g4, 0, none⟩ = some (.slice A (limbs v).length c) := hk4.cell 0
      have hgz := hk4.lt
      have hg5 := cell_lt hc5
      have s0 : (0 : Int) ≤ (s : Int) := by omega
      have s1 : (s : Int) < 28 := by omega
      have hs28 : s < 28 := by omega
      have HVP := Lib.hid hvp
      have HMS := Lib.hid hms
      have HS := Lib.hid hs
      have HP := Lib.hid hp
      clear hvp hms hs hp hv
      go_upto_region 4 with (fail)
      rw [hmin.out]
      go_cut [6, 7] (fun v6 v7 wx => ∃ (gp : Nat) (A6 : Option Addr) (c6 : Nat), v6 = .pointer (some ⟨gp, 0, none⟩) ∧ v7 = .int .i64 0 ∧ wx.cell? ⟨gp, 0, none⟩ = some (.slice A6 (limbs (v * p)).length c6) ∧ Own wx 90 wr.heap.size A6 c6 (limbs (v * p)) ∧ Below wr.heap.size wr wx)
      case first =>
        have nz : wr.heap.size < (wr.drew.alloc (.cells #[.slice none 0 0] 56)).heap.size := by simp
        have kz : Blk (wr.drew.alloc (.cells #[.slice none 0 0] 56)) wr.heap.size 56 #[.slice none 0 0] := Blk.new wr.drew _ _
        have bz : Below wr.heap.size wr (wr.drew.alloc (.cells #[.slice none 0 0] 56)) := (Below.drew (Below.refl _ _)).alloc (Nat.le_refl _) _
        have b0 : Below wr.heap.size wr wr.drew := Below.drew (Below.refl _ _)
        go_region_held3 (fun w' => w'.cell? ⟨g4, 0, none⟩ = some (.slice A (limbs v).length c) ∧ w'.cell? ⟨1, s, none⟩ = some (.int .u64 (p : Int)))
          (first | exact ⟨e0, hc5⟩ | exact ⟨cell_keep bz e0, cell_keep bz hc5⟩ | exact ⟨e5, q5⟩ | exact ⟨(World.cell?_alloc_lt _ _ _ z5).trans e5, (World.cell?_alloc_lt _ _ _ y5).trans q5⟩ | exact ⟨e6, q6⟩ | exact ⟨set_keep e6 z5, set_keep q6 y5⟩ | exact ⟨set_keep e6 hgz, set_keep q6 hg5⟩ | exact ⟨(World.cell?_alloc_lt _ _ _ z6).trans e6, (World.cell?_alloc_lt _ _ _ y6).trans q6⟩ | go_keep)
          (first
          | (go_at_call 45
             refine (nat_Of (p : Int) p rfl hp64 _).mono ?_
             rintro r w5 ⟨A5, c5, rfl, o5, hb5⟩
             have hw5 : Below wr.heap.size wr w5 := by first | exact b0.trans hb5 | exact bz.trans (hb5.mono (Nat.le_of_lt nz))
             have e5 := cell_keep hw5 e0
             have q5 := cell_keep hw5 hc5
             have z5 := cell_lt e5
             have y5 := cell_lt q5
             have r5 := ho.rd.below hw5
             have zz5 := hw5.size
             try (have kp5 : Blk w5 wr.heap.size 56 #[.slice none 0 0] := kz.below hb5 nz))
          | (go_at_call 75
             refine (nat_Mul A A5 (limbs v) (limbs p) _ _ c c5 rfl rfl _ (by first | exact r5 | exact r5.alloc _) (by first | exact o5.rd | exact o5.rd.alloc _)).mono ?_
             rw [HMS.out]
             rintro r w6 ⟨A6, c6, rfl, o6, hb6⟩
             have hw6 : Below w5.heap.size w5 w6 := by first | exact hb6 | exact ((Below.refl _ _).alloc (Nat.le_refl _) _).trans (hb6.mono (by simp))
             have e6 := cell_keep hw6 e5
             have q6 := cell_keep hw6 q5
             have z6 := cell_lt e6
             have y6 := cell_lt q6
             have o6' := o6.mono (B' := wr.heap.size) (by first | exact zz5 | (simp only [World.size_alloc]; omega))
             have hw06 := hw5.trans (hw6.mono zz5)
             first
               | (have kp6 : Blk w6 wr.heap.size 56 #[.slice none 0 0] := kp5.below hw6 kp5.lt
                  have p6 : w6.cell? ⟨wr.heap.size, 0, none⟩ = some (.slice none 0 0) := kp6.cell 0
                  have p6f := kp6.frozen 0
                  have p6z := kp6.lt)
               | (have kp6 : Blk w6 w5.heap.size 56 #[.slice none 0 0] := (Blk.new w5 _ _).below hb6 (by simp)
                  have p6 : w6.cell? ⟨w5.heap.size, 0, none⟩ = some (.slice none 0 0) := kp6.cell 0
                  have p6f := kp6.frozen 0
                  have p6z := kp6.lt)
               | skip)
          | fail)
        all_goals (go_wp2_with fail; go_meet)
        all_goals (first
          | exact ⟨_, A6, c6, rfl, rfl, by simp, o6'.alloc _, hw06.alloc hw06.size _⟩
          | exact ⟨_, A6, c6, rfl, rfl, World.cell?_setCell_same _ _ _ p6, (o6.setCell (show w5.heap.size < _ by simp) _).mono (by simp only [World.size_alloc]; omega), hw06.setCell zz5 _⟩
          | exact ⟨_, A6, c6, rfl, rfl, World.cell?_setCell_same _ _ _ p6, (o6.setCell kp5.lt _).mono zz5, hw06.setCell (Nat.le_refl _) _⟩)
      case rest =>
        obtain ⟨gp, A6, c6, rfl, rfl, hp6, o6, hb6⟩ := hcut
        have hk0' := hk0.below hb6 hk0.lt
        have hk4' := hk4.below hb6 hgz
        have i0 := hk4'.cell 0
        have i1 := hk4'.frozen 0
        have i2 := hk4'.lt
        have hbl' := hbl.trans (hb6.mono hbl.size)
        have hne : w.heap.size ≠ g4 := Nat.ne_of_lt hz1
        have o6' := (o6.setCell (p := ⟨g4, 0, none⟩) hgz (.slice A6 (limbs (v * p)).length c6)).mono (B' := w.heap.size + 1) hk0.lt
        have hk4'' := hk4'.set_ 0 (.slice A6 (limbs (v * p)).length c6)
        have hk0'' := hk0'.far (p := ⟨g4, 0, none⟩) hne (.slice A6 (limbs (v * p)).length c6)
        have hbl'' := hbl'.setCell (p := ⟨g4, 0, none⟩) (Nat.le_of_lt hz1) (.slice A6 (limbs (v * p)).length c6)
        have hz6 := cell_lt hp6
        clear hk0 hk4 ho hbl hb6 hk0' hk4' hbl' o6 e0 hc5
        go_wp2
        go_roundw
        case rel => exact ⟨m - s, v * p, A6, c6, by omega, vi (by omega), HVP.out, hk0'', hk4'', o6', hbl''⟩
        case measure => first | (simp [intOf]; done) | (simp [intOf]; omega)
    · obtain rfl : m = 0 := by omega
      have hv1 : v = 5 ^ k := by simpa using hv
      have HV := Lib.hid hv1
      have i0 := hk4.cell 0
      have i2 := hk4.lt
      have j0 := hk0.cell 0
      have j1 := hk0.frozen 0
      have j2 := hk0.lt
      have hbl2 := hbl.setCell (p := ⟨w.heap.size, 0, none⟩) (Nat.le_refl _) (.slice A (limbs v).length c)
      clear hv hv1
      go_wp2
      (try simp only [Exit.inBlock, Exit.then]); refine bodyPost_ret (by simp (maxDischargeDepth := 9) [results, Tryd.results42, go_sem, j0, j1]; try rfl) rfl ?_
      rw [← HV.out]
      exact ⟨A, c, rfl, (ho.setCell (Nat.lt_succ_self _) _).mono (Nat.le_succ _), hbl2⟩
end Go.Proofs.YtenekbfnlbipiaaDoor
namespace Go.Proofs.YtenekbfnlbipiaaDoor
open Go.RowKit
set_option linter.unusedVariables false
set_option linter.unusedSimpArgs false
set_option maxHeartbeats 4000000
set_option maxRecDepth 100000

def lowS (l : List Nat) : Nat × Bool := if chk l = 0 ∧ l.length ≤ 2 then (val l, true) else (0, false)
theorem lowS_no {l : List Nat} (h : ¬(chk l = 0 ∧ l.length ≤ 2)) : lowS l = (0, false) := by unfold lowS; rw [if_neg h]
theorem lowS_yes {l : List Nat} (h : chk l = 0) (h2 : l.length ≤ 2) : lowS l = (val l, true) := by unfold lowS; rw [if_pos ⟨h, h2⟩]
theorem or_lo (x y : Nat) (hx : x < 4294967296) (hy : y < 4294967296) : bits BinOp.or IntKind.u64 (x : Int) ((y : Int) * 4294967296) = ((x + 4294967296 * y : Nat) : Int) := by
  have e : ((y : Int) * 4294967296) = ((y * 4294967296 : Nat) : Int) := by omega
  rw [e, u64_or_nat _ _ (by omega) (by omega), Nat.or_comm]
  have := Nat.two_pow_add_eq_or_of_lt (i := 32) (b := x) hx y
  rw [show y * 4294967296 = 2 ^ 32 * y from by omega, ← this]
  omega

theorem ref_limb' (A : Option Addr) (l : List Nat) (n c : Nat) (hn : n = l.length) (i : Int) (hi : 0 ≤ i) (w : World) (h : Rd w A l) :
    Calls Tryd.prog 87 #[.slice A n c, .int .i64 i] w fun e w' => e = .returned (.int .u64 ((nth l i.toNat : Nat) : Int)) ∧ w' = w := by
  refine (ref_limb A l n c hn i hi w h).mono ?_
  rintro e w' ⟨rfl, rfl⟩
  exact ⟨rfl, rfl⟩

theorem ref_Low (A : Option Addr) (l : List Nat) (n c : Nat) (hn : n = l.length) (w : World) (h : Rd w A l) :
    Calls Tryd.prog 60 #[.agg #[.slice A n c]] w (Says w (.tuple #[.int .u64 (((lowS l).1 : Nat) : Int), .bool (lowS l).2])) := by
  subst hn
  have hl := h.len
  have h1 := h.alloc (Obj.cells #[Value.slice A l.length c] 56)
  by_cases hc0 : chk l = 0
  · have Hchk : Hid (chk l = 0) := hc0
    by_cases h2 : l.length ≤ 2
    · rw [lowS_yes hc0 h2]
      clear hc0
      have hB : decide ((2 : Int) < (l.length : Int)) = false := by simp; omega
      have hx := h.sm.nth 0
      have hy := h.sm.nth 1
      have HO := or_lo _ _ hx hy
      have HV : Hid (val l = nth l 0 + 4294967296 * nth l 1) := by
        show _ = _
        match l, h2 with
        | [], _ => rfl
        | [x], _ => simp [val, nth]
        | [x, y], _ => simp [val, nth]
      go_enter Tryd.func60, Tryd.ntmps60
      go_wp2_with fail
      refine (ref_Check _ _ _ c rfl _ h1).mono ?_
      rintro e w1 ⟨rfl, hb1⟩
      rw [Hchk.out]
      obtain ⟨hc1, hf1⟩ := bcell hb1
      have hbw1 : Below w.heap.size w w1 := Below.trans (b := _) (by repeat' (first | (with_reducible assumption) | (with_reducible exact Below.refl _ _) | (with_reducible refine bdn ?_ _) | (with_reducible refine Below.drew ?_) | (with_reducible refine Below.setCell ?_ ?_ _) | (with_reducible refine Below.alloc ?_ ?_ _) | go_size)) (hb1.mono (by go_size))
      have hz1_0 : w.heap.size < w1.heap.size := by have := hb1.size; simp at this; omega
      have hrd := h1.below hb1
      go_wp2
      go_quiet ((go_at_call 87; exact Calls.quiet_of_same (ref_limb' A l _ c rfl _ (by decide) _ (by exact hrd.drewN _))))
      go_wp2
      go_ret2
      exact ⟨by rw [HV.out]; simp, (by repeat' (first | (with_reducible assumption) | (with_reducible exact Below.refl _ _) | (with_reducible refine bdn ?_ _) | (with_reducible refine Below.drew ?_) | (with_reducible refine Below.setCell ?_ ?_ _) | (with_reducible refine Below.alloc ?_ ?_ _) | go_size))⟩
    · rw [lowS_no (fun h => h2 h.2)]
      clear hc0
      have hB : decide ((2 : Int) < (l.length : Int)) = true := by simp; omega
      go_enter Tryd.func60, Tryd.ntmps60
      go_wp2_with fail
      refine (ref_Check _ _ _ c rfl _ h1).mono ?_
      rintro e w1 ⟨rfl, hb1⟩
      rw [Hchk.out]
      obtain ⟨hc1, hf1⟩ := bcell hb1
      have hbw1 : Below w.heap.size w w1 := Below.trans (b := _) (by repeat' (first | (with_reducible assumption) | (with_reducible exact Below.refl _ _) | (with_reducible refine bdn ?_ _) | (with_reducible refine Below.drew ?_) | (with_reducible refine Below.setCell ?_ ?_ _) | (with_reducible refine Below.alloc ?_ ?_ _) | go_size)) (hb1.mono (by go_size))
      have hz1_0 : w.heap.size < w1.heap.size := by have := hb1.size; simp at this; omega
      go_wp2
      go_ret2
      exact ⟨rfl, hbw1⟩
  · rw [lowS_no (fun h => hc0 h.1)]
    have hne : (chk l != 0) = true := by rw [bne_iff_ne]; exact hc0
    clear hc0
    go_enter Tryd.func60, Tryd.ntmps60
    go_wp2_with fail
    refine (ref_Check _ _ _ c rfl _ h1).mono ?_
    rintro e w1 ⟨rfl, hb1⟩
    obtain ⟨hc1, hf1⟩ := bcell hb1
    have hbw1 : Below w.heap.size w w1 := Below.trans (b := _) (by repeat' (first | (with_reducible assumption) | (with_reducible exact Below.refl _ _) | (with_reducible refine bdn ?_ _) | (with_reducible refine Below.drew ?_) | (with_reducible refine Below.setCell ?_ ?_ _) | (with_reducible refine Below.alloc ?_ ?_ _) | go_size)) (hb1.mono (by go_size))
    have hz1_0 : w.heap.size < w1.heap.size := by have := hb1.size; simp at this; omega
    go_wp2
    go_ret2
    exact ⟨rfl, hbw1⟩
end Go.Proofs.YtenekbfnlbipiaaDoor
