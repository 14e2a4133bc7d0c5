/- Walks: the document's 128 bits as two halves. -/
import Derived.Test.YtenekbfnlbipiaaDoorTnC5
import Derived.Test.YtenekbfnlbipiaaDoorTnB
import Derived.Test.YtenekbfnlbipiaaDoorLow
import Derived.Test.YtenekbfnlbipiaaDoorSubR
import Derived.Test.YtenekbfnlbipiaaDoorDown
import Derived.Test.YtenekbfnlbipiaaDoorF
namespace Go.Proofs.YtenekbfnlbipiaaDoor
open Go.RowKit
set_option linter.unusedVariables false
set_option linter.unusedSimpArgs false
set_option maxHeartbeats 4000000
set_option maxRecDepth 100000

theorem chk_lim {v k : Nat} (h : v < 4294967296 ^ k) (hk : k ≤ 16384) : chk (limbs v) = 0 := chk_limbs_of (Nat.le_trans ((length_limbs_le v k).2 h) hk)
theorem downS_lim {v k : Nat} (h : v < 4294967296 ^ k) (hk : k ≤ 16384) (n : Nat) : downS (limbs v) (n : Int) = (limbs (v / 2 ^ n), 0) := by
  unfold downS; rw [if_pos (chk_lim h hk), if_neg (by omega), val_limbs, Int.toNat_natCast]
theorem upS_lim {v k : Nat} (h : v < 4294967296 ^ k) (hk : k ≤ 10000) (n : Nat) (hn : n ≤ 100000) : upS (limbs v) (n : Int) = (limbs (v * 2 ^ n), 0) := by
  unfold upS
  rw [if_pos (chk_lim h (by omega)), if_neg (by omega), val_limbs, Int.toNat_natCast]
  by_cases h0 : limbs v = []
  · rw [if_pos h0]
    have : v = 0 := limbs_eq_nil.1 h0
    rw [this, Nat.zero_mul]; rfl
  · rw [if_neg h0, if_neg]
    have h1 : v < 2 ^ (32 * k) := by rw [Nat.pow_mul]; exact h
    have h2 : bitLen v ≤ 32 * k := by
      unfold bitLen
      split
      · omega
      · rename_i h3; have := (Nat.log2_lt h3).2 h1; omega
    omega
theorem lowS_lim {v : Nat} (h : v < 4294967296 ^ 2) : lowS (limbs v) = (v, true) := by
  unfold lowS; rw [if_pos ⟨chk_lim h (by decide), (length_limbs_le v 2).2 h⟩, val_limbs]
theorem subS_lim {u v k : Nat} (hu : u < 4294967296 ^ k) (hv : v < 4294967296 ^ k) (hk : k ≤ 16384) (h : v ≤ u) : subS (limbs u) (limbs v) = (limbs (u - v), true, 0) := by
  unfold subS
  rw [if_pos (by unfold chk2; rw [if_pos (chk_lim hu hk)]; exact chk_lim hv hk), val_limbs, val_limbs, if_neg (by omega)]
theorem bitsS_lim {v k : Nat} (h : v < 4294967296 ^ k) (hk : k ≤ 16384) : bitsS (limbs v) = (((bitLen v : Nat) : Int), 0) := by
  unfold bitsS; rw [if_pos (chk_lim h hk), val_limbs]
theorem ref_bits (A : Option Addr) (v n c : Nat) (hn : n = (limbs v).length) (hv4 : v < 4294967296 ^ 4) (w : World) (hrd : Rd w A (limbs v)) :
    Calls Tryd.prog 31 #[.agg #[.slice A n c]] w (Says w (.tuple #[.int .u64 ((v / 2 ^ 64 : Nat) : Int), .int .u64 ((v % 2 ^ 64 : Nat) : Int)])) := by
  have hD := downS_lim (k := 4) hv4 (by decide) 64
  have hU := upS_lim (v := v / 2 ^ 64) (k := 4) (Nat.lt_of_le_of_lt (Nat.div_le_self _ _) hv4) (by decide) 64 (by decide)
  have hH2 : v / 2 ^ 64 < 4294967296 ^ 2 := by
    rw [Nat.div_lt_iff_lt_mul (by decide)]
    exact Nat.lt_of_lt_of_le hv4 (by decide)
  have hL1 := lowS_lim hH2
  have hle : v / 2 ^ 64 * 2 ^ 64 ≤ v := Nat.div_mul_le_self _ _
  have hS := subS_lim (k := 4) hv4 (Nat.lt_of_le_of_lt hle hv4) (by decide) hle
  have hmod : v - v / 2 ^ 64 * 2 ^ 64 = v % 2 ^ 64 := by have := Nat.div_add_mod v (2 ^ 64); rw [Nat.mul_comm] at this; omega
  rw [hmod] at hS
  have hL2 := lowS_lim (v := v % 2 ^ 64) (Nat.lt_of_lt_of_le (Nat.mod_lt _ (by decide)) (by decide))
  obtain ⟨H, hH⟩ : ∃ H, H = v / 2 ^ 64 := ⟨_, rfl⟩
  obtain ⟨L, hL⟩ : ∃ L, L = v % 2 ^ 64 := ⟨_, rfl⟩
  obtain ⟨U, hUe⟩ : ∃ U, U = H * 2 ^ 64 := ⟨_, rfl⟩
  rw [← hH] at hD hU hL1 hS hH2 ⊢
  rw [← hUe] at hU hS
  rw [← hL] at hS hL2 ⊢
  have HD := Lib.hid (show downS (limbs v) 64 = (limbs H, 0) from hD)
  have HU := Lib.hid (show upS (limbs H) 64 = (limbs U, 0) from hU)
  have HL1 := Lib.hid hL1
  have HL2 := Lib.hid hL2
  have HS := Lib.hid hS
  clear hD hU hL1 hL2 hS hmod hle hH hL hUe hH2 hv4
  subst hn
  have hb0 : Below w.heap.size w w := Below.refl _ _
  go_enter Tryd.func31, Tryd.ntmps31
  go_wp2_with fail
  have hv1 : Below w.heap.size w (w.alloc (.cells #[.slice A (limbs v).length c] 56)) := (Below.refl _ _).alloc (by first | exact Nat.le_refl _ | (simp; done) | (simp; omega)) _
  have k1 : Blk (w.alloc (.cells #[.slice A (limbs v).length c] 56)) (w.heap.size) 56 #[.slice A (limbs v).length c] := Blk.new w 56 #[.slice A (limbs v).length c]
  replace hb0 := hb0.trans (hv1.mono hb0.size)
  replace hrd := hrd.below hv1
  generalize (w.alloc (.cells #[.slice A (limbs v).length c] 56)) = v1 at *
  clear hv1
  refine (ref_Down A (limbs v) _ c rfl 64 (by decide) (by decide) _ hrd).mono ?_
  rw [HD.out]
  rintro e w2 ⟨A1, c1, rfl, o1, hb2⟩
  replace hb0 := hb0.trans (hb2.mono hb0.size)
  replace hrd := hrd.below hb2
  replace k1 := k1.below hb2 k1.lt
  clear hb2
  have k1_c0 := k1.cell 0
  have k1_f0 := k1.frozen 0
  have k1_z := k1.lt
  simp only [List.getElem?_toArray, List.getElem?_cons_zero, List.getElem?_cons_succ] at k1_c0
  go_wp2_with fail
  clear k1_c0 k1_f0 k1_z
  have hv3 : Below w2.heap.size w2 (w2.alloc (.cells #[.slice A1 (limbs H).length c1] 56)) := (Below.refl _ _).alloc (by first | exact Nat.le_refl _ | (simp; done) | (simp; omega)) _
  have k4 : Blk (w2.alloc (.cells #[.slice A1 (limbs H).length c1] 56)) (w2.heap.size) 56 #[.slice A1 (limbs H).length c1] := Blk.new w2 56 #[.slice A1 (limbs H).length c1]
  replace hb0 := hb0.trans (hv3.mono hb0.size)
  replace hrd := hrd.below hv3
  replace k1 := k1.below hv3 k1.lt
  replace o1 := o1.below hv3 (Nat.le_refl _)
  generalize (w2.alloc (.cells #[.slice A1 (limbs H).length c1] 56)) = v3 at *
  clear hv3
  refine (ref_Low A1 (limbs H) _ c1 rfl _ o1.rd).mono ?_
  rw [HL1.out]
  rintro e w4 ⟨rfl, hb4⟩
  replace hb0 := hb0.trans (hb4.mono hb0.size)
  replace hrd := hrd.below hb4
  replace k1 := k1.below hb4 k1.lt
  replace o1 := o1.below hb4 (Nat.le_refl _)
  replace k4 := k4.below hb4 k4.lt
  clear hb4
  have k1_c0 := k1.cell 0
  have k1_f0 := k1.frozen 0
  have k1_z := k1.lt
  have k4_c0 := k4.cell 0
  have k4_f0 := k4.frozen 0
  have k4_z := k4.lt
  simp only [List.getElem?_toArray, List.getElem?_cons_zero, List.getElem?_cons_succ] at k1_c0 k4_c0
  go_wp2_with fail
  clear k1_c0 k1_f0 k1_z k4_c0 k4_f0 k4_z
  refine (ref_Up A1 (limbs H) _ c1 rfl 64 (by decide) (by decide) _ o1.rd).mono ?_
  rw [HU.out]
  rintro e w5 ⟨A2, c2, rfl, o2, hb5⟩
  replace hb0 := hb0.trans (hb5.mono hb0.size)
  replace hrd := hrd.below hb5
  replace k1 := k1.below hb5 k1.lt
  replace o1 := o1.below hb5 (Nat.le_refl _)
  replace k4 := k4.below hb5 k4.lt
  clear hb5
  have k1_c0 := k1.cell 0
  have k1_f0 := k1.frozen 0
  have k1_z := k1.lt
  have k4_c0 := k4.cell 0
  have k4_f0 := k4.frozen 0
  have k4_z := k4.lt
  simp only [List.getElem?_toArray, List.getElem?_cons_zero, List.getElem?_cons_succ] at k1_c0 k4_c0
  go_wp2_with fail
  clear k1_c0 k1_f0 k1_z k4_c0 k4_f0 k4_z
  have hv6 : Below w5.heap.size w5 (w5.alloc (.cells #[.slice A2 (limbs U).length c2] 56)) := (Below.refl _ _).alloc (by first | exact Nat.le_refl _ | (simp; done) | (simp; omega)) _
  have k8 : Blk (w5.alloc (.cells #[.slice A2 (limbs U).length c2] 56)) (w5.heap.size) 56 #[.slice A2 (limbs U).length c2] := Blk.new w5 56 #[.slice A2 (limbs U).length c2]
  replace hb0 := hb0.trans (hv6.mono hb0.size)
  replace hrd := hrd.below hv6
  replace k1 := k1.below hv6 k1.lt
  replace o1 := o1.below hv6 (Nat.le_refl _)
  replace k4 := k4.below hv6 k4.lt
  replace o2 := o2.below hv6 (Nat.le_refl _)
  generalize (w5.alloc (.cells #[.slice A2 (limbs U).length c2] 56)) = v6 at *
  clear hv6
  refine (ref_Sub A A2 (limbs v) (limbs U) _ _ c c2 rfl rfl _ hrd o2.rd).mono ?_
  rw [HS.out]
  rintro e w7 ⟨A3, c3, rfl, o3, hb7⟩
  replace hb0 := hb0.trans (hb7.mono hb0.size)
  replace hrd := hrd.below hb7
  replace k1 := k1.below hb7 k1.lt
  replace o1 := o1.below hb7 (Nat.le_refl _)
  replace k4 := k4.below hb7 k4.lt
  replace o2 := o2.below hb7 (Nat.le_refl _)
  replace k8 := k8.below hb7 k8.lt
  clear hb7
  have k1_c0 := k1.cell 0
  have k1_f0 := k1.frozen 0
  have k1_z := k1.lt
  have k4_c0 := k4.cell 0
  have k4_f0 := k4.frozen 0
  have k4_z := k4.lt
  have k8_c0 := k8.cell 0
  have k8_f0 := k8.frozen 0
  have k8_z := k8.lt
  simp only [List.getElem?_toArray, List.getElem?_cons_zero, List.getElem?_cons_succ] at k1_c0 k4_c0 k8_c0
  go_wp2_with fail
  clear k1_c0 k1_f0 k1_z k4_c0 k4_f0 k4_z k8_c0 k8_f0 k8_z
  have hv8 : Below w7.heap.size w7 (w7.alloc (.cells #[.slice A3 (limbs L).length c3] 56)) := (Below.refl _ _).alloc (by first | exact Nat.le_refl _ | (simp; done) | (simp; omega)) _
  have k10 : Blk (w7.alloc (.cells #[.slice A3 (limbs L).length c3] 56)) (w7.heap.size) 56 #[.slice A3 (limbs L).length c3] := Blk.new w7 56 #[.slice A3 (limbs L).length c3]
  replace hb0 := hb0.trans (hv8.mono hb0.size)
  replace hrd := hrd.below hv8
  replace k1 := k1.below hv8 k1.lt
  replace o1 := o1.below hv8 (Nat.le_refl _)
  replace k4 := k4.below hv8 k4.lt
  replace o2 := o2.below hv8 (Nat.le_refl _)
  replace k8 := k8.below hv8 k8.lt
  replace o3 := o3.below hv8 (Nat.le_refl _)
  generalize (w7.alloc (.cells #[.slice A3 (limbs L).length c3] 56)) = v8 at *
  clear hv8
  refine (ref_Low A3 (limbs L) _ c3 rfl _ o3.rd).mono ?_
  rw [HL2.out]
  rintro e w9 ⟨rfl, hb9⟩
  replace hb0 := hb0.trans (hb9.mono hb0.size)
  replace hrd := hrd.below hb9
  replace k1 := k1.below hb9 k1.lt
  replace o1 := o1.below hb9 (Nat.le_refl _)
  replace k4 := k4.below hb9 k4.lt
  replace o2 := o2.below hb9 (Nat.le_refl _)
  replace k8 := k8.below hb9 k8.lt
  replace o3 := o3.below hb9 (Nat.le_refl _)
  replace k10 := k10.below hb9 k10.lt
  clear hb9
  go_wp2
  go_ret2
  exact ⟨rfl, hb0⟩
end Go.Proofs.YtenekbfnlbipiaaDoor
