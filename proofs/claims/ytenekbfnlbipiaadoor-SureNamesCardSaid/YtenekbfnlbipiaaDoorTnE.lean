/- Walks: the document's powers of ten. -/
import Derived.Test.YtenekbfnlbipiaaDoorSubR
import Derived.Test.YtenekbfnlbipiaaDoorL
import Derived.Test.YtenekbfnlbipiaaDoorBit
import Derived.Test.YtenekbfnlbipiaaDoorSubN
import Derived.IntWalk
namespace Go.Proofs.YtenekbfnlbipiaaDoor
open Go.RowKit
set_option linter.unusedVariables false
set_option linter.unusedSimpArgs false
set_option maxHeartbeats 4000000
set_option maxRecDepth 100000

theorem powS_ten {j : Nat} (hj : j ≤ 400) : powS 10 (j : Int) = (limbs (10 ^ j), 0) := by
  unfold powS
  rw [if_neg (by omega)]
  by_cases h0 : j = 0
  · subst h0; rfl
  · rw [if_neg (by omega), if_neg (by decide), if_neg (by omega), Int.toNat_natCast]
    exact fitS_ok (Nat.le_trans ((length_limbs_le _ 42).2 (len10 ⟨j, by omega⟩)) (by decide))
theorem two_lim {m k : Nat} (h : m < 32 * k) : 2 ^ m < 4294967296 ^ k := by
  rw [show 4294967296 = 2 ^ 32 from rfl, ← Nat.pow_mul]
  exact Nat.pow_lt_pow_right (by decide) h
theorem set_keep2 {w : World} {a p : Addr} {u v : Value} (h : w.cell? a = some v) (hne : p.block < a.block) : (w.setCell p u).cell? a = some v := (World.cell?_setCell_other w p a u (fun e => by rw [e] at hne; exact Nat.lt_irrefl _ hne)).trans h
theorem bitLen_two (m : Nat) : bitLen (2 ^ m) = m + 1 := by
  unfold bitLen
  rw [if_neg (by have := Nat.two_pow_pos m; omega), Nat.log2_two_pow]
theorem dec_limbs (x y : Nat) : decide (limbs x = limbs y) = decide (x = y) := by
  by_cases h : x = y
  · subst h; simp
  · rw [decide_eq_false h, decide_eq_false]
    intro e
    have := congrArg val e
    rw [val_limbs, val_limbs] at this
    exact h this
/-- What ten answers. -/
def TenAns (w : World) (v : Nat) (x : Int) (b : Bool) (e : Ending) (w' : World) : Prop :=
  ∃ A c, e = .returned (.tuple #[.agg #[.slice A (limbs v).length c], .int .i64 x, .bool b]) ∧ Own w' 90 w.heap.size A c (limbs v) ∧ Below w.heap.size w w'

theorem ref_ten_low (j : Nat) (hj : j ≤ 400) (hzl : bitLen (10 ^ j) ≤ 128) (w : World) :
    Calls Tryd.prog 24 #[.int .i64 (j : Int)] w (TenAns w (tenN (j : Int)) (tenE (j : Int)) (tenX (j : Int))) := by
  have hP := powS_ten hj
  have hl10 := len10 ⟨j, by omega⟩
  have hbP := bitsS_lim (v := 10 ^ j) (k := 42) hl10 (by decide)
  have hz := bl10 ⟨j, by omega⟩
  have hnb := (ref_neg ⟨j, by omega⟩).2
  simp only at hl10 hz hnb

  have hlo := ref_low ⟨j, by omega⟩ hzl
  simp only at hlo
  have hU := upS_lim (v := 10 ^ j) (k := 42) hl10 (by decide) (128 - bitLen (10 ^ j)) (by omega)
  rw [hlo.1, show ((128 - bitLen (10 ^ j) : Nat) : Int) = 128 - ((bitLen (10 ^ j) : Nat) : Int) by omega] at hU
  have hE : tenE (j : Int) = ((bitLen (10 ^ j) : Nat) : Int) - 128 := by
    unfold tenE tS
    rw [if_neg (by omega), Int.natAbs_natCast, hnb]
    omega
  rw [hlo.2, hE]
  clear hE hlo
  generalize tenN (j : Int) = V at hU ⊢
  obtain ⟨P, hPe⟩ : ∃ P, P = 10 ^ j := ⟨_, rfl⟩
  obtain ⟨z, hze⟩ : ∃ z, z = bitLen (10 ^ j) := ⟨_, rfl⟩
  rw [← hze] at hbP hzl hz hnb hU ⊢
  rw [← hPe] at hbP hP hl10 hU
  have HP := Lib.hid hP
  have HB := Lib.hid hbP
  have hb0 : Below w.heap.size w w := Below.refl _ _
  clear hP hbP hnb hze hPe hl10
  go_enter Tryd.func24, Tryd.ntmps24
  go_wp2_with fail
  have hv1 : Below w.heap.size w (w.alloc (.cells #[.slice none 0 0] 56)) := (Below.refl _ _).alloc (by first | exact Nat.le_refl _ | (simp; done) | (simp; omega)) _
  have k2 : Blk (w.alloc (.cells #[.slice none 0 0] 56)) (w.heap.size) 56 #[.slice none 0 0] := Blk.new w 56 #[.slice none 0 0]
  replace hb0 := hb0.trans (hv1.mono hb0.size)
  generalize (w.alloc (.cells #[.slice none 0 0] 56)) = v1 at *
  clear hv1
  refine (ref_Pow _ 10 rfl (by decide) (j : Int) (by omega) (by omega) _).mono ?_
  rw [HP.out]
  rintro e w2 ⟨A1, c1, rfl, o1, hb2⟩
  replace hb0 := hb0.trans (hb2.mono hb0.size)
  replace k2 := k2.below hb2 k2.lt
  have lt5 : w.heap.size < w2.heap.size := k2.lt
  clear hb2
  have k2_c0 := k2.cell 0
  have k2_f0 := k2.frozen 0
  have k2_z := k2.lt
  simp only [List.getElem?_toArray, List.getElem?_cons_zero, List.getElem?_cons_succ] at k2_c0
  go_wp2_with fail
  clear k2_c0 k2_f0 k2_z
  have hv3 : Below w2.heap.size w2 (w2.alloc (.cells #[.slice A1 (limbs P).length c1] 56)) := (Below.refl _ _).alloc (by first | exact Nat.le_refl _ | (simp; done) | (simp; omega)) _
  have k5 : Blk (w2.alloc (.cells #[.slice A1 (limbs P).length c1] 56)) (w2.heap.size) 56 #[.slice A1 (limbs P).length c1] := Blk.new w2 56 #[.slice A1 (limbs P).length c1]
  replace hb0 := hb0.trans (hv3.mono hb0.size)
  replace k2 := k2.below hv3 k2.lt
  replace o1 := o1.below hv3 (Nat.le_refl _)
  generalize (w2.alloc (.cells #[.slice A1 (limbs P).length c1] 56)) = v3 at *
  clear hv3
  refine (ref_Bits A1 (limbs P) _ c1 rfl _ o1.rd).mono ?_
  rw [HB.out]
  rintro e w4 ⟨rfl, hb4⟩
  replace hb0 := hb0.trans (hb4.mono hb0.size)
  replace k2 := k2.below hb4 k2.lt
  replace o1 := o1.below hb4 (Nat.le_refl _)
  replace k5 := k5.below hb4 k5.lt
  clear hb4
  have hgz : decide ((z : Int) ≤ 128) = true := by simp; omega
  have HU := Lib.hid hU
  clear hU
  have k2_c0 := k2.cell 0
  have k2_f0 := k2.frozen 0
  have k2_z := k2.lt
  have k5_c0 := k5.cell 0
  have k5_f0 := k5.frozen 0
  have k5_z := k5.lt
  simp only [List.getElem?_toArray, List.getElem?_cons_zero, List.getElem?_cons_succ] at k2_c0 k5_c0
  go_wp2_with fail
  clear k2_c0 k2_f0 k2_z k5_c0 k5_f0 k5_z
  have hB9 : w.heap.size < w4.heap.size := k2.lt
  refine (ref_Up A1 (limbs P) _ c1 rfl (128 - (z : Int)) (by omega) (by omega) _ o1.rd).mono ?_
  rw [HU.out]
  rintro e w5 ⟨A2, c2, rfl, o2, hb5⟩
  replace hb0 := hb0.trans (hb5.mono hb0.size)
  replace k2 := k2.below hb5 k2.lt
  replace o1 := o1.below hb5 (Nat.le_refl _)
  replace k5 := k5.below hb5 k5.lt
  clear hb5
  have k2_c0 := k2.cell 0
  have k2_f0 := k2.frozen 0
  have k2_z := k2.lt
  have k5_c0 := k5.cell 0
  have k5_f0 := k5.frozen 0
  have k5_z := k5.lt
  simp only [List.getElem?_toArray, List.getElem?_cons_zero, List.getElem?_cons_succ] at k2_c0 k5_c0
  have hfo := (o2.setCell (p := ⟨w.heap.size, 0, none⟩) hB9 (.slice A2 (limbs V).length c2)).mono (B' := w.heap.size) (Nat.le_of_lt hB9)
  have hfb := hb0.setCell (p := ⟨w.heap.size, 0, none⟩) (Nat.le_refl _) (.slice A2 (limbs V).length c2)
  go_wp2
  (try simp only [Exit.inBlock, Exit.then]); refine bodyPost_ret (by simp (maxDischargeDepth := 9) [results, Tryd.results24, go_sem, k2_c0, k2_f0, k2_z]; try rfl) rfl ?_
  exact ⟨_, _, rfl, hfo.alloc _, hfb.alloc hfb.size _⟩

theorem ref_ten_neg (j : Nat) (hj : j ≤ 400) (h1 : 1 ≤ j) (w : World) :
    Calls Tryd.prog 24 #[.int .i64 (-(j : Int))] w (TenAns w (tenN (-(j : Int))) (tenE (-(j : Int))) (tenX (-(j : Int)))) := by
  have hP := powS_ten hj
  have hl10 := len10 ⟨j, by omega⟩
  have hbP := bitsS_lim (v := 10 ^ j) (k := 42) hl10 (by decide)
  have hz := bl10 ⟨j, by omega⟩
  have hnb := (ref_neg ⟨j, by omega⟩).2
  simp only at hl10 hz hnb

  have hq := (ref_neg ⟨j, by omega⟩).1
  simp only at hq
  have hU := upS_lim (v := 1) (k := 1) (by decide) (by decide) (bitLen (10 ^ j) + 127) (by omega)
  rw [Nat.one_mul] at hU
  have hbt : bitLen (2 ^ (bitLen (10 ^ j) + 127)) = bitLen (10 ^ j) + 128 := bitLen_two _
  have hV : 2 ^ (bitLen (10 ^ j) + 127) / 10 ^ j = tenN (-(j : Int)) := by
    rw [hq]
    unfold tenN tS
    rw [if_pos (by omega), Int.natAbs_neg, Int.natAbs_natCast]
  have hE : tenE (-(j : Int)) = -((bitLen (10 ^ j) : Nat) : Int) - 127 := by
    unfold tenE tS
    rw [if_pos (by omega), Int.natAbs_neg, Int.natAbs_natCast, hnb]
    omega
  have hX : tenX (-(j : Int)) = false := by
    unfold tenX
    rw [decide_eq_true (show -(j : Int) < 0 by omega)]; rfl
  rw [hE, hX]
  have hc2 : chk2 (limbs (2 ^ (bitLen (10 ^ j) + 127))) (limbs (10 ^ j)) = 0 := by
    unfold chk2
    rw [if_pos (chk_lim (k := 50) (two_lim (by omega)) (by decide))]
    exact chk_lim hl10 (by decide)
  have hp0 : 10 ^ j ≠ 0 := by have := Nat.pow_pos (n := j) (show 0 < 10 by decide); omega
  have hpw : ((bitLen (10 ^ j) + 127 : Nat) : Int) = ((bitLen (10 ^ j) : Nat) : Int) + 127 := by omega
  rw [hpw] at hU
  clear hE hX hq hpw
  generalize tenN (-(j : Int)) = V at hV ⊢
  obtain ⟨T, hTe⟩ : ∃ T, T = 2 ^ (bitLen (10 ^ j) + 127) := ⟨_, rfl⟩
  rw [← hTe] at hU hbt hV hc2
  obtain ⟨P, hPe⟩ : ∃ P, P = 10 ^ j := ⟨_, rfl⟩
  obtain ⟨z, hze⟩ : ∃ z, z = bitLen (10 ^ j) := ⟨_, rfl⟩
  rw [← hze] at hbP hz hnb hU hbt ⊢
  rw [← hPe] at hbP hP hl10 hV hc2 hp0
  have hDv := fun W A8 B8 c8 d8 h1 h2 => ref_Div_ok A8 B8 (limbs T) (limbs P) (limbs T).length (limbs P).length c8 d8 rfl rfl hc2 (by rw [val_limbs]; exact hp0) 128 (by rw [val_limbs, val_limbs, hbt, hze, hPe]) W h1 h2
  rw [val_limbs, val_limbs, hV] at hDv
  obtain ⟨R, hR⟩ : ∃ R, R = T % P := ⟨_, rfl⟩
  rw [← hR] at hDv
  have HP := Lib.hid hP
  have HB := Lib.hid hbP
  have hb0 : Below w.heap.size w w := Below.refl _ _
  clear hP hbP hnb hze hPe hl10 hTe hbt hV hc2 hp0 hR
  go_enter Tryd.func24, Tryd.ntmps24
  go_wp2_with fail
  have hv1 : Below w.heap.size w (w.alloc (.cells #[.slice none 0 0] 56)) := (Below.refl _ _).alloc (by first | exact Nat.le_refl _ | (simp; done) | (simp; omega)) _
  have k2 : Blk (w.alloc (.cells #[.slice none 0 0] 56)) (w.heap.size) 56 #[.slice none 0 0] := Blk.new w 56 #[.slice none 0 0]
  replace hb0 := hb0.trans (hv1.mono hb0.size)
  generalize (w.alloc (.cells #[.slice none 0 0] 56)) = v1 at *
  clear hv1
  refine (ref_Pow _ 10 rfl (by decide) (j : Int) (by omega) (by omega) _).mono ?_
  rw [HP.out]
  rintro e w2 ⟨A1, c1, rfl, o1, hb2⟩
  replace hb0 := hb0.trans (hb2.mono hb0.size)
  replace k2 := k2.below hb2 k2.lt
  have lt5 : w.heap.size < w2.heap.size := k2.lt
  clear hb2
  have k2_c0 := k2.cell 0
  have k2_f0 := k2.frozen 0
  have k2_z := k2.lt
  simp only [List.getElem?_toArray, List.getElem?_cons_zero, List.getElem?_cons_succ] at k2_c0
  go_wp2_with fail
  clear k2_c0 k2_f0 k2_z
  have hv3 : Below w2.heap.size w2 (w2.alloc (.cells #[.slice A1 (limbs P).length c1] 56)) := (Below.refl _ _).alloc (by first | exact Nat.le_refl _ | (simp; done) | (simp; omega)) _
  have k5 : Blk (w2.alloc (.cells #[.slice A1 (limbs P).length c1] 56)) (w2.heap.size) 56 #[.slice A1 (limbs P).length c1] := Blk.new w2 56 #[.slice A1 (limbs P).length c1]
  replace hb0 := hb0.trans (hv3.mono hb0.size)
  replace k2 := k2.below hv3 k2.lt
  replace o1 := o1.below hv3 (Nat.le_refl _)
  generalize (w2.alloc (.cells #[.slice A1 (limbs P).length c1] 56)) = v3 at *
  clear hv3
  refine (ref_Bits A1 (limbs P) _ c1 rfl _ o1.rd).mono ?_
  rw [HB.out]
  rintro e w4 ⟨rfl, hb4⟩
  replace hb0 := hb0.trans (hb4.mono hb0.size)
  replace k2 := k2.below hb4 k2.lt
  replace o1 := o1.below hb4 (Nat.le_refl _)
  replace k5 := k5.below hb4 k5.lt
  clear hb4
  have HU := Lib.hid hU
  clear hU
  have k2_c0 := k2.cell 0
  have k2_f0 := k2.frozen 0
  have k2_z := k2.lt
  have k5_c0 := k5.cell 0
  have k5_f0 := k5.frozen 0
  have k5_z := k5.lt
  simp only [List.getElem?_toArray, List.getElem?_cons_zero, List.getElem?_cons_succ] at k2_c0 k5_c0
  go_wp2_with fail
  clear k2_c0 k2_f0 k2_z k5_c0 k5_f0 k5_z
  refine (ref_Of 1 1 rfl (by decide) _).mono ?_
  rintro e w5 ⟨A2, c2, rfl, o2, hb5⟩
  replace hb0 := hb0.trans (hb5.mono hb0.size)
  replace k2 := k2.below hb5 k2.lt
  replace o1 := o1.below hb5 (Nat.le_refl _)
  replace k5 := k5.below hb5 k5.lt
  clear hb5
  have k2_c0 := k2.cell 0
  have k2_f0 := k2.frozen 0
  have k2_z := k2.lt
  have k5_c0 := k5.cell 0
  have k5_f0 := k5.frozen 0
  have k5_z := k5.lt
  simp only [List.getElem?_toArray, List.getElem?_cons_zero, List.getElem?_cons_succ] at k2_c0 k5_c0
  go_wp2_with fail
  clear k2_c0 k2_f0 k2_z k5_c0 k5_f0 k5_z
  refine (ref_Up A2 (limbs 1) _ c2 rfl ((z : Int) + 127) (by omega) (by omega) _ o2.rd).mono ?_
  rw [HU.out]
  rintro e w6 ⟨A3, c3, rfl, o3, hb6⟩
  replace hb0 := hb0.trans (hb6.mono hb0.size)
  replace k2 := k2.below hb6 k2.lt
  replace o1 := o1.below hb6 (Nat.le_refl _)
  replace k5 := k5.below hb6 k5.lt
  replace o2 := o2.below hb6 (Nat.le_refl _)
  clear hb6
  have k2_c0 := k2.cell 0
  have k2_f0 := k2.frozen 0
  have k2_z := k2.lt
  have k5_c0 := k5.cell 0
  have k5_f0 := k5.frozen 0
  have k5_z := k5.lt
  simp only [List.getElem?_toArray, List.getElem?_cons_zero, List.getElem?_cons_succ] at k2_c0 k5_c0
  go_wp2_with fail
  clear k2_c0 k2_f0 k2_z k5_c0 k5_f0 k5_z
  have hv7 : Below w6.heap.size w6 (w6.alloc (.cells #[.slice A3 (limbs T).length c3] 56)) := (Below.refl _ _).alloc (by first | exact Nat.le_refl _ | (simp; done) | (simp; omega)) _
  have k9 : Blk (w6.alloc (.cells #[.slice A3 (limbs T).length c3] 56)) (w6.heap.size) 56 #[.slice A3 (limbs T).length c3] := Blk.new w6 56 #[.slice A3 (limbs T).length c3]
  replace hb0 := hb0.trans (hv7.mono hb0.size)
  replace k2 := k2.below hv7 k2.lt
  replace o1 := o1.below hv7 (Nat.le_refl _)
  replace k5 := k5.below hv7 k5.lt
  replace o2 := o2.below hv7 (Nat.le_refl _)
  replace o3 := o3.below hv7 (Nat.le_refl _)
  generalize (w6.alloc (.cells #[.slice A3 (limbs T).length c3] 56)) = v7 at *
  clear hv7
  have hB9 : w.heap.size < v7.heap.size := k2.lt
  refine (hDv _ A3 A1 c3 c1 o3.rd o1.rd).mono ?_
  rintro e w8 ⟨A4, c4, A5, c5, rfl, o4, o5, hb8⟩
  replace hb0 := hb0.trans (hb8.mono hb0.size)
  replace k2 := k2.below hb8 k2.lt
  replace o1 := o1.below hb8 (Nat.le_refl _)
  replace k5 := k5.below hb8 k5.lt
  replace o2 := o2.below hb8 (Nat.le_refl _)
  replace o3 := o3.below hb8 (Nat.le_refl _)
  replace k9 := k9.below hb8 k9.lt
  clear hb8
  have k2_c0 := k2.cell 0
  have k2_f0 := k2.frozen 0
  have k2_z := k2.lt
  have k5_c0 := k5.cell 0
  have k5_f0 := k5.frozen 0
  have k5_z := k5.lt
  have k9_c0 := k9.cell 0
  have k9_f0 := k9.frozen 0
  have k9_z := k9.lt
  simp only [List.getElem?_toArray, List.getElem?_cons_zero, List.getElem?_cons_succ] at k2_c0 k5_c0 k9_c0
  have hfo := (o4.setCell (p := ⟨w.heap.size, 0, none⟩) hB9 (.slice A4 (limbs V).length c4)).mono (B' := w.heap.size) (Nat.le_of_lt hB9)
  have hfb := hb0.setCell (p := ⟨w.heap.size, 0, none⟩) (Nat.le_refl _) (.slice A4 (limbs V).length c4)
  go_wp2
  (try simp only [Exit.inBlock, Exit.then]); refine bodyPost_ret (by simp (maxDischargeDepth := 9) [results, Tryd.results24, go_sem, k2_c0, k2_f0, k2_z]; try rfl) rfl ?_
  exact ⟨_, _, rfl, (hfo.alloc _).alloc _, (hfb.alloc hfb.size _).alloc (hfb.alloc hfb.size _).size _⟩

theorem ref_ten_high (j : Nat) (hj : j ≤ 400) (hzl : ¬ bitLen (10 ^ j) ≤ 128) (w : World) :
    Calls Tryd.prog 24 #[.int .i64 (j : Int)] w (TenAns w (tenN (j : Int)) (tenE (j : Int)) (tenX (j : Int))) := by
  have hP := powS_ten hj
  have hl10 := len10 ⟨j, by omega⟩
  have hbP := bitsS_lim (v := 10 ^ j) (k := 42) hl10 (by decide)
  have hz := bl10 ⟨j, by omega⟩
  have hnb := (ref_neg ⟨j, by omega⟩).2
  simp only at hl10 hz hnb

  have hhi := ref_high ⟨j, by omega⟩ (by simpa using hzl)
  simp only at hhi
  have hD := downS_lim (v := 10 ^ j) (k := 42) hl10 (by decide) (bitLen (10 ^ j) - 128)
  rw [hhi.1] at hD
  have hV42 : tenN (j : Int) < 4294967296 ^ 4 := (tenN_bd (far_no (by omega) (by omega))).2
  have hU := upS_lim (v := tenN (j : Int)) (k := 4) hV42 (by decide) (bitLen (10 ^ j) - 128) (by omega)
  have hE : tenE (j : Int) = ((bitLen (10 ^ j) : Nat) : Int) - 128 := by
    unfold tenE tS
    rw [if_neg (by omega), Int.natAbs_natCast, hnb]
    omega
  rw [hhi.2, hE, hhi.1]
  have hpw : ((bitLen (10 ^ j) - 128 : Nat) : Int) = ((bitLen (10 ^ j) : Nat) : Int) - 128 := by omega
  rw [hpw] at hU hD
  have hX := dec_limbs (tenN (j : Int) * 2 ^ (bitLen (10 ^ j) - 128)) (10 ^ j)
  rw [← hX]
  clear hE hhi hpw hV42 hX
  generalize tenN (j : Int) = V at hU hD ⊢
  obtain ⟨Bk, hBk⟩ : ∃ Bk, Bk = V * 2 ^ (bitLen (10 ^ j) - 128) := ⟨_, rfl⟩
  rw [← hBk] at hU ⊢
  clear hBk
  obtain ⟨P, hPe⟩ : ∃ P, P = 10 ^ j := ⟨_, rfl⟩
  obtain ⟨z, hze⟩ : ∃ z, z = bitLen (10 ^ j) := ⟨_, rfl⟩
  rw [← hze] at hbP hzl hz hnb hU hD ⊢
  rw [← hPe] at hbP hP hl10 hD ⊢
  have HP := Lib.hid hP
  have HB := Lib.hid hbP
  have hb0 : Below w.heap.size w w := Below.refl _ _
  clear hP hbP hnb hze hPe hl10
  go_enter Tryd.func24, Tryd.ntmps24
  go_wp2_with fail
  have hv1 : Below w.heap.size w (w.alloc (.cells #[.slice none 0 0] 56)) := (Below.refl _ _).alloc (by first | exact Nat.le_refl _ | (simp; done) | (simp; omega)) _
  have k2 : Blk (w.alloc (.cells #[.slice none 0 0] 56)) (w.heap.size) 56 #[.slice none 0 0] := Blk.new w 56 #[.slice none 0 0]
  replace hb0 := hb0.trans (hv1.mono hb0.size)
  generalize (w.alloc (.cells #[.slice none 0 0] 56)) = v1 at *
  clear hv1
  refine (ref_Pow _ 10 rfl (by decide) (j : Int) (by omega) (by omega) _).mono ?_
  rw [HP.out]
  rintro e w2 ⟨A1, c1, rfl, o1, hb2⟩
  replace hb0 := hb0.trans (hb2.mono hb0.size)
  replace k2 := k2.below hb2 k2.lt
  have lt5 : w.heap.size < w2.heap.size := k2.lt
  clear hb2
  have k2_c0 := k2.cell 0
  have k2_f0 := k2.frozen 0
  have k2_z := k2.lt
  simp only [List.getElem?_toArray, List.getElem?_cons_zero, List.getElem?_cons_succ] at k2_c0
  go_wp2_with fail
  clear k2_c0 k2_f0 k2_z
  have hv3 : Below w2.heap.size w2 (w2.alloc (.cells #[.slice A1 (limbs P).length c1] 56)) := (Below.refl _ _).alloc (by first | exact Nat.le_refl _ | (simp; done) | (simp; omega)) _
  have k5 : Blk (w2.alloc (.cells #[.slice A1 (limbs P).length c1] 56)) (w2.heap.size) 56 #[.slice A1 (limbs P).length c1] := Blk.new w2 56 #[.slice A1 (limbs P).length c1]
  replace hb0 := hb0.trans (hv3.mono hb0.size)
  replace k2 := k2.below hv3 k2.lt
  replace o1 := o1.below hv3 (Nat.le_refl _)
  generalize (w2.alloc (.cells #[.slice A1 (limbs P).length c1] 56)) = v3 at *
  clear hv3
  refine (ref_Bits A1 (limbs P) _ c1 rfl _ o1.rd).mono ?_
  rw [HB.out]
  rintro e w4 ⟨rfl, hb4⟩
  replace hb0 := hb0.trans (hb4.mono hb0.size)
  replace k2 := k2.below hb4 k2.lt
  replace o1 := o1.below hb4 (Nat.le_refl _)
  replace k5 := k5.below hb4 k5.lt
  clear hb4
  have hgz : decide ((z : Int) ≤ 128) = false := by simp; omega
  have HU := Lib.hid hU
  have HD := Lib.hid hD
  clear hU hD
  have k2_c0 := k2.cell 0
  have k2_f0 := k2.frozen 0
  have k2_z := k2.lt
  have k5_c0 := k5.cell 0
  have k5_f0 := k5.frozen 0
  have k5_z := k5.lt
  simp only [List.getElem?_toArray, List.getElem?_cons_zero, List.getElem?_cons_succ] at k2_c0 k5_c0
  go_wp2_with fail
  clear k2_c0 k2_f0 k2_z k5_c0 k5_f0 k5_z
  have hB9 : w.heap.size < w4.heap.size := k2.lt
  refine (ref_Down A1 (limbs P) _ c1 rfl ((z : Int) - 128) (by omega) (by omega) _ o1.rd).mono ?_
  rw [HD.out]
  rintro e w5 ⟨A2, c2, rfl, o2, hb5⟩
  replace hb0 := hb0.trans (hb5.mono hb0.size)
  replace k2 := k2.below hb5 k2.lt
  replace o1 := o1.below hb5 (Nat.le_refl _)
  replace k5 := k5.below hb5 k5.lt
  have z45 := hb5.size
  clear hb5
  have k2_c0 := k2.cell 0
  have k2_f0 := k2.frozen 0
  have k2_z := k2.lt
  have k5_c0 := k5.cell 0
  have k5_f0 := k5.frozen 0
  have k5_z := k5.lt
  simp only [List.getElem?_toArray, List.getElem?_cons_zero, List.getElem?_cons_succ] at k2_c0 k5_c0
  go_wp2_with fail
  clear k2_c0 k2_f0 k2_z k5_c0 k5_f0 k5_z
  have hv6 : Below w5.heap.size w5 (w5.alloc (.cells #[.slice A2 (limbs V).length c2] 56)) := (Below.refl _ _).alloc (by first | exact Nat.le_refl _ | (simp; done) | (simp; omega)) _
  have k16 : Blk (w5.alloc (.cells #[.slice A2 (limbs V).length c2] 56)) (w5.heap.size) 56 #[.slice A2 (limbs V).length c2] := Blk.new w5 56 #[.slice A2 (limbs V).length c2]
  replace hb0 := hb0.trans (hv6.mono hb0.size)
  replace k2 := k2.below hv6 k2.lt
  replace o1 := o1.below hv6 (Nat.le_refl _)
  replace k5 := k5.below hv6 k5.lt
  replace o2 := o2.below hv6 (Nat.le_refl _)
  generalize (w5.alloc (.cells #[.slice A2 (limbs V).length c2] 56)) = v6 at *
  clear hv6
  have lt56 := k16.lt
  refine (ref_Up A2 (limbs V) _ c2 rfl ((z : Int) - 128) (by omega) (by omega) _ o2.rd).mono ?_
  rw [HU.out]
  rintro e w7 ⟨A3, c3, rfl, o3, hb7⟩
  replace hb0 := hb0.trans (hb7.mono hb0.size)
  replace k2 := k2.below hb7 k2.lt
  replace o1 := o1.below hb7 (Nat.le_refl _)
  replace k5 := k5.below hb7 k5.lt
  replace o2 := o2.below hb7 (Nat.le_refl _)
  replace k16 := k16.below hb7 k16.lt
  have z57 : w5.heap.size ≤ w7.heap.size := Nat.le_trans (Nat.le_of_lt lt56) hb7.size
  clear hb7
  have k2_c0 := k2.cell 0
  have k2_f0 := k2.frozen 0
  have k2_z := k2.lt
  have k5_c0 := k5.cell 0
  have k5_f0 := k5.frozen 0
  have k5_z := k5.lt
  have k16_c0 := k16.cell 0
  have k16_f0 := k16.frozen 0
  have k16_z := k16.lt
  simp only [List.getElem?_toArray, List.getElem?_cons_zero, List.getElem?_cons_succ] at k2_c0 k5_c0 k16_c0
  go_wp2_with fail
  clear k2_c0 k2_f0 k2_z k5_c0 k5_f0 k5_z k16_c0 k16_f0 k16_z
  have hv8 : Below w7.heap.size w7 (w7.alloc (.cells #[.slice A3 (limbs Bk).length c3] 56)) := (Below.refl _ _).alloc (by first | exact Nat.le_refl _ | (simp; done) | (simp; omega)) _
  have k18 : Blk (w7.alloc (.cells #[.slice A3 (limbs Bk).length c3] 56)) (w7.heap.size) 56 #[.slice A3 (limbs Bk).length c3] := Blk.new w7 56 #[.slice A3 (limbs Bk).length c3]
  replace hb0 := hb0.trans (hv8.mono hb0.size)
  replace k2 := k2.below hv8 k2.lt
  replace o1 := o1.below hv8 (Nat.le_refl _)
  replace k5 := k5.below hv8 k5.lt
  replace o2 := o2.below hv8 (Nat.le_refl _)
  replace k16 := k16.below hv8 k16.lt
  replace o3 := o3.below hv8 (Nat.le_refl _)
  generalize (w7.alloc (.cells #[.slice A3 (limbs Bk).length c3] 56)) = v8 at *
  clear hv8
  have k2_c0 := k2.cell 0
  have k2_f0 := k2.frozen 0
  have k2_z := k2.lt
  have k5_c0 := k5.cell 0
  have k5_f0 := k5.frozen 0
  have k5_z := k5.lt
  have k16_c0 := k16.cell 0
  have k16_f0 := k16.frozen 0
  have k16_z := k16.lt
  have k18_c0 := k18.cell 0
  have k18_f0 := k18.frozen 0
  have k18_z := k18.lt
  simp only [List.getElem?_toArray, List.getElem?_cons_zero, List.getElem?_cons_succ] at k2_c0 k5_c0 k16_c0 k18_c0
  have b9 : Below v8.heap.size v8 v8.drew := Below.drew (Below.refl _ _)
  have hwr : IntKind.i64.wrap ((z : Int) - 128) = (z : Int) - 128 := IntWalk.i64_in _ (by omega)
  have lt16 : w.heap.size < w5.heap.size := Nat.lt_of_lt_of_le hB9 z45
  have lt18 : w.heap.size < w7.heap.size := Nat.lt_of_lt_of_le lt16 z57
  go_region_held3 (fun w' => w'.cell? ⟨w5.heap.size, 0, none⟩ = some (.slice A2 (limbs V).length c2) ∧ w'.cell? ⟨w7.heap.size, 0, none⟩ = some (.slice A3 (limbs Bk).length c3) ∧ w'.cell? ⟨w2.heap.size, 0, none⟩ = some (.slice A1 (limbs P).length c1))
    (first | exact ⟨k16_c0, k18_c0, k5_c0⟩ | exact ⟨e16, e18, e5⟩ | exact ⟨set_keep2 e16 lt16, set_keep2 e18 lt18, set_keep2 e5 lt5⟩ | go_keep)
    (first
    | (go_at_call 32
       (with_reducible refine (ref_Same A3 A1 (limbs Bk) (limbs P) _ _ c3 c1 rfl rfl _ o3.rd.drew o1.rd.drew).mono ?_)
       rintro r w9 ⟨rfl, hb9⟩
       have e16 := cell_keep hb9 k16_c0
       have e18 := cell_keep hb9 k18_c0
       have e5 := cell_keep hb9 k5_c0
       have hw9 : Below v8.heap.size v8 w9 := b9.trans hb9
       have k29 := k2.below hw9 k2.lt
       have k29_c := k29.cell 0
       have k29_f := k29.frozen 0
       have k29_z := k29.lt)
    | fail)
  have o29 := o2.below hw9 (Nat.le_refl _)
  have hb09 := hb0.trans (hw9.mono hb0.size)
  have hfo := (o29.setCell (p := ⟨w.heap.size, 0, none⟩) hB9 (.slice A2 (limbs V).length c2)).mono (B' := w.heap.size) (Nat.le_of_lt hB9)
  have hfb := hb09.setCell (p := ⟨w.heap.size, 0, none⟩) (Nat.le_refl _) (.slice A2 (limbs V).length c2)
  simp only [List.getElem?_toArray, List.getElem?_cons_zero] at k29_c
  clear k2_c0 k2_f0 k2_z k5_c0 k5_f0 k5_z k16_c0 k16_f0 k16_z k18_c0 k18_f0 k18_z e16 e18 e5
  go_wp2
  (try simp only [Exit.inBlock, Exit.then]); refine bodyPost_ret (by simp (maxDischargeDepth := 9) [results, Tryd.results24, go_sem, k29_c, k29_f, k29_z]; try rfl) rfl ?_
  exact ⟨_, _, rfl, hfo, hfb⟩
end Go.Proofs.YtenekbfnlbipiaaDoor
