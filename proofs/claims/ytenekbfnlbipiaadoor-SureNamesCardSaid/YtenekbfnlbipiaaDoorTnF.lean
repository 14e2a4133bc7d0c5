/- Walks: the document's Ten, Whole, Times. -/
import Derived.Test.YtenekbfnlbipiaaDoorTnE
import Derived.Test.YtenekbfnlbipiaaDoorBits
import Derived.Test.YtenekbfnlbipiaaDoorSd
import Derived.Deep.AppendLies
import Derived.Deep.RegionHeld3
namespace Go.Proofs.YtenekbfnlbipiaaDoor
open Go.RowKit
set_option linter.unusedVariables false
set_option linter.unusedSimpArgs false
set_option maxHeartbeats 4000000
set_option maxRecDepth 100000

theorem ref_ten (k : Int) (hf : farB k = false) (w : World) :
    Calls Tryd.prog 24 #[.int .i64 k] w (TenAns w (tenN k) (tenE k) (tenX k)) := by
  rcases ten_cases hf with ⟨j, hj, rfl⟩ | ⟨j, h1, hj, rfl⟩
  · by_cases hz : bitLen (10 ^ j) ≤ 128
    · exact ref_ten_low j hj hz w
    · exact ref_ten_high j hj hz w
  · exact ref_ten_neg j hj h1 w
theorem div_dec (x p : Nat) : (!decide (x / p * p = x)) = decide (x % p ≠ 0) := by
  have h := Nat.div_add_mod x p
  rw [Nat.mul_comm] at h
  generalize x / p * p = q at h ⊢
  generalize x % p = r at h ⊢
  by_cases h0 : r = 0
  · rw [decide_eq_true (show q = x by omega), decide_eq_false (fun h2 => h2 h0)]; rfl
  · rw [decide_eq_false (show ¬ q = x by omega), decide_eq_true h0]; rfl
theorem mul_lim {a b i j : Nat} (ha : a < 4294967296 ^ i) (hb : b < 4294967296 ^ j) : a * b < 4294967296 ^ (i + j) := by
  rw [Nat.pow_add]
  exact Nat.mul_lt_mul'' ha hb
theorem tenN_lim {k : Int} (hf : farB k = false) : tenN k < 4294967296 ^ 4 := (tenN_bd hf).2
/-- What Ten, Whole, Times answer. -/
def tenHi (k : Int) : Nat := if farB k = true then 0 else tenN k / 2 ^ 64
def tenLo (k : Int) : Nat := if farB k = true then 0 else tenN k % 2 ^ 64
def tenEx (k : Int) : Int := if farB k = true then 0 else tenE k
def tenEr (k : Int) : Int := if farB k = true then 130 else 0
def wholeB (k : Int) : Bool := !farB k && tenX k
def timH (m : Nat) (k : Int) : Nat := if farB k = true then 0 else tenN k * m / 2 ^ 64 / 2 ^ 64
def timL (m : Nat) (k : Int) : Nat := if farB k = true then 0 else tenN k * m / 2 ^ 64 % 2 ^ 64
def timM (m : Nat) (k : Int) : Bool := !farB k && decide (tenN k * m % 2 ^ 64 ≠ 0)
theorem ref_Ten (k : Int) (w : World) : Calls Tryd.prog 12 #[.int .i64 k] w (Says w (.tuple #[.int .u64 ((tenHi k : Nat) : Int), .int .u64 ((tenLo k : Nat) : Int), .int .i64 (tenEx k), .int .i64 (tenEr k)])) := by
  cases hf : farB k
  · have hten := fun W => ref_ten k hf W
    have hbt := fun W A c h => ref_bits A (tenN k) (limbs (tenN k)).length c rfl (tenN_lim hf) W h
    have hf2 := fun W => ref_far k W
    have e : (tenHi k = tenN k / 2 ^ 64) ∧ (tenLo k = tenN k % 2 ^ 64) ∧ (tenEx k = tenE k) ∧ tenEr k = 0 := by
      unfold tenHi tenLo tenEx tenEr; rw [hf]; exact ⟨rfl, rfl, rfl, rfl⟩
    rw [hf] at hf2
    rw [e.1, e.2.1, e.2.2.1, e.2.2.2]
    clear e hf
    obtain ⟨H, hH⟩ : ∃ H, H = tenN k / 2 ^ 64 := ⟨_, rfl⟩
    obtain ⟨L, hL⟩ : ∃ L, L = tenN k % 2 ^ 64 := ⟨_, rfl⟩
    rw [← hH, ← hL] at hbt ⊢
    clear hH hL
    generalize tenN k = V at hten hbt
    generalize tenE k = E at hten ⊢
    have hb0 : Below w.heap.size w w := Below.refl _ _
    go_enter Tryd.func12, Tryd.ntmps12
    go_wp2_with fail
    refine (hf2 _).mono ?_
    rintro e w1 ⟨rfl, rfl⟩
    go_wp2_with fail
    refine (hten _).mono ?_
    rintro e w1 ⟨A1, c1, rfl, o1, hb1⟩
    replace hb0 := hb0.trans (hb1.mono hb0.size)
    clear hb1
    go_wp2_with fail
    have hv2 : Below w1.heap.size w1 (w1.alloc (.cells #[.slice A1 (limbs V).length c1] 56)) := (Below.refl _ _).alloc (by first | exact Nat.le_refl _ | (simp; done) | (simp; omega)) _
    have k6 : Blk (w1.alloc (.cells #[.slice A1 (limbs V).length c1] 56)) (w1.heap.size) 56 #[.slice A1 (limbs V).length c1] := Blk.new w1 56 #[.slice A1 (limbs V).length c1]
    replace hb0 := hb0.trans (hv2.mono hb0.size)
    replace o1 := o1.below hv2 (Nat.le_refl _)
    generalize (w1.alloc (.cells #[.slice A1 (limbs V).length c1] 56)) = v2 at *
    clear hv2
    refine (hbt _ A1 c1 o1.rd).mono ?_
    rintro e w3 ⟨rfl, hb3⟩
    replace hb0 := hb0.trans (hb3.mono hb0.size)
    replace o1 := o1.below hb3 (Nat.le_refl _)
    replace k6 := k6.below hb3 k6.lt
    clear hb3
    go_wp2
    go_returns
    exact ⟨rfl, hb0⟩
  · have e : tenHi k = 0 ∧ tenLo k = 0 ∧ tenEx k = 0 ∧ tenEr k = 130 := by
      unfold tenHi tenLo tenEx tenEr; rw [hf]; exact ⟨rfl, rfl, rfl, rfl⟩
    rw [e.1, e.2.1, e.2.2.1, e.2.2.2]
    clear e
    have hf2 := fun W => ref_far k W
    rw [hf] at hf2
    go_enter Tryd.func12, Tryd.ntmps12
    go_wp2_with fail
    refine (hf2 _).mono ?_
    rintro e w1 ⟨rfl, rfl⟩
    go_wp2
    go_returns
    exact ⟨rfl, Below.refl _ _⟩
theorem ref_Whole (k : Int) (w : World) : Calls Tryd.prog 7 #[.int .i64 k] w (Says w (.tuple #[.bool (wholeB k), .int .i64 (tenEr k)])) := by
  cases hf : farB k
  · have hten := fun W => ref_ten k hf W
    have hf2 := fun W => ref_far k W
    have e : wholeB k = tenX k ∧ tenEr k = 0 := by
      unfold wholeB tenEr; rw [hf]; exact ⟨rfl, rfl⟩
    rw [hf] at hf2
    rw [e.1, e.2]
    clear e hf
    generalize tenN k = V at hten
    generalize tenE k = E at hten
    generalize tenX k = X at hten ⊢
    have hb0 : Below w.heap.size w w := Below.refl _ _
    go_enter Tryd.func7, Tryd.ntmps7
    go_wp2_with fail
    refine (hf2 _).mono ?_
    rintro e w1 ⟨rfl, rfl⟩
    go_wp2_with fail
    refine (hten _).mono ?_
    rintro e w1 ⟨A1, c1, rfl, o1, hb1⟩
    replace hb0 := hb0.trans (hb1.mono hb0.size)
    clear hb1
    go_wp2
    go_ret2
    exact ⟨rfl, hb0.alloc hb0.size _⟩
  · have e : wholeB k = false ∧ tenEr k = 130 := by
      unfold wholeB tenEr; rw [hf]; exact ⟨rfl, rfl⟩
    rw [e.1, e.2]
    clear e
    have hf2 := fun W => ref_far k W
    rw [hf] at hf2
    go_enter Tryd.func7, Tryd.ntmps7
    go_wp2_with fail
    refine (hf2 _).mono ?_
    rintro e w1 ⟨rfl, rfl⟩
    go_wp2
    go_ret2
    exact ⟨rfl, Below.refl _ _⟩
theorem ref_Times (m : Nat) (hm64 : m < 18446744073709551616) (k : Int) (w : World) : Calls Tryd.prog 9 #[.int .u64 (m : Int), .int .i64 k] w (Says w (.tuple #[.int .u64 ((timH m k : Nat) : Int), .int .u64 ((timL m k : Nat) : Int), .bool (timM m k), .int .i64 (tenEr k)])) := by
  cases hf : farB k
  · have hten := fun W => ref_ten k hf W
    have hf2 := fun W => ref_far k W
    have e : timH m k = tenN k * m / 2 ^ 64 / 2 ^ 64 ∧ timL m k = tenN k * m / 2 ^ 64 % 2 ^ 64 ∧ timM m k = decide (tenN k * m % 2 ^ 64 ≠ 0) ∧ tenEr k = 0 := by
      unfold timH timL timM tenEr; rw [hf]; exact ⟨rfl, rfl, rfl, rfl⟩
    rw [hf] at hf2
    rw [e.1, e.2.1, e.2.2.1, e.2.2.2]
    have hV := tenN_lim hf
    clear e hf
    generalize tenN k = V at hten hV ⊢
    generalize tenE k = E at hten
    generalize tenX k = X at hten
    have hQ6 : V * m < 4294967296 ^ 6 := mul_lim (i := 4) (j := 2) hV (Nat.lt_of_lt_of_le hm64 (by decide))
    have hms := mulS_limbs (x := V) (y := m) (Nat.le_trans ((length_limbs_le V 4).2 hV) (by decide)) (Nat.le_trans ((length_limbs_le m 2).2 (Nat.lt_of_lt_of_le hm64 (by decide))) (by decide))
    rw [fitS_ok (Nat.le_trans ((length_limbs_le _ 6).2 hQ6) (by decide))] at hms
    have hD := downS_lim hQ6 (by decide) 64
    have hQH : V * m / 2 ^ 64 < 4294967296 ^ 4 := by
      rw [Nat.div_lt_iff_lt_mul (by decide)]
      exact Nat.lt_of_lt_of_le hQ6 (by decide)
    have hU := upS_lim hQH (by decide) 64 (by decide)
    have hbt := fun W A c h => ref_bits A (V * m / 2 ^ 64) (limbs (V * m / 2 ^ 64)).length c rfl hQH W h
    have hx := dec_limbs (V * m / 2 ^ 64 * 2 ^ 64) (V * m)
    have hx2 := div_dec (V * m) (2 ^ 64)
    rw [← hx2]
    obtain ⟨X2, hX2⟩ : ∃ X2, X2 = decide (V * m / 2 ^ 64 * 2 ^ 64 = V * m) := ⟨_, rfl⟩
    rw [← hX2] at hx ⊢
    obtain ⟨QB, hQB⟩ : ∃ QB, QB = V * m / 2 ^ 64 * 2 ^ 64 := ⟨_, rfl⟩
    rw [← hQB] at hU hx
    obtain ⟨H, hH⟩ : ∃ H, H = V * m / 2 ^ 64 / 2 ^ 64 := ⟨_, rfl⟩
    obtain ⟨L, hL⟩ : ∃ L, L = V * m / 2 ^ 64 % 2 ^ 64 := ⟨_, rfl⟩
    rw [← hH, ← hL] at hbt ⊢
    obtain ⟨QH, hQHe⟩ : ∃ QH, QH = V * m / 2 ^ 64 := ⟨_, rfl⟩
    rw [← hQHe] at hD hU hbt
    obtain ⟨Q, hQ⟩ : ∃ Q, Q = V * m := ⟨_, rfl⟩
    rw [← hQ] at hD hms hx
    have HD := Lib.hid (show downS (limbs Q) 64 = (limbs QH, 0) from hD)
    have HU := Lib.hid (show upS (limbs QH) 64 = (limbs QB, 0) from hU)
    have HMS := Lib.hid hms
    have HX := Lib.hid hx
    clear hD hU hms hx hx2 hX2 hQB hH hL hQHe hQ hQ6 hQH hV
    have hb0 : Below w.heap.size w w := Below.refl _ _
    go_enter Tryd.func9, Tryd.ntmps9
    go_wp2_with fail
    refine (hf2 _).mono ?_
    rintro e w1 ⟨rfl, rfl⟩
    go_wp2_with fail
    refine (hten _).mono ?_
    rintro e w1 ⟨A1, c1, rfl, o1, hb1⟩
    replace hb0 := hb0.trans (hb1.mono hb0.size)
    clear hb1
    go_upto_region 4 with (fail)
    have hv2 : Below w1.heap.size w1 (w1.alloc (.cells #[.slice A1 (limbs V).length c1] 56)) := (Below.refl _ _).alloc (by first | exact Nat.le_refl _ | (simp; done) | (simp; omega)) _
    have k8 : Blk (w1.alloc (.cells #[.slice A1 (limbs V).length c1] 56)) (w1.heap.size) 56 #[.slice A1 (limbs V).length c1] := Blk.new w1 56 #[.slice A1 (limbs V).length c1]
    replace hb0 := hb0.trans (hv2.mono hb0.size)
    replace o1 := o1.below hv2 (Nat.le_refl _)
    generalize (w1.alloc (.cells #[.slice A1 (limbs V).length c1] 56)) = v2 at *
    clear hv2
    have k8_c0 := k8.cell 0
    have k8_f0 := k8.frozen 0
    have k8_z := k8.lt
    simp only [List.getElem?_toArray, List.getElem?_cons_zero, List.getElem?_cons_succ] at k8_c0
    go_cut [11, 12] (fun v11 v12 wx => ∃ (gp : Nat) (A6 : Option Addr) (c6 : Nat), v11 = .pointer (some ⟨gp, 0, none⟩) ∧ v12 = .int .i64 0 ∧ Blk wx gp 56 #[.slice A6 (limbs Q).length c6] ∧ Own wx 90 v2.heap.size A6 c6 (limbs Q) ∧ Below v2.heap.size v2 wx)
    case first =>
      have nz : v2.heap.size < (v2.drew.alloc (.cells #[.slice none 0 0] 56)).heap.size := by simp
      have kz : Blk (v2.drew.alloc (.cells #[.slice none 0 0] 56)) v2.heap.size 56 #[.slice none 0 0] := Blk.new v2.drew _ _
      have bz : Below v2.heap.size v2 (v2.drew.alloc (.cells #[.slice none 0 0] 56)) := (Below.drew (Below.refl _ _)).alloc (Nat.le_refl _) _
      have b0 : Below v2.heap.size v2 v2.drew := Below.drew (Below.refl _ _)
      go_region_held3 (fun w' => w'.cell? ⟨w1.heap.size, 0, none⟩ = some (.slice A1 (limbs V).length c1))
        (first | exact k8_c0 | exact cell_keep bz k8_c0 | exact e5 | exact (World.cell?_alloc_lt _ _ _ z5).trans e5 | exact e6 | exact (World.cell?_alloc_lt _ _ _ z6).trans e6 | exact set_keep e6 z5 | exact set_keep e6 k8_z | go_keep)
        (first
        | (go_at_call 28
           refine (ref_Of (m : Int) m rfl hm64 _).mono ?_
           rintro r w5 ⟨A5, c5, rfl, o5, hb5⟩
           have hw5 : Below v2.heap.size v2 w5 := by first | exact b0.trans hb5 | exact bz.trans (hb5.mono (Nat.le_of_lt nz))
           have e5 := cell_keep hw5 k8_c0
           have z5 := cell_lt e5
           have r5 := o1.rd.below hw5
           have zz5 := hw5.size
           try (have kp5 : Blk w5 v2.heap.size 56 #[.slice none 0 0] := kz.below hb5 nz))
        | (go_at_call 27
           refine (ref_Mul A1 A5 (limbs V) (limbs m) _ _ c1 c5 rfl rfl _ (by first | exact r5 | exact r5.alloc _) (by first | exact o5.rd | exact o5.rd.alloc _)).mono ?_
           rw [HMS.out]
           rintro r w6 ⟨A6, c6, rfl, o6, hb6⟩
           have hw6 : Below w5.heap.size w5 w6 := by first | exact hb6 | exact ((Below.refl _ _).alloc (Nat.le_refl _) _).trans (hb6.mono (by simp))
           have e6 := cell_keep hw6 e5
           have z6 := cell_lt e6
           have o6' := o6.mono (B' := v2.heap.size) (by first | exact zz5 | (simp only [World.size_alloc]; omega))
           have hw06 := hw5.trans (hw6.mono zz5)
           first
             | (have kp6 : Blk w6 v2.heap.size 56 #[.slice none 0 0] := kp5.below hw6 kp5.lt
                have p6 : w6.cell? ⟨v2.heap.size, 0, none⟩ = some (.slice none 0 0) := kp6.cell 0
                have p6f := kp6.frozen 0
                have p6z := kp6.lt)
             | (have kp6 : Blk w6 w5.heap.size 56 #[.slice none 0 0] := (Blk.new w5 _ _).below hb6 (by simp)
                have p6 : w6.cell? ⟨w5.heap.size, 0, none⟩ = some (.slice none 0 0) := kp6.cell 0
                have p6f := kp6.frozen 0
                have p6z := kp6.lt)
             | skip)
        | fail)
      all_goals (go_wp2_with fail; go_meet)
      all_goals (first
        | exact ⟨_, A6, c6, rfl, rfl, Blk.new _ _ _, o6'.alloc _, hw06.alloc hw06.size _⟩
        | exact ⟨_, A6, c6, rfl, rfl, kp6.set_ 0 _, (o6.setCell (show w5.heap.size < _ by simp) _).mono (by simp only [World.size_alloc]; omega), hw06.setCell zz5 _⟩
        | exact ⟨_, A6, c6, rfl, rfl, kp6.set_ 0 _, (o6.setCell kp5.lt _).mono zz5, hw06.setCell (Nat.le_refl _) _⟩)
    case rest =>
      obtain ⟨gp, A6, c6, rfl, rfl, k11, o6, hbc⟩ := hcut
      clear k8_c0 k8_f0 k8_z
      replace hb0 := hb0.trans (hbc.mono hb0.size)
      replace o1 := o1.below hbc (Nat.le_refl _)
      replace k8 := k8.below hbc k8.lt
      clear hbc
      have k8_c0 := k8.cell 0
      have k8_f0 := k8.frozen 0
      have k8_z := k8.lt
      have k11_c0 := k11.cell 0
      have k11_f0 := k11.frozen 0
      have k11_z := k11.lt
      simp only [List.getElem?_toArray, List.getElem?_cons_zero, List.getElem?_cons_succ] at k8_c0 k11_c0
      go_wp2_with fail
      clear k8_c0 k8_f0 k8_z k11_c0 k11_f0 k11_z
      refine (ref_Down A6 (limbs Q) _ c6 rfl 64 (by decide) (by decide) _ o6.rd).mono ?_
      rw [HD.out]
      rintro e w13 ⟨A7, c7, rfl, o7, hb13⟩
      replace hb0 := hb0.trans (hb13.mono hb0.size)
      replace o1 := o1.below hb13 (Nat.le_refl _)
      replace k8 := k8.below hb13 k8.lt
      replace k11 := k11.below hb13 k11.lt
      replace o6 := o6.below hb13 (Nat.le_refl _)
      clear hb13
      have k8_c0 := k8.cell 0
      have k8_f0 := k8.frozen 0
      have k8_z := k8.lt
      have k11_c0 := k11.cell 0
      have k11_f0 := k11.frozen 0
      have k11_z := k11.lt
      simp only [List.getElem?_toArray, List.getElem?_cons_zero, List.getElem?_cons_succ] at k8_c0 k11_c0
      go_wp2_with fail
      clear k8_c0 k8_f0 k8_z k11_c0 k11_f0 k11_z
      have hv14 : Below w13.heap.size w13 (w13.alloc (.cells #[.slice A7 (limbs QH).length c7] 56)) := (Below.refl _ _).alloc (by first | exact Nat.le_refl _ | (simp; done) | (simp; omega)) _
      have k13 : Blk (w13.alloc (.cells #[.slice A7 (limbs QH).length c7] 56)) (w13.heap.size) 56 #[.slice A7 (limbs QH).length c7] := Blk.new w13 56 #[.slice A7 (limbs QH).length c7]
      replace hb0 := hb0.trans (hv14.mono hb0.size)
      replace o1 := o1.below hv14 (Nat.le_refl _)
      replace k8 := k8.below hv14 k8.lt
      replace k11 := k11.below hv14 k11.lt
      replace o6 := o6.below hv14 (Nat.le_refl _)
      replace o7 := o7.below hv14 (Nat.le_refl _)
      generalize (w13.alloc (.cells #[.slice A7 (limbs QH).length c7] 56)) = v14 at *
      clear hv14
      refine (ref_Up A7 (limbs QH) _ c7 rfl 64 (by decide) (by decide) _ o7.rd).mono ?_
      rw [HU.out]
      rintro e w15 ⟨A8, c8, rfl, o8, hb15⟩
      replace hb0 := hb0.trans (hb15.mono hb0.size)
      replace o1 := o1.below hb15 (Nat.le_refl _)
      replace k8 := k8.below hb15 k8.lt
      replace k11 := k11.below hb15 k11.lt
      replace o6 := o6.below hb15 (Nat.le_refl _)
      replace o7 := o7.below hb15 (Nat.le_refl _)
      replace k13 := k13.below hb15 k13.lt
      clear hb15
      have k8_c0 := k8.cell 0
      have k8_f0 := k8.frozen 0
      have k8_z := k8.lt
      have k11_c0 := k11.cell 0
      have k11_f0 := k11.frozen 0
      have k11_z := k11.lt
      have k13_c0 := k13.cell 0
      have k13_f0 := k13.frozen 0
      have k13_z := k13.lt
      simp only [List.getElem?_toArray, List.getElem?_cons_zero, List.getElem?_cons_succ] at k8_c0 k11_c0 k13_c0
      go_wp2_with fail
      clear k8_c0 k8_f0 k8_z k11_c0 k11_f0 k11_z k13_c0 k13_f0 k13_z
      have hv16 : Below w15.heap.size w15 (w15.alloc (.cells #[.slice A8 (limbs QB).length c8] 56)) := (Below.refl _ _).alloc (by first | exact Nat.le_refl _ | (simp; done) | (simp; omega)) _
      have k15 : Blk (w15.alloc (.cells #[.slice A8 (limbs QB).length c8] 56)) (w15.heap.size) 56 #[.slice A8 (limbs QB).length c8] := Blk.new w15 56 #[.slice A8 (limbs QB).length c8]
      replace hb0 := hb0.trans (hv16.mono hb0.size)
      replace o1 := o1.below hv16 (Nat.le_refl _)
      replace k8 := k8.below hv16 k8.lt
      replace k11 := k11.below hv16 k11.lt
      replace o6 := o6.below hv16 (Nat.le_refl _)
      replace o7 := o7.below hv16 (Nat.le_refl _)
      replace k13 := k13.below hv16 k13.lt
      replace o8 := o8.below hv16 (Nat.le_refl _)
      generalize (w15.alloc (.cells #[.slice A8 (limbs QB).length c8] 56)) = v16 at *
      clear hv16
      refine (hbt _ A7 c7 o7.rd).mono ?_
      rintro e w17 ⟨rfl, hb17⟩
      replace hb0 := hb0.trans (hb17.mono hb0.size)
      replace o1 := o1.below hb17 (Nat.le_refl _)
      replace k8 := k8.below hb17 k8.lt
      replace k11 := k11.below hb17 k11.lt
      replace o6 := o6.below hb17 (Nat.le_refl _)
      replace o7 := o7.below hb17 (Nat.le_refl _)
      replace k13 := k13.below hb17 k13.lt
      replace o8 := o8.below hb17 (Nat.le_refl _)
      replace k15 := k15.below hb17 k15.lt
      clear hb17
      have k8_c0 := k8.cell 0
      have k8_f0 := k8.frozen 0
      have k8_z := k8.lt
      have k11_c0 := k11.cell 0
      have k11_f0 := k11.frozen 0
      have k11_z := k11.lt
      have k13_c0 := k13.cell 0
      have k13_f0 := k13.frozen 0
      have k13_z := k13.lt
      have k15_c0 := k15.cell 0
      have k15_f0 := k15.frozen 0
      have k15_z := k15.lt
      simp only [List.getElem?_toArray, List.getElem?_cons_zero, List.getElem?_cons_succ] at k8_c0 k11_c0 k13_c0 k15_c0
      go_wp2_with fail
      clear k8_c0 k8_f0 k8_z k11_c0 k11_f0 k11_z k13_c0 k13_f0 k13_z k15_c0 k15_f0 k15_z
      refine (ref_Same A8 A6 (limbs QB) (limbs Q) _ _ c8 c6 rfl rfl _ o8.rd o6.rd).mono ?_
      rw [HX.out]
      rintro e w18 ⟨rfl, hb18⟩
      replace hb0 := hb0.trans (hb18.mono hb0.size)
      replace o1 := o1.below hb18 (Nat.le_refl _)
      replace k8 := k8.below hb18 k8.lt
      replace k11 := k11.below hb18 k11.lt
      replace o6 := o6.below hb18 (Nat.le_refl _)
      replace o7 := o7.below hb18 (Nat.le_refl _)
      replace k13 := k13.below hb18 k13.lt
      replace o8 := o8.below hb18 (Nat.le_refl _)
      replace k15 := k15.below hb18 k15.lt
      clear hb18
      go_wp2
      go_returns
      exact ⟨by first | rfl | simp, hb0⟩
  · have e : timH m k = 0 ∧ timL m k = 0 ∧ timM m k = false ∧ tenEr k = 130 := by
      unfold timH timL timM tenEr; rw [hf]; exact ⟨rfl, rfl, rfl, rfl⟩
    rw [e.1, e.2.1, e.2.2.1, e.2.2.2]
    clear e
    have hf2 := fun W => ref_far k W
    rw [hf] at hf2
    go_enter Tryd.func9, Tryd.ntmps9
    go_wp2_with fail
    refine (hf2 _).mono ?_
    rintro e w1 ⟨rfl, rfl⟩
    go_wp2
    go_returns
    exact ⟨rfl, Below.refl _ _⟩
end Go.Proofs.YtenekbfnlbipiaaDoor
namespace Go.Proofs.YtenekbfnlbipiaaDoor
open Go.RowKit
set_option linter.unusedVariables false
set_option linter.unusedSimpArgs false
set_option maxHeartbeats 4000000
set_option maxRecDepth 100000

/-- What small answers. -/
def SmallPost (l : List Nat) (d : Nat) (w : World) (e : Ending) (w' : World) : Prop :=
  ∃ o g, o.length = l.length ∧ Sm o ∧ val o = val l / d ∧ e = .returned (.tuple #[.slice (some ⟨g, 0, none⟩) l.length l.length, .int .u32 ((val l % d : Nat) : Int)]) ∧ w.heap.size ≤ g ∧ Row w' 90 g o ∧ Below w.heap.size w w'

theorem nat_small (A : Option Addr) (l : List Nat) (n c : Nat) (hn : n = l.length) (hl16 : l.length ≤ 1000000) (d : Nat) (D : Int) (hD : D = (d : Int)) (hd0 : 0 < d) (hd : d < 4294967296) (w : World) (h : Rd w A l) :
    Calls Tryd.prog 82 #[.slice A n c, .int .u32 D] w (SmallPost l d w) := by
  subst hn hD
  have hmk := fun W => mk32 l.length (l.length : Int) rfl (by omega) W
  go_enter Tryd.func82, Tryd.ntmps82
  go_wp2
  go_loopw [7, 8] (fun r i wr => ∃ (k : Nat) (o : List Nat) (q : Nat), k ≤ l.length ∧ i = .int .i64 ((k : Int) - 1) ∧ r = .int .u32 (q : Int) ∧ q < d ∧ o.length = l.length ∧ Sm o ∧ val (l.drop k) = d * val (o.drop k) + q ∧ Row wr 90 w.heap.size o ∧ Below w.heap.size w wr) (fun _ i _ => (intOf i + 1).toNat)
  case atStart =>
    refine ⟨l.length, List.replicate l.length 0, 0, Nat.le_refl _, rfl, rfl, hd0, by simp, Sm.replicate _, ?_, row_new rfl rfl, (by repeat' (first | (with_reducible assumption) | (with_reducible exact Below.refl _ _) | (with_reducible refine bdn ?_ _) | (with_reducible refine Below.drew ?_) | (with_reducible refine Below.setCell ?_ ?_ _) | (with_reducible refine Below.alloc ?_ ?_ _) | go_size))⟩
    rw [List.drop_length, List.drop_of_length_le (by simp)]; rfl
  case round =>
    obtain ⟨wo, rfl⟩ : ∃ wo : World, wo = wr := ⟨_, rfl⟩
    obtain ⟨k, o, q, hk, rfl, rfl, hq, hlen, hso, hv, hrow, hbl⟩ := hrel
    have HV := Lib.hid hv
    have HLEN := Lib.hid hlen
    clear hv hlen
    by_cases hk0 : k = 0
    · subst hk0
      have E := Lib.hid (over_div HV.out hq)
      go_wp2
      go_ret2
      exact ⟨o, _, HLEN.out, hso, E.out.1, by rw [← E.out.2]; rfl, Nat.le_refl _, hrow, hbl⟩
    · obtain ⟨k, rfl⟩ : ∃ j, k = j + 1 := ⟨k - 1, by omega⟩
      obtain ⟨b, off, rfl, hc1⟩ := rd_at h hbl (k := k) (by omega)
      have hlt := h.sm.nth k
      have hcw := hrow.cell k (by rw [HLEN.out]; omega)
      have hfz := hrow.frozen k
      go_wp2_with fail
      refine (bits_Div32 _ _ _ q (nth l k) d rfl rfl rfl hq hlt hd _).mono ?_
      rintro e w1 ⟨rfl, hb1⟩
      have hrow1 := hrow.below hb1 hrow.lt
      have hbw1 := hbl.trans (hb1.mono hbl.size)
      have hcw1 := hrow1.cell k (by rw [HLEN.out]; omega)
      have hfz1 := hrow1.frozen k
      go_wp2
      go_roundw
      case rel => 
        refine ⟨k, o.set k ((q * 4294967296 + nth l k) / d), (q * 4294967296 + nth l k) % d, by omega, by go_num, rfl, Nat.mod_lt _ hd0, by simp [HLEN.out], hso.set _ _ (by rw [Nat.div_lt_iff_lt_mul hd0, Nat.mul_comm]; have := Nat.mul_le_mul_left 4294967296 (show q + 1 ≤ d from hq); omega), ?_, hrow1.setE _ _ rfl, (by repeat' (first | (with_reducible assumption) | (with_reducible exact Below.refl _ _) | (with_reducible refine bdn ?_ _) | (with_reducible refine Below.drew ?_) | (with_reducible refine Below.setCell ?_ ?_ _) | (with_reducible refine Below.alloc ?_ ?_ _) | go_size))⟩
        exact over_step (by rw [HLEN.out]; omega) hd0 HV.out
      case measure => first | (simp [intOf]; done) | (simp [intOf]; omega)

end Go.Proofs.YtenekbfnlbipiaaDoor
namespace Go.Proofs.YtenekbfnlbipiaaDoor
open Go.RowKit
set_option linter.unusedVariables false
set_option linter.unusedSimpArgs false
set_option maxHeartbeats 4000000
set_option maxRecDepth 100000

section
variable {P : Program} {ops : Array Oper} {o : Oper} {a : Act} {w : World} {K : Act → World → Prop} {Q : Exit → Act → World → Prop} {E' : Prop} {B : Nat} {t e : TypeId} {v : Value} {l : List Nat}
theorem step_apps {k : IntKind} (E : ElemOf P t e k) (hgd : o.guard = none) (s x : Operand) (ho : o.op = .call { callee := .builtin .append, args := #[s, x], argTypes := #[t, t] })
    (hown : OwnR w B e k v l) (hs : a.eval s = v) (A : Option Addr) (m : List Nat) (mm c : Nat) (hm : mm = m.length) (hx : a.eval x = .slice A mm c)
    (hcell : 0 < m.length → ∃ b off, A = some ⟨b, off, none⟩ ∧ ∀ j, j < m.length → w.cell? ⟨b, off + j, none⟩ = some (.int k ((nth m j : Nat) : Int)))
    (hlen : (l.length + m.length) * 8 ≤ 140737488355328) (hB : B ≤ w.heap.size)
    (h : ∀ v' w', OwnR w' B e k v' (l ++ m) → w.grownBy w' v.ownBlock → Below B w w' → K (a.put o.dst v') w') :
    if Region.wanted o (yielded ops a.tmps) = true then Oper.wp P o a w K Q else E' := by
  subst hm
  have hw : Region.wanted o (yielded ops a.tmps) = true := by simp [Region.wanted, hgd]
  rw [if_pos hw]
  obtain ⟨i, b, hi, hz, hsz, hby, hb8⟩ := E.hi
  have hbytes : (l.length + m.length) * b ≤ 140737488355328 := by
    have : (l.length + m.length) * b ≤ (l.length + m.length) * 8 := Nat.mul_le_mul_left _ hb8
    omega
  have hlen' : l.length + m.length ≤ maxLen := by unfold maxLen; omega
  by_cases h0 : 0 < m.length
  · obtain ⟨bb, off, rfl, hc⟩ := hcell h0
    refine wp_append_lies w s x t ho B e i (.int k 0) 1 b E.ht hi hz hsz hby rfl (by decide) v l.length (ints k l) hs hown ⟨bb, off, none⟩ m.length c (ints k m) hx (by simp) ?_ ?_ h0 hlen' hbytes hB _ rfl ?_
    · intro j u hj
      have hjl : j < m.length := by
        rcases Nat.lt_or_ge j m.length with h1 | h1
        · exact h1
        · rw [List.getElem?_eq_none (by simpa using h1)] at hj; cases hj
      rw [ints_get k m j hjl] at hj
      injection hj with hj
      subst hj
      have : (⟨bb, off, none⟩ : Addr).add j = ⟨bb, off + j, none⟩ := by unfold Addr.add; split <;> simp_all
      rw [this]; exact hc j hjl
    · intro u hu
      simp only [ints, List.mem_map] at hu
      obtain ⟨z, _, rfl⟩ := hu
      rfl
    · intro g cap w' h1 h2 _ _
      refine h _ w' ?_ h2 (below_grown h2 hown hB)
      unfold OwnR
      rw [List.length_append, ints_append]
      exact h1
  · have hm0 : m = [] := List.eq_nil_of_length_eq_zero (by omega)
    subst hm0
    have hrun : (Builtin.append_ #[t, t] o.type #[v, .slice A 0 c]).run P w = .ok v w := by
      rcases hown.2 with ⟨rfl, _⟩ | ⟨g, cap, cur, rfl, _, _, hnc, _⟩
      · cases A <;> simp [Builtin.append_, run_underlying E.ht, sizeOf, typeInfo, hi, Builtin.lenOf, Builtin.firstCells, loadCells, loadCellsFrom]
      · cases A <;> simp [Builtin.append_, run_underlying E.ht, sizeOf, typeInfo, hi, Builtin.lenOf, Builtin.firstCells, loadCells, loadCellsFrom, hnc, storeCells]
    unfold Oper.wp execOp
    simp only [ho, resolve, invoke, builtin, Sem.run_bind, Sem.run_pure, Result.andThen_ok, List.map_toArray, List.map_cons, List.map_nil, hs, hx, List.length_nil, hrun]
    refine h v w ?_ (World.grownBy.refl w _) (Below.refl _ _)
    simpa using hown
end
end Go.Proofs.YtenekbfnlbipiaaDoor
