/- Walk: SureWholes. -/
import Derived.Test.YtenekbfnlbipiaaDoorPD
import Derived.Test.YtenekbfnlbipiaaDoorRows
import Derived.ProofKit
import Derived.OpenShut
import Derived.ShutString
import Derived.ChangeOld
import Derived.SizedLaws
import Derived.Below
import Derived.LaidMore
import Derived.Lay
import Derived.Lib.SmallJoins
import Derived.Lib.LaidTab
import Derived.Stop.Joined
import Derived.Stop.LaidErr
namespace Go.Proofs.YtenekbfnlbipiaaDoor
open Go.RowKit
set_option linter.unusedVariables false
set_option linter.unusedSimpArgs false
set_option maxHeartbeats 4000000
set_option maxRecDepth 100000

theorem alloc_then {W wx : World} {o : Obj} (bx : Below (W.alloc o).heap.size (W.alloc o) wx) : Below W.heap.size W wx := by
  have hal := (Below.refl W.heap.size W).alloc (Nat.le_refl _) o
  exact hal.trans (bx.mono (by simp))
theorem alloc_blk {W wx : World} {T : TypeId} {cs : Array Value} (bx : Below (W.alloc (.cells cs T)).heap.size (W.alloc (.cells cs T)) wx) : Blk wx W.heap.size T cs := (Blk.new W T cs).below bx (by simp)
theorem wholes_walk (n y : Nat) (hn : n < 18446744073709551616) (hy : y < 256) (w : World) (hT : Tab5 w) (hU : TabU w) :
    Calls Tryd.prog 5 #[.int .u64 (n : Int), .int .u8 (y : Int)] w fun e w' => e = .returned (.bool true) ∧ Below w.heap.size w w' := by
  obtain ⟨N, hN⟩ : ∃ N, N = n % 9007199254740992 := ⟨_, rfl⟩
  have hNlt : N < 9007199254740992 := by rw [hN]; exact Nat.mod_lt _ (by decide)
  obtain ⟨g1, s1, x1, hD⟩ := whole_digits hNlt
  have hH1 : 1 ≤ nd N ∧ nd N ≤ 16 := by
    by_cases h0 : N = 0
    · rw [h0, nd_zero]; decide
    · exact ⟨(nd_bd h0 hNlt).2.2.1, (nd_bd h0 hNlt).2.2.2⟩
  have hml : y % (18 - nd N) < 18 - nd N := Nat.mod_lt _ (by omega)
  obtain ⟨g2, s2, x2, hS⟩ := whole_somes hNlt (D := nd N + y % (18 - nd N)) (by omega) (by omega)
  have hnd := fun W => power_Digits (N : Int) N rfl (by omega) W
  have hq1 : Int.tmod (n : Int) 9007199254740992 = (N : Int) := by rw [Int.tmod_eq_emod_of_nonneg (by omega)]; omega
  have hq2 : (n : Int) % 9007199254740992 = (N : Int) := by omega
  obtain ⟨fb, hfb⟩ : ∃ fb, fb = floatOfInt .f64 (N : Int) := ⟨_, rfl⟩
  rw [← hfb] at hD hS
  have hfl : floatOfInt .f64 (N : Int) = fb := hfb.symm
  obtain ⟨H, hH⟩ : ∃ H, H = nd N := ⟨_, rfl⟩
  rw [← hH] at hS hnd hH1 hml
  obtain ⟨R, hR⟩ : ∃ R, R = y % (18 - H) := ⟨_, rfl⟩
  rw [← hR] at hS hml
  have hr1 : Int.tmod (y : Int) (18 - (H : Int)) = (R : Int) := by rw [hR, Int.tmod_eq_emod_of_nonneg (by omega), show (18 - (H : Int)) = ((18 - H : Nat) : Int) by omega]; omega
  have hr2 : (y : Int) % (18 - (H : Int)) = (R : Int) := by rw [hR, show (18 - (H : Int)) = ((18 - H : Nat) : Int) by omega]; omega
  have hS2 : ∀ W, Tab5 W → TabU W → Calls Tryd.prog 19 #[.agg #[.int .i64 11, .int .i64 52], .int .u64 (fb : Int), .int .i64 ((H : Int) + (R : Int))] W (Says W (sureV g2 s2 x2)) := fun W h1 h2 => by
    have := hS W h1 h2
    rw [show ((H + R : Nat) : Int) = (H : Int) + (R : Int) by omega] at this
    exact this
  have hc1 : decide ((1 : Int) ≤ (H : Int)) = true := by simp; omega
  have hc2 : decide ((H : Int) ≤ 16) = true := by simp; omega
  obtain ⟨K, hK⟩ : ∃ K, K = 18 - H := ⟨_, rfl⟩
  have hKI : 18 - (H : Int) = (K : Int) := by omega
  rw [hKI] at hr1 hr2
  have hne : ¬ (K : Int) = 0 := by omega
  have hne3 : ¬ K = 0 := by omega
  have hne2 : ((K : Int) == 0) = false := by simp; omega
  have hw7 : IntKind.i64.wrap (K : Int) = (K : Int) := by rw [IntKind.wrap_i64]; omega
  have hRl : (H : Int) + (R : Int) ≤ 17 := by omega
  obtain ⟨hH1a, hH1b⟩ := hH1
  have hHa : (1 : Int) ≤ (H : Int) := by omega
  have hHb : (H : Int) ≤ 16 := by omega
  have hSarg : IntKind.i64.wrap ((H : Int) + (IntKind.i64.wrap (y : Int)).tmod (K : Int)) = (H : Int) + (R : Int) := by
    rw [show IntKind.i64.wrap (y : Int) = (y : Int) by rw [IntKind.wrap_i64]; omega, hr1, IntKind.wrap_i64]; omega
  have hS3 : ∀ W, Tab5 W → TabU W → Calls Tryd.prog 19 #[.agg #[.int .i64 11, .int .i64 52], .int .u64 (fb : Int), .int .i64 (IntKind.i64.wrap ((H : Int) + (IntKind.i64.wrap (y : Int)).tmod (K : Int)))] W (Says W (sureV g2 s2 x2)) := fun W h1 h2 => by
    rw [hSarg]
    exact hS2 W h1 h2
  clear hSarg hS2 hr1 hr2 hRl
  unfold sureV at hD hS3
  clear hN hH hR hS hfb hml hH1a hH1b hNlt hK
  have hb0 : Below w.heap.size w w := Below.refl _ _
  have r3 := run_bits64
  go_enter Tryd.func5, Tryd.ntmps5
  go_wp2_with fail
  refine (alive19 _ hT hU).mono ?_
  rintro e w1 ⟨rfl, hb1⟩
  replace hb0 := hb0.trans (hb1.mono hb0.size)
  replace hT := hT.below hb1
  replace hU := hU.below hb1
  clear hb1
  go_wp2_with fail
  refine (hnd _).mono ?_
  rintro e wq ⟨rfl, rfl⟩
  go_wp2_with fail
  refine (Fo.forms_Double _).mono ?_
  rintro e w2 ⟨rfl, hb2⟩
  replace hb0 := hb0.trans (hb2.mono hb0.size)
  replace hT := hT.below hb2
  replace hU := hU.below hb2
  clear hb2
  go_wp2_with fail
  refine (hD _ hT hU).mono ?_
  rintro e w3 ⟨rfl, hb3⟩
  replace hb0 := hb0.trans (hb3.mono hb0.size)
  replace hT := hT.below hb3
  replace hU := hU.below hb3
  clear hb3
  go_wp2_with fail
  refine (law19_of _ _ _ _ _ _).mono ?_
  rintro e w4 ⟨rfl, hb4⟩
  replace hb0 := hb0.trans (hb4.mono hb0.size)
  replace hT := hT.below hb4
  replace hU := hU.below hb4
  clear hb4
  go_upto_region 6 with fail
  have hv5 : Below w4.heap.size w4 (w4.alloc (.cells #[.bool g1, .string s1, .int .i64 x1, .bool true, .int .i64 0] 40)) := (Below.refl _ _).alloc (by first | exact Nat.le_refl _ | (simp; done) | (simp; omega)) _
  have k1 : Blk (w4.alloc (.cells #[.bool g1, .string s1, .int .i64 x1, .bool true, .int .i64 0] 40)) (w4.heap.size) 40 #[.bool g1, .string s1, .int .i64 x1, .bool true, .int .i64 0] := Blk.new w4 40 #[.bool g1, .string s1, .int .i64 x1, .bool true, .int .i64 0]
  replace hb0 := hb0.trans (hv5.mono hb0.size)
  replace hT := hT.below hv5
  replace hU := hU.below hv5
  generalize (w4.alloc (.cells #[.bool g1, .string s1, .int .i64 x1, .bool true, .int .i64 0] 40)) = v5 at *
  clear hv5
  replace hb0 := hb0.drew
  replace hT : Tab5 v5.drew := hT
  replace hU : TabU v5.drew := hU
  replace k1 := k1.drew
  go_cut [9] (fun v9 wx => ∃ gp : Nat, v9 = .pointer (some ⟨gp, 0, none⟩) ∧ Blk wx gp 40 #[.bool g2, .string s2, .int .i64 x2, .bool true, .int .i64 0] ∧ Blk wx w4.heap.size 40 #[.bool g1, .string s1, .int .i64 x1, .bool true, .int .i64 0] ∧ Below w.heap.size w wx)
  case first =>
    go_region_held3 (fun w' => True) (first | exact trivial | go_keep)
        (first
        | (go_at_call 13
           (with_reducible refine (Fo.forms_Double _).mono ?_)
           rintro e wx ⟨rfl, bx⟩
           first
          | (replace hb0 := hb0.trans (bx.mono hb0.size); replace hT := hT.below bx; replace hU := hU.below bx; replace k1 := k1.below bx k1.lt; try (replace kp := kp.below bx kp.lt))
          | (have kp := alloc_blk bx; have kl := k1.lt; have kl2 := hb0.size; replace bx := alloc_then bx; replace hb0 := hb0.trans (bx.mono hb0.size); replace hT := hT.below bx; replace hU := hU.below bx; replace k1 := k1.below bx k1.lt)
          | (have kp : Blk _ v5.heap.size 40 #[.bool false, .string ⟨#[]⟩, .int .i64 0, .bool false, .int .i64 0] := alloc_blk (W := v5.drew) (T := 40) (cs := #[.bool false, .string ⟨#[]⟩, .int .i64 0, .bool false, .int .i64 0]) bx; have kl : w4.heap.size < v5.heap.size := k1.lt; have kl2 : w.heap.size ≤ v5.heap.size := hb0.size; replace bx := alloc_then (W := v5.drew) (o := .cells #[.bool false, .string ⟨#[]⟩, .int .i64 0, .bool false, .int .i64 0] 40) bx; replace hb0 := hb0.trans (bx.mono hb0.size); replace hT := hT.below bx; replace hU := hU.below bx; replace k1 := k1.below bx k1.lt)
           clear bx)
        | (go_at_call 19
           (with_reducible refine (hS3 _ (by first | exact hT | exact hT.below ((Below.refl _ _).alloc (Nat.le_refl _) _)) (by first | exact hU | exact hU.below ((Below.refl _ _).alloc (Nat.le_refl _) _))).mono ?_)
           rintro e wx ⟨rfl, bx⟩
           first
          | (replace hb0 := hb0.trans (bx.mono hb0.size); replace hT := hT.below bx; replace hU := hU.below bx; replace k1 := k1.below bx k1.lt; try (replace kp := kp.below bx kp.lt))
          | (have kp := alloc_blk bx; have kl := k1.lt; have kl2 := hb0.size; replace bx := alloc_then bx; replace hb0 := hb0.trans (bx.mono hb0.size); replace hT := hT.below bx; replace hU := hU.below bx; replace k1 := k1.below bx k1.lt)
          | (have kp : Blk _ v5.heap.size 40 #[.bool false, .string ⟨#[]⟩, .int .i64 0, .bool false, .int .i64 0] := alloc_blk (W := v5.drew) (T := 40) (cs := #[.bool false, .string ⟨#[]⟩, .int .i64 0, .bool false, .int .i64 0]) bx; have kl : w4.heap.size < v5.heap.size := k1.lt; have kl2 : w.heap.size ≤ v5.heap.size := hb0.size; replace bx := alloc_then (W := v5.drew) (o := .cells #[.bool false, .string ⟨#[]⟩, .int .i64 0, .bool false, .int .i64 0] 40) bx; replace hb0 := hb0.trans (bx.mono hb0.size); replace hT := hT.below bx; replace hU := hU.below bx; replace k1 := k1.below bx k1.lt)
           clear bx)
        | (go_at_call 15
           (with_reducible refine (law19_of _ _ _ _ _ _).mono ?_)
           rintro e wx ⟨rfl, bx⟩
           first
          | (replace hb0 := hb0.trans (bx.mono hb0.size); replace hT := hT.below bx; replace hU := hU.below bx; replace k1 := k1.below bx k1.lt; try (replace kp := kp.below bx kp.lt))
          | (have kp := alloc_blk bx; have kl := k1.lt; have kl2 := hb0.size; replace bx := alloc_then bx; replace hb0 := hb0.trans (bx.mono hb0.size); replace hT := hT.below bx; replace hU := hU.below bx; replace k1 := k1.below bx k1.lt)
          | (have kp : Blk _ v5.heap.size 40 #[.bool false, .string ⟨#[]⟩, .int .i64 0, .bool false, .int .i64 0] := alloc_blk (W := v5.drew) (T := 40) (cs := #[.bool false, .string ⟨#[]⟩, .int .i64 0, .bool false, .int .i64 0]) bx; have kl : w4.heap.size < v5.heap.size := k1.lt; have kl2 : w.heap.size ≤ v5.heap.size := hb0.size; replace bx := alloc_then (W := v5.drew) (o := .cells #[.bool false, .string ⟨#[]⟩, .int .i64 0, .bool false, .int .i64 0] 40) bx; replace hb0 := hb0.trans (bx.mono hb0.size); replace hT := hT.below bx; replace hU := hU.below bx; replace k1 := k1.below bx k1.lt)
           clear bx
           try (have p0 := kp.cell 0; have q0 := kp.frozen 0; have p1 := kp.cell 1; have q1 := kp.frozen 1; have p2 := kp.cell 2; have q2 := kp.frozen 2; have p3 := kp.cell 3; have q3 := kp.frozen 3; have p4 := kp.cell 4; have q4 := kp.frozen 4; have pz := kp.lt; simp only [List.getElem?_toArray, List.getElem?_cons_zero, List.getElem?_cons_succ] at p0 p1 p2 p3 p4))
        | fail)
    all_goals (go_wp2_with fail; clear hKI hne hne2 hne3 hw7 hHa hHb hc1 hc2 hS3 hq1 hq2; go_meet)
    all_goals (first
      | exact ⟨_, rfl, (((((kp.set_ 0 _).set_ 1 _).set_ 2 _).set_ 3 _).set_ 4 _), (((((k1.far (p := ⟨_, 0, none⟩) (Nat.ne_of_lt kl) _).far (p := ⟨_, 1, none⟩) (Nat.ne_of_lt kl) _).far (p := ⟨_, 2, none⟩) (Nat.ne_of_lt kl) _).far (p := ⟨_, 3, none⟩) (Nat.ne_of_lt kl) _).far (p := ⟨_, 4, none⟩) (Nat.ne_of_lt kl) _), (((((hb0.setCell (p := ⟨_, 0, none⟩) kl2 _).setCell (p := ⟨_, 1, none⟩) kl2 _).setCell (p := ⟨_, 2, none⟩) kl2 _).setCell (p := ⟨_, 3, none⟩) kl2 _).setCell (p := ⟨_, 4, none⟩) kl2 _)⟩
      | exact ⟨_, rfl, Blk.new _ _ _, k1.alloc _, hb0.alloc hb0.size _⟩)
  case rest =>
    obtain ⟨gp, rfl, k2, k1, hb0⟩ := hcut
    clear hKI hne hne2 hne3 hw7 hHa hHb hS3 hq1 hq2 hD hnd
    have k1_c0 := k1.cell 0
    have k1_f0 := k1.frozen 0
    have k1_c1 := k1.cell 1
    have k1_f1 := k1.frozen 1
    have k1_c2 := k1.cell 2
    have k1_f2 := k1.frozen 2
    have k1_c3 := k1.cell 3
    have k1_f3 := k1.frozen 3
    have k1_c4 := k1.cell 4
    have k1_f4 := k1.frozen 4
    have k1_z := k1.lt
    have k2_c0 := k2.cell 0
    have k2_f0 := k2.frozen 0
    have k2_c1 := k2.cell 1
    have k2_f1 := k2.frozen 1
    have k2_c2 := k2.cell 2
    have k2_f2 := k2.frozen 2
    have k2_c3 := k2.cell 3
    have k2_f3 := k2.frozen 3
    have k2_c4 := k2.cell 4
    have k2_f4 := k2.frozen 4
    have k2_z := k2.lt
    simp only [List.getElem?_toArray, List.getElem?_cons_zero, List.getElem?_cons_succ] at k1_c0 k1_c1 k1_c2 k1_c3 k1_c4 k2_c0 k2_c1 k2_c2 k2_c3 k2_c4
    go_wp2
    go_ret
    exact ⟨rfl, hb0⟩
end Go.Proofs.YtenekbfnlbipiaaDoor
namespace Go.Proofs.YtenekbfnlbipiaaDoor
open Go.ChangeShapes Go.WideShapes Go.ChangeAt Go.WideMaps Go.WideElems Go.RowKit
open Go.RowKit
set_option linter.unusedVariables false
set_option linter.unusedSimpArgs false
set_option maxHeartbeats 4000000
set_option maxRecDepth 100000

/-- What the rows list. -/
def laid6 : List (String × DataW Unit) := [("math/bits.deBruijn32tab", Rows.laid_math_bits_deBruijn32tab), ("math/bits.deBruijn64tab", Rows.laid_math_bits_deBruijn64tab), ("internal/strconv.uint64pow10", Rows.laid_internal_strconv_uint64pow10), ("unicode/utf8.acceptRanges", Rows.laid_unicode_utf8_acceptRanges), ("numeral/power.fives", Rows.laid_numeral_power_fives), ("unicode/utf8.first", Rows.laid_unicode_utf8_first)]
def fiveZ : List Int := (List.range 28).map fun j => ((5 ^ j : Nat) : Int)
theorem g5 : Tryd.prog.globalNamed "numeral/power.fives" = some 1 := by kernel_rfl
theorem t5 : (Tryd.prog.globals[1]?).map (·.type) = some 119 := by kernel_rfl
theorem gU : Tryd.prog.globalNamed "internal/strconv.uint64pow10" = some 3 := by kernel_rfl
theorem tU : (Tryd.prog.globals[3]?).map (·.type) = some 162 := by kernel_rfl
theorem laid_fives {H : Type} : (Rows.laid_numeral_power_fives : DataW H) = Lib.tabData .u64 fiveZ := rfl
theorem laid_tens {H : Type} : (Rows.laid_internal_strconv_uint64pow10 : DataW H) = Lib.tabData .u64 Lib.pow10Tab := rfl
theorem tab5_of6 {W : World} (h : laidMetH Tryd.prog laid6 W) : Tab5 W := by
  rw [MakeChecks.laidMetH_plain _ _ _ (by kernel_rfl)] at h
  unfold laid6 at h
  have h5 := h.tail.tail.tail.tail
  rw [laid_fives] at h5
  have ht := Lib.tabIs_of_head g5 t5 Tryd.underlying119 Tryd.underlying22 (by kernel_rfl) (by kernel_rfl) h5
  intro j hj
  have hl : fiveZ.length = 28 := rfl
  have h1 := ht.cell g5 j (by rw [hl]; exact hj)
  rw [h1]
  have : fiveZ.getD j 0 = ((5 ^ j : Nat) : Int) := by
    unfold fiveZ
    rw [List.getD_eq_getElem?_getD, List.getElem?_map, List.getElem?_range hj]
    rfl
  rw [this]
theorem tabU_of6 {W : World} (h : laidMetH Tryd.prog laid6 W) : TabU W := by
  rw [MakeChecks.laidMetH_plain _ _ _ (by kernel_rfl)] at h
  unfold laid6 at h
  have h5 := h.tail.tail
  rw [laid_tens] at h5
  exact Lib.tabIs_of_head gU tU Tryd.underlying162 Tryd.underlying22 (by kernel_rfl) (by kernel_rfl) h5
set_option maxRecDepth 100000 in
theorem door_met6 (os : Os) (args : Array Value) : laidMetH Tryd.prog laid6 ((World.laidAll Tryd.prog os laid6).forCall (fun _ _ => 0) ⟨#[], args, []⟩).memory := by
  rw [MakeChecks.laidMetH_plain _ _ _ (by kernel_rfl)]
  exact laidMet_laidAll _ (by kernel_rfl) (by kernel_rfl)
end Go.Proofs.YtenekbfnlbipiaaDoor
