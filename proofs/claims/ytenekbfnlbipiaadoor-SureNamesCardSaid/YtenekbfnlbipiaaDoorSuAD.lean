/- Walk: SureNames. -/
import Derived.Test.YtenekbfnlbipiaaDoorSuAC
namespace Go.Proofs.YtenekbfnlbipiaaDoor
open Go.RowKit
set_option linter.unusedVariables false
set_option linter.unusedSimpArgs false
set_option maxHeartbeats 4000000
set_option maxRecDepth 100000

theorem names_walk (w : World) (hT : Tab5 w) (hU : TabU w) :
    Calls Tryd.prog 4 #[] w fun e w' => e = .returned (.bool true) ∧ Below w.heap.size w w' := by
  have hb0 : Below w.heap.size w w := Below.refl _ _
  have r3 := run_bits64
  go_enter Tryd.func4, Tryd.ntmps4
  go_wp2_with fail
  refine (Fo.forms_Double _).mono ?_
  rintro e w1 ⟨rfl, hb1⟩
  replace hb0 := hb0.trans (hb1.mono hb0.size)
  replace hT := hT.below hb1
  replace hU := hU.below hb1
  clear hb1
  go_wp2_with fail
  refine (forms_Half _).mono ?_
  rintro e w2 ⟨rfl, hb2⟩
  replace hb0 := hb0.trans (hb2.mono hb0.size)
  replace hT := hT.below hb2
  replace hU := hU.below hb2
  clear hb2
  go_upto_region 2 with fail
  have hv3 : Below w2.heap.size w2 ((w2.alloc (.cells #[.int .i64 11, .int .i64 52] 35)).alloc (.cells #[.int .i64 5, .int .i64 10] 35)) := ((Below.refl _ _).alloc (by first | exact Nat.le_refl _ | (simp; done) | (simp; omega)) _).alloc (by first | exact Nat.le_refl _ | (simp; done) | (simp; omega)) _
  have k1 : Blk ((w2.alloc (.cells #[.int .i64 11, .int .i64 52] 35)).alloc (.cells #[.int .i64 5, .int .i64 10] 35)) (w2.heap.size) 35 #[.int .i64 11, .int .i64 52] := (Blk.new w2 35 #[.int .i64 11, .int .i64 52]).alloc _
  have k2 : Blk ((w2.alloc (.cells #[.int .i64 11, .int .i64 52] 35)).alloc (.cells #[.int .i64 5, .int .i64 10] 35)) (w2.heap.size + 1) 35 #[.int .i64 5, .int .i64 10] := by
    have := Blk.new (w2.alloc (.cells #[.int .i64 11, .int .i64 52] 35)) 35 #[.int .i64 5, .int .i64 10]
    simpa using this
  replace hb0 := hb0.trans (hv3.mono hb0.size)
  replace hT := hT.below hv3
  replace hU := hU.below hv3
  generalize ((w2.alloc (.cells #[.int .i64 11, .int .i64 52] 35)).alloc (.cells #[.int .i64 5, .int .i64 10] 35)) = v3 at *
  clear hv3
  have k1_c0 := k1.cell 0
  have k1_f0 := k1.frozen 0
  have k1_c1 := k1.cell 1
  have k1_f1 := k1.frozen 1
  have k1_z := k1.lt
  simp only [List.getElem?_toArray, List.getElem?_cons_zero, List.getElem?_cons_succ] at k1_c0 k1_c1
  replace hb0 := hb0.drew
  replace hT : Tab5 v3.drew := hT
  replace hU : TabU v3.drew := hU
  replace k1 := k1.drew
  replace k2 := k2.drew
  go_region_held3 (fun w' => w'.cell? ⟨w2.heap.size, 0, none⟩ = some (.int .i64 11) ∧ w'.cell? ⟨w2.heap.size, 1, none⟩ = some (.int .i64 52)) (first | exact ⟨k1_c0, k1_c1⟩ | go_keep)
    (first
     | (go_at_call 16; (with_reducible refine (sd5 _ hT hU).mono ?_); rintro e wx ⟨rfl, bx⟩; replace hb0 := hb0.trans (bx.mono hb0.size); replace hT := hT.below bx; replace hU := hU.below bx; replace k1_c0 := cell_keep bx k1_c0; replace k1_c1 := cell_keep bx k1_c1; replace k1 := k1.below bx k1.lt; replace k2 := k2.below bx k2.lt; clear bx)
     | (go_at_call 16; (with_reducible refine (sd6 _).mono ?_); rintro e wx ⟨rfl, bx⟩; replace hb0 := hb0.trans (bx.mono hb0.size); replace hT := hT.below bx; replace hU := hU.below bx; replace k1_c0 := cell_keep bx k1_c0; replace k1_c1 := cell_keep bx k1_c1; replace k1 := k1.below bx k1.lt; replace k2 := k2.below bx k2.lt; clear bx)
     | (go_at_call 16; (with_reducible refine (sd7 _ hT hU).mono ?_); rintro e wx ⟨rfl, bx⟩; replace hb0 := hb0.trans (bx.mono hb0.size); replace hT := hT.below bx; replace hU := hU.below bx; replace k1_c0 := cell_keep bx k1_c0; replace k1_c1 := cell_keep bx k1_c1; replace k1 := k1.below bx k1.lt; replace k2 := k2.below bx k2.lt; clear bx)
     | (go_at_call 15; (with_reducible refine (law19_of _ _ _ _ _ _).mono ?_); rintro e wx ⟨rfl, bx⟩; replace hb0 := hb0.trans (bx.mono hb0.size); replace hT := hT.below bx; replace hU := hU.below bx; replace k1_c0 := cell_keep bx k1_c0; replace k1_c1 := cell_keep bx k1_c1; replace k1 := k1.below bx k1.lt; replace k2 := k2.below bx k2.lt; clear bx)
     | (go_at_call 17; (with_reducible refine (law19_d _ _ _ _).mono ?_); rintro e wx ⟨rfl, bx⟩; replace hb0 := hb0.trans (bx.mono hb0.size); replace hT := hT.below bx; replace hU := hU.below bx; replace k1_c0 := cell_keep bx k1_c0; replace k1_c1 := cell_keep bx k1_c1; replace k1 := k1.below bx k1.lt; replace k2 := k2.below bx k2.lt; clear bx)
     | fail)
  rename_i wz hz
  clear hz
  clear k1_c0 k1_f0 k1_c1 k1_f1 k1_z
  have k1_c0 := k1.cell 0
  have k1_f0 := k1.frozen 0
  have k1_c1 := k1.cell 1
  have k1_f1 := k1.frozen 1
  have k1_z := k1.lt
  have k2_c0 := k2.cell 0
  have k2_f0 := k2.frozen 0
  have k2_c1 := k2.cell 1
  have k2_f1 := k2.frozen 1
  have k2_z := k2.lt
  simp only [List.getElem?_toArray, List.getElem?_cons_zero, List.getElem?_cons_succ] at k1_c0 k1_c1 k2_c0 k2_c1
  go_wp2_with fail
  clear k1_c0 k1_f0 k1_c1 k1_f1 k1_z k2_c0 k2_f0 k2_c1 k2_f1 k2_z
  refine (sd8 _).mono ?_
  rintro e w4 ⟨rfl, hb4⟩
  replace hb0 := hb0.trans (hb4.mono hb0.size)
  replace hT := hT.below hb4
  replace hU := hU.below hb4
  replace k1 := k1.below hb4 k1.lt
  replace k2 := k2.below hb4 k2.lt
  clear hb4
  have k1_c0 := k1.cell 0
  have k1_f0 := k1.frozen 0
  have k1_c1 := k1.cell 1
  have k1_f1 := k1.frozen 1
  have k1_z := k1.lt
  have k2_c0 := k2.cell 0
  have k2_f0 := k2.frozen 0
  have k2_c1 := k2.cell 1
  have k2_f1 := k2.frozen 1
  have k2_z := k2.lt
  simp only [List.getElem?_toArray, List.getElem?_cons_zero, List.getElem?_cons_succ] at k1_c0 k1_c1 k2_c0 k2_c1
  go_wp2_with fail
  clear k1_c0 k1_f0 k1_c1 k1_f1 k1_z k2_c0 k2_f0 k2_c1 k2_f1 k2_z
  refine (law19_of _ _ _ _ _ _).mono ?_
  rintro e w5 ⟨rfl, hb5⟩
  replace hb0 := hb0.trans (hb5.mono hb0.size)
  replace hT := hT.below hb5
  replace hU := hU.below hb5
  replace k1 := k1.below hb5 k1.lt
  replace k2 := k2.below hb5 k2.lt
  clear hb5
  have k1_c0 := k1.cell 0
  have k1_f0 := k1.frozen 0
  have k1_c1 := k1.cell 1
  have k1_f1 := k1.frozen 1
  have k1_z := k1.lt
  have k2_c0 := k2.cell 0
  have k2_f0 := k2.frozen 0
  have k2_c1 := k2.cell 1
  have k2_f1 := k2.frozen 1
  have k2_z := k2.lt
  simp only [List.getElem?_toArray, List.getElem?_cons_zero, List.getElem?_cons_succ] at k1_c0 k1_c1 k2_c0 k2_c1
  go_wp2_with fail
  clear k1_c0 k1_f0 k1_c1 k1_f1 k1_z k2_c0 k2_f0 k2_c1 k2_f1 k2_z
  refine (sd9 _).mono ?_
  rintro e w6 ⟨rfl, hb6⟩
  replace hb0 := hb0.trans (hb6.mono hb0.size)
  replace hT := hT.below hb6
  replace hU := hU.below hb6
  replace k1 := k1.below hb6 k1.lt
  replace k2 := k2.below hb6 k2.lt
  clear hb6
  have k1_c0 := k1.cell 0
  have k1_f0 := k1.frozen 0
  have k1_c1 := k1.cell 1
  have k1_f1 := k1.frozen 1
  have k1_z := k1.lt
  have k2_c0 := k2.cell 0
  have k2_f0 := k2.frozen 0
  have k2_c1 := k2.cell 1
  have k2_f1 := k2.frozen 1
  have k2_z := k2.lt
  simp only [List.getElem?_toArray, List.getElem?_cons_zero, List.getElem?_cons_succ] at k1_c0 k1_c1 k2_c0 k2_c1
  go_wp2_with fail
  clear k1_c0 k1_f0 k1_c1 k1_f1 k1_z k2_c0 k2_f0 k2_c1 k2_f1 k2_z
  refine (law19_of _ _ _ _ _ _).mono ?_
  rintro e w7 ⟨rfl, hb7⟩
  replace hb0 := hb0.trans (hb7.mono hb0.size)
  replace hT := hT.below hb7
  replace hU := hU.below hb7
  replace k1 := k1.below hb7 k1.lt
  replace k2 := k2.below hb7 k2.lt
  clear hb7
  have k1_c0 := k1.cell 0
  have k1_f0 := k1.frozen 0
  have k1_c1 := k1.cell 1
  have k1_f1 := k1.frozen 1
  have k1_z := k1.lt
  have k2_c0 := k2.cell 0
  have k2_f0 := k2.frozen 0
  have k2_c1 := k2.cell 1
  have k2_f1 := k2.frozen 1
  have k2_z := k2.lt
  simp only [List.getElem?_toArray, List.getElem?_cons_zero, List.getElem?_cons_succ] at k1_c0 k1_c1 k2_c0 k2_c1
  go_wp2_with fail
  clear k1_c0 k1_f0 k1_c1 k1_f1 k1_z k2_c0 k2_f0 k2_c1 k2_f1 k2_z
  refine (sd10 _).mono ?_
  rintro e w8 ⟨rfl, hb8⟩
  replace hb0 := hb0.trans (hb8.mono hb0.size)
  replace hT := hT.below hb8
  replace hU := hU.below hb8
  replace k1 := k1.below hb8 k1.lt
  replace k2 := k2.below hb8 k2.lt
  clear hb8
  have k1_c0 := k1.cell 0
  have k1_f0 := k1.frozen 0
  have k1_c1 := k1.cell 1
  have k1_f1 := k1.frozen 1
  have k1_z := k1.lt
  have k2_c0 := k2.cell 0
  have k2_f0 := k2.frozen 0
  have k2_c1 := k2.cell 1
  have k2_f1 := k2.frozen 1
  have k2_z := k2.lt
  simp only [List.getElem?_toArray, List.getElem?_cons_zero, List.getElem?_cons_succ] at k1_c0 k1_c1 k2_c0 k2_c1
  go_wp2_with fail
  clear k1_c0 k1_f0 k1_c1 k1_f1 k1_z k2_c0 k2_f0 k2_c1 k2_f1 k2_z
  refine (law19_of _ _ _ _ _ _).mono ?_
  rintro e w9 ⟨rfl, hb9⟩
  replace hb0 := hb0.trans (hb9.mono hb0.size)
  replace hT := hT.below hb9
  replace hU := hU.below hb9
  replace k1 := k1.below hb9 k1.lt
  replace k2 := k2.below hb9 k2.lt
  clear hb9
  have k1_c0 := k1.cell 0
  have k1_f0 := k1.frozen 0
  have k1_c1 := k1.cell 1
  have k1_f1 := k1.frozen 1
  have k1_z := k1.lt
  have k2_c0 := k2.cell 0
  have k2_f0 := k2.frozen 0
  have k2_c1 := k2.cell 1
  have k2_f1 := k2.frozen 1
  have k2_z := k2.lt
  simp only [List.getElem?_toArray, List.getElem?_cons_zero, List.getElem?_cons_succ] at k1_c0 k1_c1 k2_c0 k2_c1
  go_wp2_with fail
  clear k1_c0 k1_f0 k1_c1 k1_f1 k1_z k2_c0 k2_f0 k2_c1 k2_f1 k2_z
  refine (ss11 _).mono ?_
  rintro e w10 ⟨rfl, hb10⟩
  replace hb0 := hb0.trans (hb10.mono hb0.size)
  replace hT := hT.below hb10
  replace hU := hU.below hb10
  replace k1 := k1.below hb10 k1.lt
  replace k2 := k2.below hb10 k2.lt
  clear hb10
  have k1_c0 := k1.cell 0
  have k1_f0 := k1.frozen 0
  have k1_c1 := k1.cell 1
  have k1_f1 := k1.frozen 1
  have k1_z := k1.lt
  have k2_c0 := k2.cell 0
  have k2_f0 := k2.frozen 0
  have k2_c1 := k2.cell 1
  have k2_f1 := k2.frozen 1
  have k2_z := k2.lt
  simp only [List.getElem?_toArray, List.getElem?_cons_zero, List.getElem?_cons_succ] at k1_c0 k1_c1 k2_c0 k2_c1
  go_wp2_with fail
  clear k1_c0 k1_f0 k1_c1 k1_f1 k1_z k2_c0 k2_f0 k2_c1 k2_f1 k2_z
  refine (law19_of _ _ _ _ _ _).mono ?_
  rintro e w11 ⟨rfl, hb11⟩
  replace hb0 := hb0.trans (hb11.mono hb0.size)
  replace hT := hT.below hb11
  replace hU := hU.below hb11
  replace k1 := k1.below hb11 k1.lt
  replace k2 := k2.below hb11 k2.lt
  clear hb11
  have k1_c0 := k1.cell 0
  have k1_f0 := k1.frozen 0
  have k1_c1 := k1.cell 1
  have k1_f1 := k1.frozen 1
  have k1_z := k1.lt
  have k2_c0 := k2.cell 0
  have k2_f0 := k2.frozen 0
  have k2_c1 := k2.cell 1
  have k2_f1 := k2.frozen 1
  have k2_z := k2.lt
  simp only [List.getElem?_toArray, List.getElem?_cons_zero, List.getElem?_cons_succ] at k1_c0 k1_c1 k2_c0 k2_c1
  go_wp2_with fail
  clear k1_c0 k1_f0 k1_c1 k1_f1 k1_z k2_c0 k2_f0 k2_c1 k2_f1 k2_z
  refine (ss12 _).mono ?_
  rintro e w12 ⟨rfl, hb12⟩
  replace hb0 := hb0.trans (hb12.mono hb0.size)
  replace hT := hT.below hb12
  replace hU := hU.below hb12
  replace k1 := k1.below hb12 k1.lt
  replace k2 := k2.below hb12 k2.lt
  clear hb12
  have k1_c0 := k1.cell 0
  have k1_f0 := k1.frozen 0
  have k1_c1 := k1.cell 1
  have k1_f1 := k1.frozen 1
  have k1_z := k1.lt
  have k2_c0 := k2.cell 0
  have k2_f0 := k2.frozen 0
  have k2_c1 := k2.cell 1
  have k2_f1 := k2.frozen 1
  have k2_z := k2.lt
  simp only [List.getElem?_toArray, List.getElem?_cons_zero, List.getElem?_cons_succ] at k1_c0 k1_c1 k2_c0 k2_c1
  go_wp2_with fail
  clear k1_c0 k1_f0 k1_c1 k1_f1 k1_z k2_c0 k2_f0 k2_c1 k2_f1 k2_z
  refine (law19_of _ _ _ _ _ _).mono ?_
  rintro e w13 ⟨rfl, hb13⟩
  replace hb0 := hb0.trans (hb13.mono hb0.size)
  replace hT := hT.below hb13
  replace hU := hU.below hb13
  replace k1 := k1.below hb13 k1.lt
  replace k2 := k2.below hb13 k2.lt
  clear hb13
  have k1_c0 := k1.cell 0
  have k1_f0 := k1.frozen 0
  have k1_c1 := k1.cell 1
  have k1_f1 := k1.frozen 1
  have k1_z := k1.lt
  have k2_c0 := k2.cell 0
  have k2_f0 := k2.frozen 0
  have k2_c1 := k2.cell 1
  have k2_f1 := k2.frozen 1
  have k2_z := k2.lt
  simp only [List.getElem?_toArray, List.getElem?_cons_zero, List.getElem?_cons_succ] at k1_c0 k1_c1 k2_c0 k2_c1
  go_wp2_with fail
  clear k1_c0 k1_f0 k1_c1 k1_f1 k1_z k2_c0 k2_f0 k2_c1 k2_f1 k2_z
  refine (ss13 _).mono ?_
  rintro e w14 ⟨rfl, hb14⟩
  replace hb0 := hb0.trans (hb14.mono hb0.size)
  replace hT := hT.below hb14
  replace hU := hU.below hb14
  replace k1 := k1.below hb14 k1.lt
  replace k2 := k2.below hb14 k2.lt
  clear hb14
  have k1_c0 := k1.cell 0
  have k1_f0 := k1.frozen 0
  have k1_c1 := k1.cell 1
  have k1_f1 := k1.frozen 1
  have k1_z := k1.lt
  have k2_c0 := k2.cell 0
  have k2_f0 := k2.frozen 0
  have k2_c1 := k2.cell 1
  have k2_f1 := k2.frozen 1
  have k2_z := k2.lt
  simp only [List.getElem?_toArray, List.getElem?_cons_zero, List.getElem?_cons_succ] at k1_c0 k1_c1 k2_c0 k2_c1
  go_wp2_with fail
  clear k1_c0 k1_f0 k1_c1 k1_f1 k1_z k2_c0 k2_f0 k2_c1 k2_f1 k2_z
  refine (law19_of _ _ _ _ _ _).mono ?_
  rintro e w15 ⟨rfl, hb15⟩
  replace hb0 := hb0.trans (hb15.mono hb0.size)
  replace hT := hT.below hb15
  replace hU := hU.below hb15
  replace k1 := k1.below hb15 k1.lt
  replace k2 := k2.below hb15 k2.lt
  clear hb15
  have k1_c0 := k1.cell 0
  have k1_f0 := k1.frozen 0
  have k1_c1 := k1.cell 1
  have k1_f1 := k1.frozen 1
  have k1_z := k1.lt
  have k2_c0 := k2.cell 0
  have k2_f0 := k2.frozen 0
  have k2_c1 := k2.cell 1
  have k2_f1 := k2.frozen 1
  have k2_z := k2.lt
  simp only [List.getElem?_toArray, List.getElem?_cons_zero, List.getElem?_cons_succ] at k1_c0 k1_c1 k2_c0 k2_c1
  go_wp2_with fail
  clear k1_c0 k1_f0 k1_c1 k1_f1 k1_z k2_c0 k2_f0 k2_c1 k2_f1 k2_z
  refine (alive19 _ hT hU).mono ?_
  rintro e w16 ⟨rfl, hb16⟩
  replace hb0 := hb0.trans (hb16.mono hb0.size)
  replace hT := hT.below hb16
  replace hU := hU.below hb16
  replace k1 := k1.below hb16 k1.lt
  replace k2 := k2.below hb16 k2.lt
  clear hb16
  have k1_c0 := k1.cell 0
  have k1_f0 := k1.frozen 0
  have k1_c1 := k1.cell 1
  have k1_f1 := k1.frozen 1
  have k1_z := k1.lt
  have k2_c0 := k2.cell 0
  have k2_f0 := k2.frozen 0
  have k2_c1 := k2.cell 1
  have k2_f1 := k2.frozen 1
  have k2_z := k2.lt
  simp only [List.getElem?_toArray, List.getElem?_cons_zero, List.getElem?_cons_succ] at k1_c0 k1_c1 k2_c0 k2_c1
  go_wp2
  go_ret
  exact ⟨rfl, hb0⟩
end Go.Proofs.YtenekbfnlbipiaaDoor
