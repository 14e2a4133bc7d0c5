/- Package sure's Some at any float of any form; the laws' own small function. -/
import Derived.Test.YtenekbfnlbipiaaGreatDoorSuV
import Derived.Test.YtenekbfnlbipiaaGreatDoorBgAL
import Derived.Laws.Cover2
namespace Go.Proofs.YtenekbfnlbipiaaGreatDoor
open Go.RowKit
set_option linter.unusedVariables false
set_option linter.unusedSimpArgs false
set_option maxHeartbeats 4000000
set_option maxRecDepth 100000
theorem some_err (e f : Int) (b : Nat) (xn xs : Bool) (xm : Nat) (xq : Int) (dn : Bool) (r : Int) (ok : Bool) (D : Int) (hr : r ≠ 0) (hO : ∀ W, Calls Tryz.prog 10 #[.agg #[.int .i64 e, .int .i64 f], .int .u64 (b : Int)] W (Says W (.tuple #[.agg #[.bool xn, .int .u64 (xm : Int), .int .i64 xq, .bool xs], .bool ok, .agg #[.bool dn, .string ⟨#[]⟩, .int .i64 0], .int .i64 r]))) (w : World) :
    Calls Tryz.prog 6 #[.agg #[.int .i64 e, .int .i64 f], .int .u64 (b : Int), .int .i64 D] w (Says w (.tuple #[.agg #[.bool false, .string ⟨#[]⟩, .int .i64 0], .bool false, .int .i64 r])) := by
  have hr2 : (r != (0 : Int)) = true := by simpa using hr
  have hb0 : Below w.heap.size w w := Below.refl _ _
  go_enter Tryz.func6, Tryz.ntmps6
  go_upto_region 1 with fail
  have hv1 : Below w.heap.size w ((w.alloc (.cells #[.int .i64 e, .int .i64 f] 23)).alloc (.cells #[.bool false, .string ⟨#[]⟩, .int .i64 0] 26)) := ((Below.refl _ _).alloc (by first | exact Nat.le_refl _ | (simp; done) | (simp; omega)) _).alloc (by first | exact Nat.le_refl _ | (simp; done) | (simp; omega)) _
  have k1 : Blk ((w.alloc (.cells #[.int .i64 e, .int .i64 f] 23)).alloc (.cells #[.bool false, .string ⟨#[]⟩, .int .i64 0] 26)) (w.heap.size) 23 #[.int .i64 e, .int .i64 f] := (Blk.new w 23 #[.int .i64 e, .int .i64 f]).alloc _
  have k2 : Blk ((w.alloc (.cells #[.int .i64 e, .int .i64 f] 23)).alloc (.cells #[.bool false, .string ⟨#[]⟩, .int .i64 0] 26)) (w.heap.size + 1) 26 #[.bool false, .string ⟨#[]⟩, .int .i64 0] := by
    have := Blk.new (w.alloc (.cells #[.int .i64 e, .int .i64 f] 23)) 26 #[.bool false, .string ⟨#[]⟩, .int .i64 0]
    simpa using this
  replace hb0 := hb0.trans (hv1.mono hb0.size)
  generalize ((w.alloc (.cells #[.int .i64 e, .int .i64 f] 23)).alloc (.cells #[.bool false, .string ⟨#[]⟩, .int .i64 0] 26)) = v1 at *
  clear hv1
  have k1_c0 := k1.cell 0
  have k1_f0 := k1.frozen 0
  have k1_c1 := k1.cell 1
  have k1_f1 := k1.frozen 1
  have k1_z := k1.lt
  have k2_c0 := k2.cell 0
  have k2_f0 := k2.frozen 0
  have k2_c1 := k2.cell 1
  have k2_f1 := k2.frozen 1
  have k2_c2 := k2.cell 2
  have k2_f2 := k2.frozen 2
  have k2_z := k2.lt
  simp only [List.getElem?_toArray, List.getElem?_cons_zero, List.getElem?_cons_succ] at k1_c0 k1_c1 k2_c0 k2_c1 k2_c2
  go_wp2_with fail
  clear k1_c0 k1_f0 k1_c1 k1_f1 k1_z k2_c0 k2_f0 k2_c1 k2_f1 k2_c2 k2_f2 k2_z
  refine (hO _).mono ?_
  rintro e w2 ⟨rfl, hb2⟩
  replace hb0 := hb0.trans (hb2.mono hb0.size)
  replace k1 := k1.below hb2 k1.lt
  replace k2 := k2.below hb2 k2.lt
  clear hb2
  go_upto_region 2 with fail
  have l3 : w.heap.size + 1 < w2.heap.size := k2.lt
  have hv3 : Below w2.heap.size w2 ((w2.alloc (.cells #[.bool xn, .int .u64 (xm : Int), .int .i64 xq, .bool xs] 37)).alloc (.cells #[.bool dn, .string ⟨#[]⟩, .int .i64 0] 26)) := ((Below.refl _ _).alloc (by first | exact Nat.le_refl _ | (simp; done) | (simp; omega)) _).alloc (by first | exact Nat.le_refl _ | (simp; done) | (simp; omega)) _
  have k3 : Blk ((w2.alloc (.cells #[.bool xn, .int .u64 (xm : Int), .int .i64 xq, .bool xs] 37)).alloc (.cells #[.bool dn, .string ⟨#[]⟩, .int .i64 0] 26)) (w2.heap.size) 37 #[.bool xn, .int .u64 (xm : Int), .int .i64 xq, .bool xs] := (Blk.new w2 37 #[.bool xn, .int .u64 (xm : Int), .int .i64 xq, .bool xs]).alloc _
  have k4 : Blk ((w2.alloc (.cells #[.bool xn, .int .u64 (xm : Int), .int .i64 xq, .bool xs] 37)).alloc (.cells #[.bool dn, .string ⟨#[]⟩, .int .i64 0] 26)) (w2.heap.size + 1) 26 #[.bool dn, .string ⟨#[]⟩, .int .i64 0] := by
    have := Blk.new (w2.alloc (.cells #[.bool xn, .int .u64 (xm : Int), .int .i64 xq, .bool xs] 37)) 26 #[.bool dn, .string ⟨#[]⟩, .int .i64 0]
    simpa using this
  replace hb0 := hb0.trans (hv3.mono hb0.size)
  replace k1 := k1.below hv3 k1.lt
  replace k2 := k2.below hv3 k2.lt
  generalize ((w2.alloc (.cells #[.bool xn, .int .u64 (xm : Int), .int .i64 xq, .bool xs] 37)).alloc (.cells #[.bool dn, .string ⟨#[]⟩, .int .i64 0] 26)) = v3 at *
  clear hv3
  have k1_c0 := k1.cell 0
  have k1_f0 := k1.frozen 0
  have k1_c1 := k1.cell 1
  have k1_f1 := k1.frozen 1
  have k1_z := k1.lt
  have k2_c0 := k2.cell 0
  have k2_f0 := k2.frozen 0
  have k2_c1 := k2.cell 1
  have k2_f1 := k2.frozen 1
  have k2_c2 := k2.cell 2
  have k2_f2 := k2.frozen 2
  have k2_z := k2.lt
  have k3_c0 := k3.cell 0
  have k3_f0 := k3.frozen 0
  have k3_c1 := k3.cell 1
  have k3_f1 := k3.frozen 1
  have k3_c2 := k3.cell 2
  have k3_f2 := k3.frozen 2
  have k3_c3 := k3.cell 3
  have k3_f3 := k3.frozen 3
  have k3_z := k3.lt
  have k4_c0 := k4.cell 0
  have k4_f0 := k4.frozen 0
  have k4_c1 := k4.cell 1
  have k4_f1 := k4.frozen 1
  have k4_c2 := k4.cell 2
  have k4_f2 := k4.frozen 2
  have k4_z := k4.lt
  simp only [List.getElem?_toArray, List.getElem?_cons_zero, List.getElem?_cons_succ] at k1_c0 k1_c1 k2_c0 k2_c1 k2_c2 k3_c0 k3_c1 k3_c2 k3_c3 k4_c0 k4_c1 k4_c2
  go_wp2
  refine bodyPost_ret (v := .tuple #[.agg #[.bool false, .string ⟨#[]⟩, .int .i64 0], .bool false, .int .i64 r]) ?_ rfl ⟨rfl, (((hb0.setCell (p := ⟨w.heap.size + 1, 0, none⟩) (by simp) _).setCell (p := ⟨w.heap.size + 1, 1, none⟩) (by simp) _).setCell (p := ⟨w.heap.size + 1, 2, none⟩) (by simp) _)⟩
  refine results_cell_tmp2 rfl _ _ (w.heap.size + 1) _ _ _ _ _ _ ?_ ?_ ?_ (((k2.set_ 0 _).set_ 1 _).set_ 2 _) Tryz.underlying26 rfl (by kernel_rfl)
  · rfl
  · rfl
  · rfl
theorem some_places_lo (e f : Int) (b : Nat) (xn xs : Bool) (xm : Nat) (xq : Int) (dn : Bool) (ok : Bool) (D : Int) (hD : D < 1) (hO : ∀ W, Calls Tryz.prog 10 #[.agg #[.int .i64 e, .int .i64 f], .int .u64 (b : Int)] W (Says W (.tuple #[.agg #[.bool xn, .int .u64 (xm : Int), .int .i64 xq, .bool xs], .bool ok, .agg #[.bool dn, .string ⟨#[]⟩, .int .i64 0], .int .i64 0]))) (w : World) :
    Calls Tryz.prog 6 #[.agg #[.int .i64 e, .int .i64 f], .int .u64 (b : Int), .int .i64 D] w (Says w (.tuple #[.agg #[.bool false, .string ⟨#[]⟩, .int .i64 0], .bool false, .int .i64 101])) := by
  have g1 : decide (D < 1) = true := by simpa using hD
  clear hD
  have hb0 : Below w.heap.size w w := Below.refl _ _
  go_enter Tryz.func6, Tryz.ntmps6
  go_upto_region 1 with fail
  have hv1 : Below w.heap.size w ((w.alloc (.cells #[.int .i64 e, .int .i64 f] 23)).alloc (.cells #[.bool false, .string ⟨#[]⟩, .int .i64 0] 26)) := ((Below.refl _ _).alloc (by first | exact Nat.le_refl _ | (simp; done) | (simp; omega)) _).alloc (by first | exact Nat.le_refl _ | (simp; done) | (simp; omega)) _
  have k1 : Blk ((w.alloc (.cells #[.int .i64 e, .int .i64 f] 23)).alloc (.cells #[.bool false, .string ⟨#[]⟩, .int .i64 0] 26)) (w.heap.size) 23 #[.int .i64 e, .int .i64 f] := (Blk.new w 23 #[.int .i64 e, .int .i64 f]).alloc _
  have k2 : Blk ((w.alloc (.cells #[.int .i64 e, .int .i64 f] 23)).alloc (.cells #[.bool false, .string ⟨#[]⟩, .int .i64 0] 26)) (w.heap.size + 1) 26 #[.bool false, .string ⟨#[]⟩, .int .i64 0] := by
    have := Blk.new (w.alloc (.cells #[.int .i64 e, .int .i64 f] 23)) 26 #[.bool false, .string ⟨#[]⟩, .int .i64 0]
    simpa using this
  replace hb0 := hb0.trans (hv1.mono hb0.size)
  generalize ((w.alloc (.cells #[.int .i64 e, .int .i64 f] 23)).alloc (.cells #[.bool false, .string ⟨#[]⟩, .int .i64 0] 26)) = v1 at *
  clear hv1
  have k1_c0 := k1.cell 0
  have k1_f0 := k1.frozen 0
  have k1_c1 := k1.cell 1
  have k1_f1 := k1.frozen 1
  have k1_z := k1.lt
  have k2_c0 := k2.cell 0
  have k2_f0 := k2.frozen 0
  have k2_c1 := k2.cell 1
  have k2_f1 := k2.frozen 1
  have k2_c2 := k2.cell 2
  have k2_f2 := k2.frozen 2
  have k2_z := k2.lt
  simp only [List.getElem?_toArray, List.getElem?_cons_zero, List.getElem?_cons_succ] at k1_c0 k1_c1 k2_c0 k2_c1 k2_c2
  go_wp2_with fail
  clear k1_c0 k1_f0 k1_c1 k1_f1 k1_z k2_c0 k2_f0 k2_c1 k2_f1 k2_c2 k2_f2 k2_z
  refine (hO _).mono ?_
  rintro e w2 ⟨rfl, hb2⟩
  replace hb0 := hb0.trans (hb2.mono hb0.size)
  replace k1 := k1.below hb2 k1.lt
  replace k2 := k2.below hb2 k2.lt
  clear hb2
  go_upto_region 2 with fail
  have l3 : w.heap.size + 1 < w2.heap.size := k2.lt
  have hv3 : Below w2.heap.size w2 ((w2.alloc (.cells #[.bool xn, .int .u64 (xm : Int), .int .i64 xq, .bool xs] 37)).alloc (.cells #[.bool dn, .string ⟨#[]⟩, .int .i64 0] 26)) := ((Below.refl _ _).alloc (by first | exact Nat.le_refl _ | (simp; done) | (simp; omega)) _).alloc (by first | exact Nat.le_refl _ | (simp; done) | (simp; omega)) _
  have k3 : Blk ((w2.alloc (.cells #[.bool xn, .int .u64 (xm : Int), .int .i64 xq, .bool xs] 37)).alloc (.cells #[.bool dn, .string ⟨#[]⟩, .int .i64 0] 26)) (w2.heap.size) 37 #[.bool xn, .int .u64 (xm : Int), .int .i64 xq, .bool xs] := (Blk.new w2 37 #[.bool xn, .int .u64 (xm : Int), .int .i64 xq, .bool xs]).alloc _
  have k4 : Blk ((w2.alloc (.cells #[.bool xn, .int .u64 (xm : Int), .int .i64 xq, .bool xs] 37)).alloc (.cells #[.bool dn, .string ⟨#[]⟩, .int .i64 0] 26)) (w2.heap.size + 1) 26 #[.bool dn, .string ⟨#[]⟩, .int .i64 0] := by
    have := Blk.new (w2.alloc (.cells #[.bool xn, .int .u64 (xm : Int), .int .i64 xq, .bool xs] 37)) 26 #[.bool dn, .string ⟨#[]⟩, .int .i64 0]
    simpa using this
  replace hb0 := hb0.trans (hv3.mono hb0.size)
  replace k1 := k1.below hv3 k1.lt
  replace k2 := k2.below hv3 k2.lt
  generalize ((w2.alloc (.cells #[.bool xn, .int .u64 (xm : Int), .int .i64 xq, .bool xs] 37)).alloc (.cells #[.bool dn, .string ⟨#[]⟩, .int .i64 0] 26)) = v3 at *
  clear hv3
  have k1_c0 := k1.cell 0
  have k1_f0 := k1.frozen 0
  have k1_c1 := k1.cell 1
  have k1_f1 := k1.frozen 1
  have k1_z := k1.lt
  have k2_c0 := k2.cell 0
  have k2_f0 := k2.frozen 0
  have k2_c1 := k2.cell 1
  have k2_f1 := k2.frozen 1
  have k2_c2 := k2.cell 2
  have k2_f2 := k2.frozen 2
  have k2_z := k2.lt
  have k3_c0 := k3.cell 0
  have k3_f0 := k3.frozen 0
  have k3_c1 := k3.cell 1
  have k3_f1 := k3.frozen 1
  have k3_c2 := k3.cell 2
  have k3_f2 := k3.frozen 2
  have k3_c3 := k3.cell 3
  have k3_f3 := k3.frozen 3
  have k3_z := k3.lt
  have k4_c0 := k4.cell 0
  have k4_f0 := k4.frozen 0
  have k4_c1 := k4.cell 1
  have k4_f1 := k4.frozen 1
  have k4_c2 := k4.cell 2
  have k4_f2 := k4.frozen 2
  have k4_z := k4.lt
  simp only [List.getElem?_toArray, List.getElem?_cons_zero, List.getElem?_cons_succ] at k1_c0 k1_c1 k2_c0 k2_c1 k2_c2 k3_c0 k3_c1 k3_c2 k3_c3 k4_c0 k4_c1 k4_c2
  go_wp2
  refine bodyPost_ret (v := .tuple #[.agg #[.bool false, .string ⟨#[]⟩, .int .i64 0], .bool false, .int .i64 101]) ?_ rfl ⟨rfl, (((hb0.setCell (p := ⟨w.heap.size + 1, 0, none⟩) (by simp) _).setCell (p := ⟨w.heap.size + 1, 1, none⟩) (by simp) _).setCell (p := ⟨w.heap.size + 1, 2, none⟩) (by simp) _)⟩
  refine results_cell_tmp2 rfl _ _ (w.heap.size + 1) _ _ _ _ _ _ ?_ ?_ ?_ (((k2.set_ 0 _).set_ 1 _).set_ 2 _) Tryz.underlying26 rfl (by kernel_rfl)
  · rfl
  · rfl
  · rfl
theorem some_places_hi (e f : Int) (b : Nat) (xn xs : Bool) (xm : Nat) (xq : Int) (dn : Bool) (ok : Bool) (D : Int) (hD : 17 < D) (hO : ∀ W, Calls Tryz.prog 10 #[.agg #[.int .i64 e, .int .i64 f], .int .u64 (b : Int)] W (Says W (.tuple #[.agg #[.bool xn, .int .u64 (xm : Int), .int .i64 xq, .bool xs], .bool ok, .agg #[.bool dn, .string ⟨#[]⟩, .int .i64 0], .int .i64 0]))) (w : World) :
    Calls Tryz.prog 6 #[.agg #[.int .i64 e, .int .i64 f], .int .u64 (b : Int), .int .i64 D] w (Says w (.tuple #[.agg #[.bool false, .string ⟨#[]⟩, .int .i64 0], .bool false, .int .i64 101])) := by
  have g1 : decide (D < 1) = false := by simp; omega
  have g2 : decide (17 < D) = true := by simpa using hD
  clear hD
  have hb0 : Below w.heap.size w w := Below.refl _ _
  go_enter Tryz.func6, Tryz.ntmps6
  go_upto_region 1 with fail
  have hv1 : Below w.heap.size w ((w.alloc (.cells #[.int .i64 e, .int .i64 f] 23)).alloc (.cells #[.bool false, .string ⟨#[]⟩, .int .i64 0] 26)) := ((Below.refl _ _).alloc (by first | exact Nat.le_refl _ | (simp; done) | (simp; omega)) _).alloc (by first | exact Nat.le_refl _ | (simp; done) | (simp; omega)) _
  have k1 : Blk ((w.alloc (.cells #[.int .i64 e, .int .i64 f] 23)).alloc (.cells #[.bool false, .string ⟨#[]⟩, .int .i64 0] 26)) (w.heap.size) 23 #[.int .i64 e, .int .i64 f] := (Blk.new w 23 #[.int .i64 e, .int .i64 f]).alloc _
  have k2 : Blk ((w.alloc (.cells #[.int .i64 e, .int .i64 f] 23)).alloc (.cells #[.bool false, .string ⟨#[]⟩, .int .i64 0] 26)) (w.heap.size + 1) 26 #[.bool false, .string ⟨#[]⟩, .int .i64 0] := by
    have := Blk.new (w.alloc (.cells #[.int .i64 e, .int .i64 f] 23)) 26 #[.bool false, .string ⟨#[]⟩, .int .i64 0]
    simpa using this
  replace hb0 := hb0.trans (hv1.mono hb0.size)
  generalize ((w.alloc (.cells #[.int .i64 e, .int .i64 f] 23)).alloc (.cells #[.bool false, .string ⟨#[]⟩, .int .i64 0] 26)) = v1 at *
  clear hv1
  have k1_c0 := k1.cell 0
  have k1_f0 := k1.frozen 0
  have k1_c1 := k1.cell 1
  have k1_f1 := k1.frozen 1
  have k1_z := k1.lt
  have k2_c0 := k2.cell 0
  have k2_f0 := k2.frozen 0
  have k2_c1 := k2.cell 1
  have k2_f1 := k2.frozen 1
  have k2_c2 := k2.cell 2
  have k2_f2 := k2.frozen 2
  have k2_z := k2.lt
  simp only [List.getElem?_toArray, List.getElem?_cons_zero, List.getElem?_cons_succ] at k1_c0 k1_c1 k2_c0 k2_c1 k2_c2
  go_wp2_with fail
  clear k1_c0 k1_f0 k1_c1 k1_f1 k1_z k2_c0 k2_f0 k2_c1 k2_f1 k2_c2 k2_f2 k2_z
  refine (hO _).mono ?_
  rintro e w2 ⟨rfl, hb2⟩
  replace hb0 := hb0.trans (hb2.mono hb0.size)
  replace k1 := k1.below hb2 k1.lt
  replace k2 := k2.below hb2 k2.lt
  clear hb2
  go_upto_region 2 with fail
  have l3 : w.heap.size + 1 < w2.heap.size := k2.lt
  have hv3 : Below w2.heap.size w2 ((w2.alloc (.cells #[.bool xn, .int .u64 (xm : Int), .int .i64 xq, .bool xs] 37)).alloc (.cells #[.bool dn, .string ⟨#[]⟩, .int .i64 0] 26)) := ((Below.refl _ _).alloc (by first | exact Nat.le_refl _ | (simp; done) | (simp; omega)) _).alloc (by first | exact Nat.le_refl _ | (simp; done) | (simp; omega)) _
  have k3 : Blk ((w2.alloc (.cells #[.bool xn, .int .u64 (xm : Int), .int .i64 xq, .bool xs] 37)).alloc (.cells #[.bool dn, .string ⟨#[]⟩, .int .i64 0] 26)) (w2.heap.size) 37 #[.bool xn, .int .u64 (xm : Int), .int .i64 xq, .bool xs] := (Blk.new w2 37 #[.bool xn, .int .u64 (xm : Int), .int .i64 xq, .bool xs]).alloc _
  have k4 : Blk ((w2.alloc (.cells #[.bool xn, .int .u64 (xm : Int), .int .i64 xq, .bool xs] 37)).alloc (.cells #[.bool dn, .string ⟨#[]⟩, .int .i64 0] 26)) (w2.heap.size + 1) 26 #[.bool dn, .string ⟨#[]⟩, .int .i64 0] := by
    have := Blk.new (w2.alloc (.cells #[.bool xn, .int .u64 (xm : Int), .int .i64 xq, .bool xs] 37)) 26 #[.bool dn, .string ⟨#[]⟩, .int .i64 0]
    simpa using this
  replace hb0 := hb0.trans (hv3.mono hb0.size)
  replace k1 := k1.below hv3 k1.lt
  replace k2 := k2.below hv3 k2.lt
  generalize ((w2.alloc (.cells #[.bool xn, .int .u64 (xm : Int), .int .i64 xq, .bool xs] 37)).alloc (.cells #[.bool dn, .string ⟨#[]⟩, .int .i64 0] 26)) = v3 at *
  clear hv3
  have k1_c0 := k1.cell 0
  have k1_f0 := k1.frozen 0
  have k1_c1 := k1.cell 1
  have k1_f1 := k1.frozen 1
  have k1_z := k1.lt
  have k2_c0 := k2.cell 0
  have k2_f0 := k2.frozen 0
  have k2_c1 := k2.cell 1
  have k2_f1 := k2.frozen 1
  have k2_c2 := k2.cell 2
  have k2_f2 := k2.frozen 2
  have k2_z := k2.lt
  have k3_c0 := k3.cell 0
  have k3_f0 := k3.frozen 0
  have k3_c1 := k3.cell 1
  have k3_f1 := k3.frozen 1
  have k3_c2 := k3.cell 2
  have k3_f2 := k3.frozen 2
  have k3_c3 := k3.cell 3
  have k3_f3 := k3.frozen 3
  have k3_z := k3.lt
  have k4_c0 := k4.cell 0
  have k4_f0 := k4.frozen 0
  have k4_c1 := k4.cell 1
  have k4_f1 := k4.frozen 1
  have k4_c2 := k4.cell 2
  have k4_f2 := k4.frozen 2
  have k4_z := k4.lt
  simp only [List.getElem?_toArray, List.getElem?_cons_zero, List.getElem?_cons_succ] at k1_c0 k1_c1 k2_c0 k2_c1 k2_c2 k3_c0 k3_c1 k3_c2 k3_c3 k4_c0 k4_c1 k4_c2
  go_wp2
  refine bodyPost_ret (v := .tuple #[.agg #[.bool false, .string ⟨#[]⟩, .int .i64 0], .bool false, .int .i64 101]) ?_ rfl ⟨rfl, (((hb0.setCell (p := ⟨w.heap.size + 1, 0, none⟩) (by simp) _).setCell (p := ⟨w.heap.size + 1, 1, none⟩) (by simp) _).setCell (p := ⟨w.heap.size + 1, 2, none⟩) (by simp) _)⟩
  refine results_cell_tmp2 rfl _ _ (w.heap.size + 1) _ _ _ _ _ _ ?_ ?_ ?_ (((k2.set_ 0 _).set_ 1 _).set_ 2 _) Tryz.underlying26 rfl (by kernel_rfl)
  · rfl
  · rfl
  · rfl
theorem some_no (e f : Int) (b : Nat) (xn xs : Bool) (xm : Nat) (xq : Int) (dn : Bool) (D : Int) (hD : 1 ≤ D ∧ D ≤ 17) (hO : ∀ W, Calls Tryz.prog 10 #[.agg #[.int .i64 e, .int .i64 f], .int .u64 (b : Int)] W (Says W (.tuple #[.agg #[.bool xn, .int .u64 (xm : Int), .int .i64 xq, .bool xs], .bool false, .agg #[.bool dn, .string ⟨#[]⟩, .int .i64 0], .int .i64 0]))) (w : World) :
    Calls Tryz.prog 6 #[.agg #[.int .i64 e, .int .i64 f], .int .u64 (b : Int), .int .i64 D] w (Says w (.tuple #[.agg #[.bool dn, .string ⟨#[]⟩, .int .i64 0], .bool true, .int .i64 0])) := by
  have g1 : decide (D < 1) = false := by simp; omega
  have g2 : decide (17 < D) = false := by simp; omega
  clear hD
  have hb0 : Below w.heap.size w w := Below.refl _ _
  go_enter Tryz.func6, Tryz.ntmps6
  go_upto_region 1 with fail
  have hv1 : Below w.heap.size w ((w.alloc (.cells #[.int .i64 e, .int .i64 f] 23)).alloc (.cells #[.bool false, .string ⟨#[]⟩, .int .i64 0] 26)) := ((Below.refl _ _).alloc (by first | exact Nat.le_refl _ | (simp; done) | (simp; omega)) _).alloc (by first | exact Nat.le_refl _ | (simp; done) | (simp; omega)) _
  have k1 : Blk ((w.alloc (.cells #[.int .i64 e, .int .i64 f] 23)).alloc (.cells #[.bool false, .string ⟨#[]⟩, .int .i64 0] 26)) (w.heap.size) 23 #[.int .i64 e, .int .i64 f] := (Blk.new w 23 #[.int .i64 e, .int .i64 f]).alloc _
  have k2 : Blk ((w.alloc (.cells #[.int .i64 e, .int .i64 f] 23)).alloc (.cells #[.bool false, .string ⟨#[]⟩, .int .i64 0] 26)) (w.heap.size + 1) 26 #[.bool false, .string ⟨#[]⟩, .int .i64 0] := by
    have := Blk.new (w.alloc (.cells #[.int .i64 e, .int .i64 f] 23)) 26 #[.bool false, .string ⟨#[]⟩, .int .i64 0]
    simpa using this
  replace hb0 := hb0.trans (hv1.mono hb0.size)
  generalize ((w.alloc (.cells #[.int .i64 e, .int .i64 f] 23)).alloc (.cells #[.bool false, .string ⟨#[]⟩, .int .i64 0] 26)) = v1 at *
  clear hv1
  have k1_c0 := k1.cell 0
  have k1_f0 := k1.frozen 0
  have k1_c1 := k1.cell 1
  have k1_f1 := k1.frozen 1
  have k1_z := k1.lt
  have k2_c0 := k2.cell 0
  have k2_f0 := k2.frozen 0
  have k2_c1 := k2.cell 1
  have k2_f1 := k2.frozen 1
  have k2_c2 := k2.cell 2
  have k2_f2 := k2.frozen 2
  have k2_z := k2.lt
  simp only [List.getElem?_toArray, List.getElem?_cons_zero, List.getElem?_cons_succ] at k1_c0 k1_c1 k2_c0 k2_c1 k2_c2
  go_wp2_with fail
  clear k1_c0 k1_f0 k1_c1 k1_f1 k1_z k2_c0 k2_f0 k2_c1 k2_f1 k2_c2 k2_f2 k2_z
  refine (hO _).mono ?_
  rintro e w2 ⟨rfl, hb2⟩
  replace hb0 := hb0.trans (hb2.mono hb0.size)
  replace k1 := k1.below hb2 k1.lt
  replace k2 := k2.below hb2 k2.lt
  clear hb2
  go_upto_region 2 with fail
  have l3 : w.heap.size + 1 < w2.heap.size := k2.lt
  have hv3 : Below w2.heap.size w2 ((w2.alloc (.cells #[.bool xn, .int .u64 (xm : Int), .int .i64 xq, .bool xs] 37)).alloc (.cells #[.bool dn, .string ⟨#[]⟩, .int .i64 0] 26)) := ((Below.refl _ _).alloc (by first | exact Nat.le_refl _ | (simp; done) | (simp; omega)) _).alloc (by first | exact Nat.le_refl _ | (simp; done) | (simp; omega)) _
  have k3 : Blk ((w2.alloc (.cells #[.bool xn, .int .u64 (xm : Int), .int .i64 xq, .bool xs] 37)).alloc (.cells #[.bool dn, .string ⟨#[]⟩, .int .i64 0] 26)) (w2.heap.size) 37 #[.bool xn, .int .u64 (xm : Int), .int .i64 xq, .bool xs] := (Blk.new w2 37 #[.bool xn, .int .u64 (xm : Int), .int .i64 xq, .bool xs]).alloc _
  have k4 : Blk ((w2.alloc (.cells #[.bool xn, .int .u64 (xm : Int), .int .i64 xq, .bool xs] 37)).alloc (.cells #[.bool dn, .string ⟨#[]⟩, .int .i64 0] 26)) (w2.heap.size + 1) 26 #[.bool dn, .string ⟨#[]⟩, .int .i64 0] := by
    have := Blk.new (w2.alloc (.cells #[.bool xn, .int .u64 (xm : Int), .int .i64 xq, .bool xs] 37)) 26 #[.bool dn, .string ⟨#[]⟩, .int .i64 0]
    simpa using this
  replace hb0 := hb0.trans (hv3.mono hb0.size)
  replace k1 := k1.below hv3 k1.lt
  replace k2 := k2.below hv3 k2.lt
  generalize ((w2.alloc (.cells #[.bool xn, .int .u64 (xm : Int), .int .i64 xq, .bool xs] 37)).alloc (.cells #[.bool dn, .string ⟨#[]⟩, .int .i64 0] 26)) = v3 at *
  clear hv3
  have k1_c0 := k1.cell 0
  have k1_f0 := k1.frozen 0
  have k1_c1 := k1.cell 1
  have k1_f1 := k1.frozen 1
  have k1_z := k1.lt
  have k2_c0 := k2.cell 0
  have k2_f0 := k2.frozen 0
  have k2_c1 := k2.cell 1
  have k2_f1 := k2.frozen 1
  have k2_c2 := k2.cell 2
  have k2_f2 := k2.frozen 2
  have k2_z := k2.lt
  have k3_c0 := k3.cell 0
  have k3_f0 := k3.frozen 0
  have k3_c1 := k3.cell 1
  have k3_f1 := k3.frozen 1
  have k3_c2 := k3.cell 2
  have k3_f2 := k3.frozen 2
  have k3_c3 := k3.cell 3
  have k3_f3 := k3.frozen 3
  have k3_z := k3.lt
  have k4_c0 := k4.cell 0
  have k4_f0 := k4.frozen 0
  have k4_c1 := k4.cell 1
  have k4_f1 := k4.frozen 1
  have k4_c2 := k4.cell 2
  have k4_f2 := k4.frozen 2
  have k4_z := k4.lt
  simp only [List.getElem?_toArray, List.getElem?_cons_zero, List.getElem?_cons_succ] at k1_c0 k1_c1 k2_c0 k2_c1 k2_c2 k3_c0 k3_c1 k3_c2 k3_c3 k4_c0 k4_c1 k4_c2
  go_wp2
  refine bodyPost_ret (v := .tuple #[.agg #[.bool dn, .string ⟨#[]⟩, .int .i64 0], .bool true, .int .i64 0]) ?_ rfl ⟨rfl, (((hb0.setCell (p := ⟨w.heap.size + 1, 0, none⟩) (by simp) _).setCell (p := ⟨w.heap.size + 1, 1, none⟩) (by simp) _).setCell (p := ⟨w.heap.size + 1, 2, none⟩) (by simp) _)⟩
  refine results_cell_tmp2 rfl _ _ (w.heap.size + 1) _ _ _ _ _ _ ?_ ?_ ?_ (((k2.set_ 0 _).set_ 1 _).set_ 2 _) Tryz.underlying26 rfl (by kernel_rfl)
  · rfl
  · rfl
  · rfl
theorem law19_of (n : Bool) (s : ByteArray) (x : Int) (ok : Bool) (e : Int) (w : World) : Calls Tryz.prog 5 #[.agg #[.bool n, .string s, .int .i64 x], .bool ok, .int .i64 e] w (Says w (.agg #[.bool n, .string s, .int .i64 x, .bool ok, .int .i64 e])) := by
  have hb0 : Below w.heap.size w w := Below.refl _ _
  go_enter Tryz.func5, Tryz.ntmps5
  go_wp2
  refine bodyPost_ret (v := .agg #[.bool n, .string s, .int .i64 x, .bool ok, .int .i64 e]) ?_ rfl ⟨rfl, ((Below.refl _ w).alloc (Nat.le_refl _) _).alloc (by simp) _⟩
  refine results_cell_row rfl _ _ (w.heap.size + 1) _ _ _ _ ?_ (by have := heap_alloc_new (w.alloc (.cells #[.bool n, .string s, .int .i64 x] 26)) (.cells #[.bool n, .string s, .int .i64 x, .bool ok, .int .i64 e] 29); simpa using this) Tryz.underlying29 rfl (by kernel_rfl)
  rfl
theorem fit_in {E F b : Nat} (hE1 : 2 ≤ E) (hE2 : E ≤ 11) (hF1 : 1 ≤ F) (hF2 : F ≤ 52) (hb : b < 2 ^ (1 + E + F)) : Fo.fitS (E : Int) (F : Int) b = 0 := by
  have hc : Fo.chkF (E : Int) (F : Int) = 0 := by unfold Fo.chkF; rw [if_neg (by omega)]
  unfold Fo.fitS
  rw [if_pos hc]
  unfold Fo.fitF
  rw [Int.toNat_natCast, Int.toNat_natCast, if_neg (by omega)]
theorem or_top (Y F : Nat) (hF : F ≤ 52) (hY : Y < 2 ^ F) : bits BinOp.or IntKind.u64 (Y : Int) ((2 ^ F : Nat) : Int) = ((Y + 2 ^ F : Nat) : Int) := by
  have h52 := Nat.pow_le_pow_right (n := 2) (by decide) hF
  rw [u64_or_nat _ _ (by omega) (by omega)]
  have := Nat.two_pow_add_eq_or_of_lt hY 1
  rw [Nat.mul_one] at this
  rw [Nat.or_comm, ← this, Nat.add_comm]
theorem open_num {E F b X Y : Nat} {ng : Bool} (hE1 : 2 ≤ E) (hE2 : E ≤ 11) (hF1 : 1 ≤ F) (hF2 : F ≤ 52) (hb : b < 2 ^ (1 + E + F)) (hs : Fo.splitF E F b = (ng, X, Y)) (hX : X + 1 ≠ 2 ^ E) (hz : ¬ (X = 0 ∧ Y = 0)) (w : World) :
    Calls Tryz.prog 10 #[.agg #[.int .i64 (E : Int), .int .i64 (F : Int)], .int .u64 (b : Int)] w (Says w (.tuple #[.agg #[.bool ng, .int .u64 ((mF F X Y : Nat) : Int), .int .i64 (qF E F X), .bool (stF X Y)], .bool true, .agg #[.bool false, .string ⟨#[]⟩, .int .i64 0], .int .i64 0])) := by
  have h64 : 2 ^ (1 + E + F) ≤ 2 ^ 64 := Nat.pow_le_pow_right (by decide) (by omega)
  have hfit := fit_in hE1 hE2 hF1 hF2 hb
  have hsp : Fo.splitS (E : Int) (F : Int) b = ((ng, X, Y), 0) := by
    unfold Fo.splitS; rw [if_pos hfit, Int.toNat_natCast, Int.toNat_natCast, hs]
  have hcl : Fo.classS (E : Int) (F : Int) b = (Fo.classF E X Y, 0) := by
    unfold Fo.classS; rw [if_pos hfit, hsp, Int.toNat_natCast]
  have hC := fun W => Fo.forms_Class (E : Int) (F : Int) b b rfl (by omega) W
  have hS := fun W => Fo.forms_Split (E : Int) (F : Int) b b rfl (by omega) W
  rw [hcl] at hC
  rw [hsp] at hS
  unfold Fo.splitF at hs
  have hXY : X = b / 2 ^ F % 2 ^ E ∧ Y = b % 2 ^ F := by
    simp only [Prod.mk.injEq] at hs
    exact ⟨hs.2.1.symm, hs.2.2.symm⟩
  have hXlt : X < 2 ^ E := by rw [hXY.1]; exact Nat.mod_lt _ (Nat.two_pow_pos _)
  have hYlt : Y < 2 ^ F := by rw [hXY.2]; exact Nat.mod_lt _ (Nat.two_pow_pos _)
  have hE10 := Nat.pow_le_pow_right (n := 2) (by decide) (show E - 1 ≤ 10 by omega)
  have hE11 := Nat.pow_le_pow_right (n := 2) (by decide) hE2
  have hF52 := Nat.pow_le_pow_right (n := 2) (by decide) hF2
  have hi64 : ∀ p : Nat, p ≤ 2 ^ 10 → IntKind.i64.wrap (p : Int) = (p : Int) := by intro p hp; rw [IntKind.wrap_i64]; omega
  have hu64 : ∀ p : Nat, p ≤ 2 ^ 52 → IntKind.u64.wrap (p : Int) = (p : Int) := by intro p hp; rw [IntKind.wrap_u64]; omega
  have hP : IntKind.i64.wrap (2 ^ (E - 1)) = ((2 ^ (E - 1) : Nat) : Int) := by
    have h3 : ((2 : Int) ^ (E - 1)) = ((2 ^ (E - 1) : Nat) : Int) := by push_cast; rfl
    rw [h3]; exact hi64 _ hE10
  have hQ : IntKind.u64.wrap (2 ^ F) = ((2 ^ F : Nat) : Int) := by
    have h3 : ((2 : Int) ^ F) = ((2 ^ F : Nat) : Int) := by push_cast; rfl
    rw [h3]; exact hu64 _ hF52
  unfold Fo.classF at hC
  by_cases h0 : X = 0
  · subst h0
    have hY : ¬ Y = 0 := fun h => hz ⟨rfl, h⟩
    rw [if_pos rfl, if_neg hY] at hC
    have := open_small (E : Int) (F : Int) b ng 0 Y (by omega) (E - 1) (2 ^ (E - 1)) (by omega) hP (by omega) (by omega) hC hS w
    have e1 : mF F 0 Y = Y := rfl
    have e2 : qF E F 0 = 2 - ((2 ^ (E - 1) : Nat) : Int) - (F : Int) := by unfold qF; rw [if_pos rfl]; omega
    have e3 : stF 0 Y = false := rfl
    rw [e1, e2, e3]
    exact this
  · rw [if_neg h0, if_neg hX] at hC
    have e1 : mF F X Y = Y + 2 ^ F := by unfold mF; rw [if_neg h0]
    have e2 : qF E F X = 2 - ((2 ^ (E - 1) : Nat) : Int) - (F : Int) + ((X : Int) - 1) := by unfold qF; rw [if_neg h0]
    rw [e1, e2]
    have hor := or_top Y F hF2 hYlt
    by_cases hY : Y = 0
    · by_cases hX1 : 1 < X
      · have e3 : stF X Y = true := by unfold stF; rw [decide_eq_true hX1, decide_eq_true hY]; rfl
        rw [e3]
        exact open_norma (E : Int) F b ng X Y (by omega) (E - 1) (2 ^ (E - 1)) (by omega) hP (by omega) (by omega) (2 ^ F) (Y + 2 ^ F) (by omega) hQ hor (by simpa using hY) (by simp; omega) (by simpa using hX1) hC hS w
      · have e3 : stF X Y = false := by unfold stF; rw [decide_eq_false hX1]; rfl
        rw [e3]
        exact open_normb (E : Int) F b ng X Y (by omega) (E - 1) (2 ^ (E - 1)) (by omega) hP (by omega) (by omega) (2 ^ F) (Y + 2 ^ F) (by omega) hQ hor (by simpa using hY) (by simp; omega) (by simpa using hX1) hC hS w
    · have e3 : stF X Y = false := by unfold stF; rw [decide_eq_false hY, Bool.and_false]
      rw [e3]
      exact open_normc (E : Int) F b ng X Y (by omega) (E - 1) (2 ^ (E - 1)) (by omega) hP (by omega) (by omega) (2 ^ F) (Y + 2 ^ F) (by omega) hQ hor (by simpa using hY) hC hS w
theorem some_num {E F b X Y : Nat} {ng : Bool} (hE1 : 2 ≤ E) (hE2 : E ≤ 11) (hF1 : 1 ≤ F) (hF2 : F ≤ 52) (hb : b < 2 ^ (1 + E + F)) (hs : Fo.splitF E F b = (ng, X, Y)) (hX : X + 1 ≠ 2 ^ E) (hz : ¬ (X = 0 ∧ Y = 0)) {P : Int} (hP : IsFirst (mF F X Y) (qF E F X) P) (hP1 : -350 ≤ P) (hP2 : P < 350) {n : Nat} (hn1 : 1 ≤ n) (hn2 : n ≤ 17) (w : World) (hT : Tab5 w) (hU : TabU w) :
    Calls Tryz.prog 6 #[.agg #[.int .i64 (E : Int), .int .i64 (F : Int)], .int .u64 (b : Int), .int .i64 (n : Int)] w (Says w (someV ng P n (someS (mF F X Y) (qF E F X) P n))) := by
  have hO := fun W => open_num hE1 hE2 hF1 hF2 hb hs hX hz W
  obtain ⟨b1, b2, b3, b4⟩ := num_bd hE1 hE2 hF1 hF2 hs hX hz
  have := sure_some _ _ b ng _ _ _ P n hO b1 b2 b3 b4 hP hP1 hP2 hn1 hn2 w hT hU
  unfold someV
  exact this
theorem open_bad {e f : Int} {b : Nat} (hb : b < 18446744073709551616) (h : Fo.fitS e f b ≠ 0) (w : World) :
    Calls Tryz.prog 10 #[.agg #[.int .i64 e, .int .i64 f], .int .u64 (b : Int)] w (Says w (.tuple #[.agg #[.bool false, .int .u64 0, .int .i64 0, .bool false], .bool false, .agg #[.bool false, .string ⟨#[]⟩, .int .i64 0], .int .i64 (Fo.fitS e f b)])) := by
  have hC := fun W => Fo.forms_Class e f b b rfl hb W
  have hcl : Fo.classS e f b = (0, Fo.fitS e f b) := by unfold Fo.classS; rw [if_neg h]
  rw [hcl] at hC
  exact open_err e f b 0 _ (by simpa using h) hC w
theorem open_far {E F b X Y : Nat} {ng : Bool} (hE1 : 2 ≤ E) (hE2 : E ≤ 11) (hF1 : 1 ≤ F) (hF2 : F ≤ 52) (hb : b < 2 ^ (1 + E + F)) (hs : Fo.splitF E F b = (ng, X, Y)) (hX : X + 1 = 2 ^ E) (w : World) :
    Calls Tryz.prog 10 #[.agg #[.int .i64 (E : Int), .int .i64 (F : Int)], .int .u64 (b : Int)] w (Says w (.tuple #[.agg #[.bool false, .int .u64 0, .int .i64 0, .bool false], .bool false, .agg #[.bool false, .string ⟨#[]⟩, .int .i64 0], .int .i64 8])) := by
  have h64 : 2 ^ (1 + E + F) ≤ 2 ^ 64 := Nat.pow_le_pow_right (by decide) (by omega)
  have hfit := fit_in hE1 hE2 hF1 hF2 hb
  have hsp : Fo.splitS (E : Int) (F : Int) b = ((ng, X, Y), 0) := by
    unfold Fo.splitS; rw [if_pos hfit, Int.toNat_natCast, Int.toNat_natCast, hs]
  have hcl : Fo.classS (E : Int) (F : Int) b = (Fo.classF E X Y, 0) := by
    unfold Fo.classS; rw [if_pos hfit, hsp, Int.toNat_natCast]
  have hC := fun W => Fo.forms_Class (E : Int) (F : Int) b b rfl (by omega) W
  have hS := fun W => Fo.forms_Split (E : Int) (F : Int) b b rfl (by omega) W
  rw [hcl] at hC
  rw [hsp] at hS
  have h1 : 1 < 2 ^ E := Nat.one_lt_two_pow (by omega)
  unfold Fo.classF at hC
  rw [if_neg (by omega), if_pos hX] at hC
  by_cases hY : Y = 0
  · rw [if_pos hY] at hC
    exact open_inf4 _ _ b ng X Y hC hS w
  · rw [if_neg hY] at hC
    exact open_inf5 _ _ b ng X Y hC hS w
theorem open_nought {E F b : Nat} {ng : Bool} (hE1 : 2 ≤ E) (hE2 : E ≤ 11) (hF1 : 1 ≤ F) (hF2 : F ≤ 52) (hb : b < 2 ^ (1 + E + F)) (hs : Fo.splitF E F b = (ng, 0, 0)) (w : World) :
    Calls Tryz.prog 10 #[.agg #[.int .i64 (E : Int), .int .i64 (F : Int)], .int .u64 (b : Int)] w (Says w (.tuple #[.agg #[.bool false, .int .u64 0, .int .i64 0, .bool false], .bool false, .agg #[.bool ng, .string ⟨#[]⟩, .int .i64 0], .int .i64 0])) := by
  have h64 : 2 ^ (1 + E + F) ≤ 2 ^ 64 := Nat.pow_le_pow_right (by decide) (by omega)
  have hfit := fit_in hE1 hE2 hF1 hF2 hb
  have hsp : Fo.splitS (E : Int) (F : Int) b = ((ng, 0, 0), 0) := by
    unfold Fo.splitS; rw [if_pos hfit, Int.toNat_natCast, Int.toNat_natCast, hs]
  have hcl : Fo.classS (E : Int) (F : Int) b = (Fo.classF E 0 0, 0) := by
    unfold Fo.classS; rw [if_pos hfit, hsp, Int.toNat_natCast]
  have hC := fun W => Fo.forms_Class (E : Int) (F : Int) b b rfl (by omega) W
  have hS := fun W => Fo.forms_Split (E : Int) (F : Int) b b rfl (by omega) W
  rw [hcl] at hC
  rw [hsp] at hS
  exact open_zero _ _ b ng 0 0 hC hS w
end Go.Proofs.YtenekbfnlbipiaaGreatDoor
