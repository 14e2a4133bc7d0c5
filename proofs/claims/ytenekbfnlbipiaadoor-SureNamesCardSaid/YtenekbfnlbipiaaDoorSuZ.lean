/- Walk: the early ways of Digits and Some; the laws' own small functions. -/
import Derived.Test.YtenekbfnlbipiaaDoorSuX
import Derived.Test.YtenekbfnlbipiaaDoorSuY
import Derived.Laws.FloatBits
import Derived.Laws.Externs
namespace Go.Proofs.YtenekbfnlbipiaaDoor
open Go.RowKit
set_option linter.unusedVariables false
set_option linter.unusedSimpArgs false
set_option maxHeartbeats 4000000
set_option maxRecDepth 100000

theorem digits_no (e f : Int) (b : Nat) (xn xs : Bool) (xm : Nat) (xq : Int) (dn : Bool) (r : Int) (hO : ∀ W, Calls Tryd.prog 33 #[.agg #[.int .i64 e, .int .i64 f], .int .u64 (b : Int)] W (Says W (.tuple #[.agg #[.bool xn, .int .u64 (xm : Int), .int .i64 xq, .bool xs], .bool false, .agg #[.bool dn, .string ⟨#[]⟩, .int .i64 0], .int .i64 r]))) (w : World) :
    Calls Tryd.prog 16 #[.agg #[.int .i64 e, .int .i64 f], .int .u64 (b : Int)] w (Says w (.tuple #[.agg #[.bool dn, .string ⟨#[]⟩, .int .i64 0], .bool (r == 0), .int .i64 r])) := by
  obtain ⟨t, ht⟩ : ∃ t, t = (r == 0) := ⟨_, rfl⟩
  rw [← ht]
  have ht2 : (r == (0 : Int)) = t := ht.symm
  clear ht
  have hb0 : Below w.heap.size w w := Below.refl _ _
  go_enter Tryd.func16, Tryd.ntmps16
  go_upto_region 1 with fail
  have hv1 : Below w.heap.size w ((w.alloc (.cells #[.int .i64 e, .int .i64 f] 35)).alloc (.cells #[.bool false, .string ⟨#[]⟩, .int .i64 0] 38)) := ((Below.refl _ _).alloc (by first | exact Nat.le_refl _ | (simp; done) | (simp; omega)) _).alloc (by first | exact Nat.le_refl _ | (simp; done) | (simp; omega)) _
  have k1 : Blk ((w.alloc (.cells #[.int .i64 e, .int .i64 f] 35)).alloc (.cells #[.bool false, .string ⟨#[]⟩, .int .i64 0] 38)) (w.heap.size) 35 #[.int .i64 e, .int .i64 f] := (Blk.new w 35 #[.int .i64 e, .int .i64 f]).alloc _
  have k2 : Blk ((w.alloc (.cells #[.int .i64 e, .int .i64 f] 35)).alloc (.cells #[.bool false, .string ⟨#[]⟩, .int .i64 0] 38)) (w.heap.size + 1) 38 #[.bool false, .string ⟨#[]⟩, .int .i64 0] := by
    have := Blk.new (w.alloc (.cells #[.int .i64 e, .int .i64 f] 35)) 38 #[.bool false, .string ⟨#[]⟩, .int .i64 0]
    simpa using this
  replace hb0 := hb0.trans (hv1.mono hb0.size)
  generalize ((w.alloc (.cells #[.int .i64 e, .int .i64 f] 35)).alloc (.cells #[.bool false, .string ⟨#[]⟩, .int .i64 0] 38)) = v1 at *
  clear hv1
  have k1_c0 := k1.cell 0
  have k1_f0 := k1.frozen 0
  have k1_c1 := k1.cell 1
  have k1_f1 := k1.frozen 1
  have k1_z := k1.lt
  have k2_c0 := k2.cell 0
  have k2_f0 := k2.frozen 0
  have k2_c1 := k2.cell 1
  have k2_f1 := k2.frozen 1
  have k2_c2 := k2.cell 2
  have k2_f2 := k2.frozen 2
  have k2_z := k2.lt
  simp only [List.getElem?_toArray, List.getElem?_cons_zero, List.getElem?_cons_succ] at k1_c0 k1_c1 k2_c0 k2_c1 k2_c2
  go_wp2_with fail
  clear k1_c0 k1_f0 k1_c1 k1_f1 k1_z k2_c0 k2_f0 k2_c1 k2_f1 k2_c2 k2_f2 k2_z
  refine (hO _).mono ?_
  rintro e w2 ⟨rfl, hb2⟩
  replace hb0 := hb0.trans (hb2.mono hb0.size)
  replace k1 := k1.below hb2 k1.lt
  replace k2 := k2.below hb2 k2.lt
  clear hb2
  go_upto_region 2 with fail
  have l3 : w.heap.size + 1 < w2.heap.size := k2.lt
  have hv3 : Below w2.heap.size w2 ((w2.alloc (.cells #[.bool xn, .int .u64 (xm : Int), .int .i64 xq, .bool xs] 69)).alloc (.cells #[.bool dn, .string ⟨#[]⟩, .int .i64 0] 38)) := ((Below.refl _ _).alloc (by first | exact Nat.le_refl _ | (simp; done) | (simp; omega)) _).alloc (by first | exact Nat.le_refl _ | (simp; done) | (simp; omega)) _
  have k3 : Blk ((w2.alloc (.cells #[.bool xn, .int .u64 (xm : Int), .int .i64 xq, .bool xs] 69)).alloc (.cells #[.bool dn, .string ⟨#[]⟩, .int .i64 0] 38)) (w2.heap.size) 69 #[.bool xn, .int .u64 (xm : Int), .int .i64 xq, .bool xs] := (Blk.new w2 69 #[.bool xn, .int .u64 (xm : Int), .int .i64 xq, .bool xs]).alloc _
  have k4 : Blk ((w2.alloc (.cells #[.bool xn, .int .u64 (xm : Int), .int .i64 xq, .bool xs] 69)).alloc (.cells #[.bool dn, .string ⟨#[]⟩, .int .i64 0] 38)) (w2.heap.size + 1) 38 #[.bool dn, .string ⟨#[]⟩, .int .i64 0] := by
    have := Blk.new (w2.alloc (.cells #[.bool xn, .int .u64 (xm : Int), .int .i64 xq, .bool xs] 69)) 38 #[.bool dn, .string ⟨#[]⟩, .int .i64 0]
    simpa using this
  replace hb0 := hb0.trans (hv3.mono hb0.size)
  replace k1 := k1.below hv3 k1.lt
  replace k2 := k2.below hv3 k2.lt
  generalize ((w2.alloc (.cells #[.bool xn, .int .u64 (xm : Int), .int .i64 xq, .bool xs] 69)).alloc (.cells #[.bool dn, .string ⟨#[]⟩, .int .i64 0] 38)) = v3 at *
  clear hv3
  have k1_c0 := k1.cell 0
  have k1_f0 := k1.frozen 0
  have k1_c1 := k1.cell 1
  have k1_f1 := k1.frozen 1
  have k1_z := k1.lt
  have k2_c0 := k2.cell 0
  have k2_f0 := k2.frozen 0
  have k2_c1 := k2.cell 1
  have k2_f1 := k2.frozen 1
  have k2_c2 := k2.cell 2
  have k2_f2 := k2.frozen 2
  have k2_z := k2.lt
  have k3_c0 := k3.cell 0
  have k3_f0 := k3.frozen 0
  have k3_c1 := k3.cell 1
  have k3_f1 := k3.frozen 1
  have k3_c2 := k3.cell 2
  have k3_f2 := k3.frozen 2
  have k3_c3 := k3.cell 3
  have k3_f3 := k3.frozen 3
  have k3_z := k3.lt
  have k4_c0 := k4.cell 0
  have k4_f0 := k4.frozen 0
  have k4_c1 := k4.cell 1
  have k4_f1 := k4.frozen 1
  have k4_c2 := k4.cell 2
  have k4_f2 := k4.frozen 2
  have k4_z := k4.lt
  simp only [List.getElem?_toArray, List.getElem?_cons_zero, List.getElem?_cons_succ] at k1_c0 k1_c1 k2_c0 k2_c1 k2_c2 k3_c0 k3_c1 k3_c2 k3_c3 k4_c0 k4_c1 k4_c2
  go_wp2
  refine bodyPost_ret (v := .tuple #[.agg #[.bool dn, .string ⟨#[]⟩, .int .i64 0], .bool t, .int .i64 r]) ?_ rfl ⟨rfl, (((hb0.setCell (p := ⟨w.heap.size + 1, 0, none⟩) (by simp) _).setCell (p := ⟨w.heap.size + 1, 1, none⟩) (by simp) _).setCell (p := ⟨w.heap.size + 1, 2, none⟩) (by simp) _)⟩
  refine results_cell_tmp2 rfl _ _ (w.heap.size + 1) _ _ _ _ _ _ ?_ ?_ ?_ (((k2.set_ 0 _).set_ 1 _).set_ 2 _) Tryd.underlying38 rfl (by kernel_rfl)
  · rfl
  · rfl
  · rfl

theorem some_err (e f : Int) (b : Nat) (xn xs : Bool) (xm : Nat) (xq : Int) (dn : Bool) (r : Int) (ok : Bool) (D : Int) (hr : r ≠ 0) (hO : ∀ W, Calls Tryd.prog 33 #[.agg #[.int .i64 e, .int .i64 f], .int .u64 (b : Int)] W (Says W (.tuple #[.agg #[.bool xn, .int .u64 (xm : Int), .int .i64 xq, .bool xs], .bool ok, .agg #[.bool dn, .string ⟨#[]⟩, .int .i64 0], .int .i64 r]))) (w : World) :
    Calls Tryd.prog 19 #[.agg #[.int .i64 e, .int .i64 f], .int .u64 (b : Int), .int .i64 D] w (Says w (.tuple #[.agg #[.bool false, .string ⟨#[]⟩, .int .i64 0], .bool false, .int .i64 r])) := by
  have hr2 : (r != (0 : Int)) = true := by simpa using hr
  have hb0 : Below w.heap.size w w := Below.refl _ _
  go_enter Tryd.func19, Tryd.ntmps19
  go_upto_region 1 with fail
  have hv1 : Below w.heap.size w ((w.alloc (.cells #[.int .i64 e, .int .i64 f] 35)).alloc (.cells #[.bool false, .string ⟨#[]⟩, .int .i64 0] 38)) := ((Below.refl _ _).alloc (by first | exact Nat.le_refl _ | (simp; done) | (simp; omega)) _).alloc (by first | exact Nat.le_refl _ | (simp; done) | (simp; omega)) _
  have k1 : Blk ((w.alloc (.cells #[.int .i64 e, .int .i64 f] 35)).alloc (.cells #[.bool false, .string ⟨#[]⟩, .int .i64 0] 38)) (w.heap.size) 35 #[.int .i64 e, .int .i64 f] := (Blk.new w 35 #[.int .i64 e, .int .i64 f]).alloc _
  have k2 : Blk ((w.alloc (.cells #[.int .i64 e, .int .i64 f] 35)).alloc (.cells #[.bool false, .string ⟨#[]⟩, .int .i64 0] 38)) (w.heap.size + 1) 38 #[.bool false, .string ⟨#[]⟩, .int .i64 0] := by
    have := Blk.new (w.alloc (.cells #[.int .i64 e, .int .i64 f] 35)) 38 #[.bool false, .string ⟨#[]⟩, .int .i64 0]
    simpa using this
  replace hb0 := hb0.trans (hv1.mono hb0.size)
  generalize ((w.alloc (.cells #[.int .i64 e, .int .i64 f] 35)).alloc (.cells #[.bool false, .string ⟨#[]⟩, .int .i64 0] 38)) = v1 at *
  clear hv1
  have k1_c0 := k1.cell 0
  have k1_f0 := k1.frozen 0
  have k1_c1 := k1.cell 1
  have k1_f1 := k1.frozen 1
  have k1_z := k1.lt
  have k2_c0 := k2.cell 0
  have k2_f0 := k2.frozen 0
  have k2_c1 := k2.cell 1
  have k2_f1 := k2.frozen 1
  have k2_c2 := k2.cell 2
  have k2_f2 := k2.frozen 2
  have k2_z := k2.lt
  simp only [List.getElem?_toArray, List.getElem?_cons_zero, List.getElem?_cons_succ] at k1_c0 k1_c1 k2_c0 k2_c1 k2_c2
  go_wp2_with fail
  clear k1_c0 k1_f0 k1_c1 k1_f1 k1_z k2_c0 k2_f0 k2_c1 k2_f1 k2_c2 k2_f2 k2_z
  refine (hO _).mono ?_
  rintro e w2 ⟨rfl, hb2⟩
  replace hb0 := hb0.trans (hb2.mono hb0.size)
  replace k1 := k1.below hb2 k1.lt
  replace k2 := k2.below hb2 k2.lt
  clear hb2
  go_upto_region 2 with fail
  have l3 : w.heap.size + 1 < w2.heap.size := k2.lt
  have hv3 : Below w2.heap.size w2 ((w2.alloc (.cells #[.bool xn, .int .u64 (xm : Int), .int .i64 xq, .bool xs] 69)).alloc (.cells #[.bool dn, .string ⟨#[]⟩, .int .i64 0] 38)) := ((Below.refl _ _).alloc (by first | exact Nat.le_refl _ | (simp; done) | (simp; omega)) _).alloc (by first | exact Nat.le_refl _ | (simp; done) | (simp; omega)) _
  have k3 : Blk ((w2.alloc (.cells #[.bool xn, .int .u64 (xm : Int), .int .i64 xq, .bool xs] 69)).alloc (.cells #[.bool dn, .string ⟨#[]⟩, .int .i64 0] 38)) (w2.heap.size) 69 #[.bool xn, .int .u64 (xm : Int), .int .i64 xq, .bool xs] := (Blk.new w2 69 #[.bool xn, .int .u64 (xm : Int), .int .i64 xq, .bool xs]).alloc _
  have k4 : Blk ((w2.alloc (.cells #[.bool xn, .int .u64 (xm : Int), .int .i64 xq, .bool xs] 69)).alloc (.cells #[.bool dn, .string ⟨#[]⟩, .int .i64 0] 38)) (w2.heap.size + 1) 38 #[.bool dn, .string ⟨#[]⟩, .int .i64 0] := by
    have := Blk.new (w2.alloc (.cells #[.bool xn, .int .u64 (xm : Int), .int .i64 xq, .bool xs] 69)) 38 #[.bool dn, .string ⟨#[]⟩, .int .i64 0]
    simpa using this
  replace hb0 := hb0.trans (hv3.mono hb0.size)
  replace k1 := k1.below hv3 k1.lt
  replace k2 := k2.below hv3 k2.lt
  generalize ((w2.alloc (.cells #[.bool xn, .int .u64 (xm : Int), .int .i64 xq, .bool xs] 69)).alloc (.cells #[.bool dn, .string ⟨#[]⟩, .int .i64 0] 38)) = v3 at *
  clear hv3
  have k1_c0 := k1.cell 0
  have k1_f0 := k1.frozen 0
  have k1_c1 := k1.cell 1
  have k1_f1 := k1.frozen 1
  have k1_z := k1.lt
  have k2_c0 := k2.cell 0
  have k2_f0 := k2.frozen 0
  have k2_c1 := k2.cell 1
  have k2_f1 := k2.frozen 1
  have k2_c2 := k2.cell 2
  have k2_f2 := k2.frozen 2
  have k2_z := k2.lt
  have k3_c0 := k3.cell 0
  have k3_f0 := k3.frozen 0
  have k3_c1 := k3.cell 1
  have k3_f1 := k3.frozen 1
  have k3_c2 := k3.cell 2
  have k3_f2 := k3.frozen 2
  have k3_c3 := k3.cell 3
  have k3_f3 := k3.frozen 3
  have k3_z := k3.lt
  have k4_c0 := k4.cell 0
  have k4_f0 := k4.frozen 0
  have k4_c1 := k4.cell 1
  have k4_f1 := k4.frozen 1
  have k4_c2 := k4.cell 2
  have k4_f2 := k4.frozen 2
  have k4_z := k4.lt
  simp only [List.getElem?_toArray, List.getElem?_cons_zero, List.getElem?_cons_succ] at k1_c0 k1_c1 k2_c0 k2_c1 k2_c2 k3_c0 k3_c1 k3_c2 k3_c3 k4_c0 k4_c1 k4_c2
  go_wp2
  refine bodyPost_ret (v := .tuple #[.agg #[.bool false, .string ⟨#[]⟩, .int .i64 0], .bool false, .int .i64 r]) ?_ rfl ⟨rfl, (((hb0.setCell (p := ⟨w.heap.size + 1, 0, none⟩) (by simp) _).setCell (p := ⟨w.heap.size + 1, 1, none⟩) (by simp) _).setCell (p := ⟨w.heap.size + 1, 2, none⟩) (by simp) _)⟩
  refine results_cell_tmp2 rfl _ _ (w.heap.size + 1) _ _ _ _ _ _ ?_ ?_ ?_ (((k2.set_ 0 _).set_ 1 _).set_ 2 _) Tryd.underlying38 rfl (by kernel_rfl)
  · rfl
  · rfl
  · rfl

theorem some_places_lo (e f : Int) (b : Nat) (xn xs : Bool) (xm : Nat) (xq : Int) (dn : Bool) (ok : Bool) (D : Int) (hD : D < 1) (hO : ∀ W, Calls Tryd.prog 33 #[.agg #[.int .i64 e, .int .i64 f], .int .u64 (b : Int)] W (Says W (.tuple #[.agg #[.bool xn, .int .u64 (xm : Int), .int .i64 xq, .bool xs], .bool ok, .agg #[.bool dn, .string ⟨#[]⟩, .int .i64 0], .int .i64 0]))) (w : World) :
    Calls Tryd.prog 19 #[.agg #[.int .i64 e, .int .i64 f], .int .u64 (b : Int), .int .i64 D] w (Says w (.tuple #[.agg #[.bool false, .string ⟨#[]⟩, .int .i64 0], .bool false, .int .i64 101])) := by
  have g1 : decide (D < 1) = true := by simpa using hD
  clear hD
  have hb0 : Below w.heap.size w w := Below.refl _ _
  go_enter Tryd.func19, Tryd.ntmps19
  go_upto_region 1 with fail
  have hv1 : Below w.heap.size w ((w.alloc (.cells #[.int .i64 e, .int .i64 f] 35)).alloc (.cells #[.bool false, .string ⟨#[]⟩, .int .i64 0] 38)) := ((Below.refl _ _).alloc (by first | exact Nat.le_refl _ | (simp; done) | (simp; omega)) _).alloc (by first | exact Nat.le_refl _ | (simp; done) | (simp; omega)) _
  have k1 : Blk ((w.alloc (.cells #[.int .i64 e, .int .i64 f] 35)).alloc (.cells #[.bool false, .string ⟨#[]⟩, .int .i64 0] 38)) (w.heap.size) 35 #[.int .i64 e, .int .i64 f] := (Blk.new w 35 #[.int .i64 e, .int .i64 f]).alloc _
  have k2 : Blk ((w.alloc (.cells #[.int .i64 e, .int .i64 f] 35)).alloc (.cells #[.bool false, .string ⟨#[]⟩, .int .i64 0] 38)) (w.heap.size + 1) 38 #[.bool false, .string ⟨#[]⟩, .int .i64 0] := by
    have := Blk.new (w.alloc (.cells #[.int .i64 e, .int .i64 f] 35)) 38 #[.bool false, .string ⟨#[]⟩, .int .i64 0]
    simpa using this
  replace hb0 := hb0.trans (hv1.mono hb0.size)
  generalize ((w.alloc (.cells #[.int .i64 e, .int .i64 f] 35)).alloc (.cells #[.bool false, .string ⟨#[]⟩, .int .i64 0] 38)) = v1 at *
  clear hv1
  have k1_c0 := k1.cell 0
  have k1_f0 := k1.frozen 0
  have k1_c1 := k1.cell 1
  have k1_f1 := k1.frozen 1
  have k1_z := k1.lt
  have k2_c0 := k2.cell 0
  have k2_f0 := k2.frozen 0
  have k2_c1 := k2.cell 1
  have k2_f1 := k2.frozen 1
  have k2_c2 := k2.cell 2
  have k2_f2 := k2.frozen 2
  have k2_z := k2.lt
  simp only [List.getElem?_toArray, List.getElem?_cons_zero, List.getElem?_cons_succ] at k1_c0 k1_c1 k2_c0 k2_c1 k2_c2
  go_wp2_with fail
  clear k1_c0 k1_f0 k1_c1 k1_f1 k1_z k2_c0 k2_f0 k2_c1 k2_f1 k2_c2 k2_f2 k2_z
  refine (hO _).mono ?_
  rintro e w2 ⟨rfl, hb2⟩
  replace hb0 := hb0.trans (hb2.mono hb0.size)
  replace k1 := k1.below hb2 k1.lt
  replace k2 := k2.below hb2 k2.lt
  clear hb2
  go_upto_region 2 with fail
  have l3 : w.heap.size + 1 < w2.heap.size := k2.lt
  have hv3 : Below w2.heap.size w2 ((w2.alloc (.cells #[.bool xn, .int .u64 (xm : Int), .int .i64 xq, .bool xs] 69)).alloc (.cells #[.bool dn, .string ⟨#[]⟩, .int .i64 0] 38)) := ((Below.refl _ _).alloc (by first | exact Nat.le_refl _ | (simp; done) | (simp; omega)) _).alloc (by first | exact Nat.le_refl _ | (simp; done) | (simp; omega)) _
  have k3 : Blk ((w2.alloc (.cells #[.bool xn, .int .u64 (xm : Int), .int .i64 xq, .bool xs] 69)).alloc (.cells #[.bool dn, .string ⟨#[]⟩, .int .i64 0] 38)) (w2.heap.size) 69 #[.bool xn, .int .u64 (xm : Int), .int .i64 xq, .bool xs] := (Blk.new w2 69 #[.bool xn, .int .u64 (xm : Int), .int .i64 xq, .bool xs]).alloc _
  have k4 : Blk ((w2.alloc (.cells #[.bool xn, .int .u64 (xm : Int), .int .i64 xq, .bool xs] 69)).alloc (.cells #[.bool dn, .string ⟨#[]⟩, .int .i64 0] 38)) (w2.heap.size + 1) 38 #[.bool dn, .string ⟨#[]⟩, .int .i64 0] := by
    have := Blk.new (w2.alloc (.cells #[.bool xn, .int .u64 (xm : Int), .int .i64 xq, .bool xs] 69)) 38 #[.bool dn, .string ⟨#[]⟩, .int .i64 0]
    simpa using this
  replace hb0 := hb0.trans (hv3.mono hb0.size)
  replace k1 := k1.below hv3 k1.lt
  replace k2 := k2.below hv3 k2.lt
  generalize ((w2.alloc (.cells #[.bool xn, .int .u64 (xm : Int), .int .i64 xq, .bool xs] 69)).alloc (.cells #[.bool dn, .string ⟨#[]⟩, .int .i64 0] 38)) = v3 at *
  clear hv3
  have k1_c0 := k1.cell 0
  have k1_f0 := k1.frozen 0
  have k1_c1 := k1.cell 1
  have k1_f1 := k1.frozen 1
  have k1_z := k1.lt
  have k2_c0 := k2.cell 0
  have k2_f0 := k2.frozen 0
  have k2_c1 := k2.cell 1
  have k2_f1 := k2.frozen 1
  have k2_c2 := k2.cell 2
  have k2_f2 := k2.frozen 2
  have k2_z := k2.lt
  have k3_c0 := k3.cell 0
  have k3_f0 := k3.frozen 0
  have k3_c1 := k3.cell 1
  have k3_f1 := k3.frozen 1
  have k3_c2 := k3.cell 2
  have k3_f2 := k3.frozen 2
  have k3_c3 := k3.cell 3
  have k3_f3 := k3.frozen 3
  have k3_z := k3.lt
  have k4_c0 := k4.cell 0
  have k4_f0 := k4.frozen 0
  have k4_c1 := k4.cell 1
  have k4_f1 := k4.frozen 1
  have k4_c2 := k4.cell 2
  have k4_f2 := k4.frozen 2
  have k4_z := k4.lt
  simp only [List.getElem?_toArray, List.getElem?_cons_zero, List.getElem?_cons_succ] at k1_c0 k1_c1 k2_c0 k2_c1 k2_c2 k3_c0 k3_c1 k3_c2 k3_c3 k4_c0 k4_c1 k4_c2
  go_wp2
  refine bodyPost_ret (v := .tuple #[.agg #[.bool false, .string ⟨#[]⟩, .int .i64 0], .bool false, .int .i64 101]) ?_ rfl ⟨rfl, (((hb0.setCell (p := ⟨w.heap.size + 1, 0, none⟩) (by simp) _).setCell (p := ⟨w.heap.size + 1, 1, none⟩) (by simp) _).setCell (p := ⟨w.heap.size + 1, 2, none⟩) (by simp) _)⟩
  refine results_cell_tmp2 rfl _ _ (w.heap.size + 1) _ _ _ _ _ _ ?_ ?_ ?_ (((k2.set_ 0 _).set_ 1 _).set_ 2 _) Tryd.underlying38 rfl (by kernel_rfl)
  · rfl
  · rfl
  · rfl

theorem some_places_hi (e f : Int) (b : Nat) (xn xs : Bool) (xm : Nat) (xq : Int) (dn : Bool) (ok : Bool) (D : Int) (hD : 17 < D) (hO : ∀ W, Calls Tryd.prog 33 #[.agg #[.int .i64 e, .int .i64 f], .int .u64 (b : Int)] W (Says W (.tuple #[.agg #[.bool xn, .int .u64 (xm : Int), .int .i64 xq, .bool xs], .bool ok, .agg #[.bool dn, .string ⟨#[]⟩, .int .i64 0], .int .i64 0]))) (w : World) :
    Calls Tryd.prog 19 #[.agg #[.int .i64 e, .int .i64 f], .int .u64 (b : Int), .int .i64 D] w (Says w (.tuple #[.agg #[.bool false, .string ⟨#[]⟩, .int .i64 0], .bool false, .int .i64 101])) := by
  have g1 : decide (D < 1) = false := by simp; omega
  have g2 : decide (17 < D) = true := by simpa using hD
  clear hD
  have hb0 : Below w.heap.size w w := Below.refl _ _
  go_enter Tryd.func19, Tryd.ntmps19
  go_upto_region 1 with fail
  have hv1 : Below w.heap.size w ((w.alloc (.cells #[.int .i64 e, .int .i64 f] 35)).alloc (.cells #[.bool false, .string ⟨#[]⟩, .int .i64 0] 38)) := ((Below.refl _ _).alloc (by first | exact Nat.le_refl _ | (simp; done) | (simp; omega)) _).alloc (by first | exact Nat.le_refl _ | (simp; done) | (simp; omega)) _
  have k1 : Blk ((w.alloc (.cells #[.int .i64 e, .int .i64 f] 35)).alloc (.cells #[.bool false, .string ⟨#[]⟩, .int .i64 0] 38)) (w.heap.size) 35 #[.int .i64 e, .int .i64 f] := (Blk.new w 35 #[.int .i64 e, .int .i64 f]).alloc _
  have k2 : Blk ((w.alloc (.cells #[.int .i64 e, .int .i64 f] 35)).alloc (.cells #[.bool false, .string ⟨#[]⟩, .int .i64 0] 38)) (w.heap.size + 1) 38 #[.bool false, .string ⟨#[]⟩, .int .i64 0] := by
    have := Blk.new (w.alloc (.cells #[.int .i64 e, .int .i64 f] 35)) 38 #[.bool false, .string ⟨#[]⟩, .int .i64 0]
    simpa using this
  replace hb0 := hb0.trans (hv1.mono hb0.size)
  generalize ((w.alloc (.cells #[.int .i64 e, .int .i64 f] 35)).alloc (.cells #[.bool false, .string ⟨#[]⟩, .int .i64 0] 38)) = v1 at *
  clear hv1
  have k1_c0 := k1.cell 0
  have k1_f0 := k1.frozen 0
  have k1_c1 := k1.cell 1
  have k1_f1 := k1.frozen 1
  have k1_z := k1.lt
  have k2_c0 := k2.cell 0
  have k2_f0 := k2.frozen 0
  have k2_c1 := k2.cell 1
  have k2_f1 := k2.frozen 1
  have k2_c2 := k2.cell 2
  have k2_f2 := k2.frozen 2
  have k2_z := k2.lt
  simp only [List.getElem?_toArray, List.getElem?_cons_zero, List.getElem?_cons_succ] at k1_c0 k1_c1 k2_c0 k2_c1 k2_c2
  go_wp2_with fail
  clear k1_c0 k1_f0 k1_c1 k1_f1 k1_z k2_c0 k2_f0 k2_c1 k2_f1 k2_c2 k2_f2 k2_z
  refine (hO _).mono ?_
  rintro e w2 ⟨rfl, hb2⟩
  replace hb0 := hb0.trans (hb2.mono hb0.size)
  replace k1 := k1.below hb2 k1.lt
  replace k2 := k2.below hb2 k2.lt
  clear hb2
  go_upto_region 2 with fail
  have l3 : w.heap.size + 1 < w2.heap.size := k2.lt
  have hv3 : Below w2.heap.size w2 ((w2.alloc (.cells #[.bool xn, .int .u64 (xm : Int), .int .i64 xq, .bool xs] 69)).alloc (.cells #[.bool dn, .string ⟨#[]⟩, .int .i64 0] 38)) := ((Below.refl _ _).alloc (by first | exact Nat.le_refl _ | (simp; done) | (simp; omega)) _).alloc (by first | exact Nat.le_refl _ | (simp; done) | (simp; omega)) _
  have k3 : Blk ((w2.alloc (.cells #[.bool xn, .int .u64 (xm : Int), .int .i64 xq, .bool xs] 69)).alloc (.cells #[.bool dn, .string ⟨#[]⟩, .int .i64 0] 38)) (w2.heap.size) 69 #[.bool xn, .int .u64 (xm : Int), .int .i64 xq, .bool xs] := (Blk.new w2 69 #[.bool xn, .int .u64 (xm : Int), .int .i64 xq, .bool xs]).alloc _
  have k4 : Blk ((w2.alloc (.cells #[.bool xn, .int .u64 (xm : Int), .int .i64 xq, .bool xs] 69)).alloc (.cells #[.bool dn, .string ⟨#[]⟩, .int .i64 0] 38)) (w2.heap.size + 1) 38 #[.bool dn, .string ⟨#[]⟩, .int .i64 0] := by
    have := Blk.new (w2.alloc (.cells #[.bool xn, .int .u64 (xm : Int), .int .i64 xq, .bool xs] 69)) 38 #[.bool dn, .string ⟨#[]⟩, .int .i64 0]
    simpa using this
  replace hb0 := hb0.trans (hv3.mono hb0.size)
  replace k1 := k1.below hv3 k1.lt
  replace k2 := k2.below hv3 k2.lt
  generalize ((w2.alloc (.cells #[.bool xn, .int .u64 (xm : Int), .int .i64 xq, .bool xs] 69)).alloc (.cells #[.bool dn, .string ⟨#[]⟩, .int .i64 0] 38)) = v3 at *
  clear hv3
  have k1_c0 := k1.cell 0
  have k1_f0 := k1.frozen 0
  have k1_c1 := k1.cell 1
  have k1_f1 := k1.frozen 1
  have k1_z := k1.lt
  have k2_c0 := k2.cell 0
  have k2_f0 := k2.frozen 0
  have k2_c1 := k2.cell 1
  have k2_f1 := k2.frozen 1
  have k2_c2 := k2.cell 2
  have k2_f2 := k2.frozen 2
  have k2_z := k2.lt
  have k3_c0 := k3.cell 0
  have k3_f0 := k3.frozen 0
  have k3_c1 := k3.cell 1
  have k3_f1 := k3.frozen 1
  have k3_c2 := k3.cell 2
  have k3_f2 := k3.frozen 2
  have k3_c3 := k3.cell 3
  have k3_f3 := k3.frozen 3
  have k3_z := k3.lt
  have k4_c0 := k4.cell 0
  have k4_f0 := k4.frozen 0
  have k4_c1 := k4.cell 1
  have k4_f1 := k4.frozen 1
  have k4_c2 := k4.cell 2
  have k4_f2 := k4.frozen 2
  have k4_z := k4.lt
  simp only [List.getElem?_toArray, List.getElem?_cons_zero, List.getElem?_cons_succ] at k1_c0 k1_c1 k2_c0 k2_c1 k2_c2 k3_c0 k3_c1 k3_c2 k3_c3 k4_c0 k4_c1 k4_c2
  go_wp2
  refine bodyPost_ret (v := .tuple #[.agg #[.bool false, .string ⟨#[]⟩, .int .i64 0], .bool false, .int .i64 101]) ?_ rfl ⟨rfl, (((hb0.setCell (p := ⟨w.heap.size + 1, 0, none⟩) (by simp) _).setCell (p := ⟨w.heap.size + 1, 1, none⟩) (by simp) _).setCell (p := ⟨w.heap.size + 1, 2, none⟩) (by simp) _)⟩
  refine results_cell_tmp2 rfl _ _ (w.heap.size + 1) _ _ _ _ _ _ ?_ ?_ ?_ (((k2.set_ 0 _).set_ 1 _).set_ 2 _) Tryd.underlying38 rfl (by kernel_rfl)
  · rfl
  · rfl
  · rfl

theorem some_no (e f : Int) (b : Nat) (xn xs : Bool) (xm : Nat) (xq : Int) (dn : Bool) (D : Int) (hD : 1 ≤ D ∧ D ≤ 17) (hO : ∀ W, Calls Tryd.prog 33 #[.agg #[.int .i64 e, .int .i64 f], .int .u64 (b : Int)] W (Says W (.tuple #[.agg #[.bool xn, .int .u64 (xm : Int), .int .i64 xq, .bool xs], .bool false, .agg #[.bool dn, .string ⟨#[]⟩, .int .i64 0], .int .i64 0]))) (w : World) :
    Calls Tryd.prog 19 #[.agg #[.int .i64 e, .int .i64 f], .int .u64 (b : Int), .int .i64 D] w (Says w (.tuple #[.agg #[.bool dn, .string ⟨#[]⟩, .int .i64 0], .bool true, .int .i64 0])) := by
  have g1 : decide (D < 1) = false := by simp; omega
  have g2 : decide (17 < D) = false := by simp; omega
  clear hD
  have hb0 : Below w.heap.size w w := Below.refl _ _
  go_enter Tryd.func19, Tryd.ntmps19
  go_upto_region 1 with fail
  have hv1 : Below w.heap.size w ((w.alloc (.cells #[.int .i64 e, .int .i64 f] 35)).alloc (.cells #[.bool false, .string ⟨#[]⟩, .int .i64 0] 38)) := ((Below.refl _ _).alloc (by first | exact Nat.le_refl _ | (simp; done) | (simp; omega)) _).alloc (by first | exact Nat.le_refl _ | (simp; done) | (simp; omega)) _
  have k1 : Blk ((w.alloc (.cells #[.int .i64 e, .int .i64 f] 35)).alloc (.cells #[.bool false, .string ⟨#[]⟩, .int .i64 0] 38)) (w.heap.size) 35 #[.int .i64 e, .int .i64 f] := (Blk.new w 35 #[.int .i64 e, .int .i64 f]).alloc _
  have k2 : Blk ((w.alloc (.cells #[.int .i64 e, .int .i64 f] 35)).alloc (.cells #[.bool false, .string ⟨#[]⟩, .int .i64 0] 38)) (w.heap.size + 1) 38 #[.bool false, .string ⟨#[]⟩, .int .i64 0] := by
    have := Blk.new (w.alloc (.cells #[.int .i64 e, .int .i64 f] 35)) 38 #[.bool false, .string ⟨#[]⟩, .int .i64 0]
    simpa using this
  replace hb0 := hb0.trans (hv1.mono hb0.size)
  generalize ((w.alloc (.cells #[.int .i64 e, .int .i64 f] 35)).alloc (.cells #[.bool false, .string ⟨#[]⟩, .int .i64 0] 38)) = v1 at *
  clear hv1
  have k1_c0 := k1.cell 0
  have k1_f0 := k1.frozen 0
  have k1_c1 := k1.cell 1
  have k1_f1 := k1.frozen 1
  have k1_z := k1.lt
  have k2_c0 := k2.cell 0
  have k2_f0 := k2.frozen 0
  have k2_c1 := k2.cell 1
  have k2_f1 := k2.frozen 1
  have k2_c2 := k2.cell 2
  have k2_f2 := k2.frozen 2
  have k2_z := k2.lt
  simp only [List.getElem?_toArray, List.getElem?_cons_zero, List.getElem?_cons_succ] at k1_c0 k1_c1 k2_c0 k2_c1 k2_c2
  go_wp2_with fail
  clear k1_c0 k1_f0 k1_c1 k1_f1 k1_z k2_c0 k2_f0 k2_c1 k2_f1 k2_c2 k2_f2 k2_z
  refine (hO _).mono ?_
  rintro e w2 ⟨rfl, hb2⟩
  replace hb0 := hb0.trans (hb2.mono hb0.size)
  replace k1 := k1.below hb2 k1.lt
  replace k2 := k2.below hb2 k2.lt
  clear hb2
  go_upto_region 2 with fail
  have l3 : w.heap.size + 1 < w2.heap.size := k2.lt
  have hv3 : Below w2.heap.size w2 ((w2.alloc (.cells #[.bool xn, .int .u64 (xm : Int), .int .i64 xq, .bool xs] 69)).alloc (.cells #[.bool dn, .string ⟨#[]⟩, .int .i64 0] 38)) := ((Below.refl _ _).alloc (by first | exact Nat.le_refl _ | (simp; done) | (simp; omega)) _).alloc (by first | exact Nat.le_refl _ | (simp; done) | (simp; omega)) _
  have k3 : Blk ((w2.alloc (.cells #[.bool xn, .int .u64 (xm : Int), .int .i64 xq, .bool xs] 69)).alloc (.cells #[.bool dn, .string ⟨#[]⟩, .int .i64 0] 38)) (w2.heap.size) 69 #[.bool xn, .int .u64 (xm : Int), .int .i64 xq, .bool xs] := (Blk.new w2 69 #[.bool xn, .int .u64 (xm : Int), .int .i64 xq, .bool xs]).alloc _
  have k4 : Blk ((w2.alloc (.cells #[.bool xn, .int .u64 (xm : Int), .int .i64 xq, .bool xs] 69)).alloc (.cells #[.bool dn, .string ⟨#[]⟩, .int .i64 0] 38)) (w2.heap.size + 1) 38 #[.bool dn, .string ⟨#[]⟩, .int .i64 0] := by
    have := Blk.new (w2.alloc (.cells #[.bool xn, .int .u64 (xm : Int), .int .i64 xq, .bool xs] 69)) 38 #[.bool dn, .string ⟨#[]⟩, .int .i64 0]
    simpa using this
  replace hb0 := hb0.trans (hv3.mono hb0.size)
  replace k1 := k1.below hv3 k1.lt
  replace k2 := k2.below hv3 k2.lt
  generalize ((w2.alloc (.cells #[.bool xn, .int .u64 (xm : Int), .int .i64 xq, .bool xs] 69)).alloc (.cells #[.bool dn, .string ⟨#[]⟩, .int .i64 0] 38)) = v3 at *
  clear hv3
  have k1_c0 := k1.cell 0
  have k1_f0 := k1.frozen 0
  have k1_c1 := k1.cell 1
  have k1_f1 := k1.frozen 1
  have k1_z := k1.lt
  have k2_c0 := k2.cell 0
  have k2_f0 := k2.frozen 0
  have k2_c1 := k2.cell 1
  have k2_f1 := k2.frozen 1
  have k2_c2 := k2.cell 2
  have k2_f2 := k2.frozen 2
  have k2_z := k2.lt
  have k3_c0 := k3.cell 0
  have k3_f0 := k3.frozen 0
  have k3_c1 := k3.cell 1
  have k3_f1 := k3.frozen 1
  have k3_c2 := k3.cell 2
  have k3_f2 := k3.frozen 2
  have k3_c3 := k3.cell 3
  have k3_f3 := k3.frozen 3
  have k3_z := k3.lt
  have k4_c0 := k4.cell 0
  have k4_f0 := k4.frozen 0
  have k4_c1 := k4.cell 1
  have k4_f1 := k4.frozen 1
  have k4_c2 := k4.cell 2
  have k4_f2 := k4.frozen 2
  have k4_z := k4.lt
  simp only [List.getElem?_toArray, List.getElem?_cons_zero, List.getElem?_cons_succ] at k1_c0 k1_c1 k2_c0 k2_c1 k2_c2 k3_c0 k3_c1 k3_c2 k3_c3 k4_c0 k4_c1 k4_c2
  go_wp2
  refine bodyPost_ret (v := .tuple #[.agg #[.bool dn, .string ⟨#[]⟩, .int .i64 0], .bool true, .int .i64 0]) ?_ rfl ⟨rfl, (((hb0.setCell (p := ⟨w.heap.size + 1, 0, none⟩) (by simp) _).setCell (p := ⟨w.heap.size + 1, 1, none⟩) (by simp) _).setCell (p := ⟨w.heap.size + 1, 2, none⟩) (by simp) _)⟩
  refine results_cell_tmp2 rfl _ _ (w.heap.size + 1) _ _ _ _ _ _ ?_ ?_ ?_ (((k2.set_ 0 _).set_ 1 _).set_ 2 _) Tryd.underlying38 rfl (by kernel_rfl)
  · rfl
  · rfl
  · rfl

/-- A decimal and its sureness, as one. -/
theorem law19_of (n : Bool) (s : ByteArray) (x : Int) (ok : Bool) (e : Int) (w : World) : Calls Tryd.prog 15 #[.agg #[.bool n, .string s, .int .i64 x], .bool ok, .int .i64 e] w (Says w (.agg #[.bool n, .string s, .int .i64 x, .bool ok, .int .i64 e])) := by
  have hb0 : Below w.heap.size w w := Below.refl _ _
  go_enter Tryd.func15, Tryd.ntmps15
  go_wp2
  refine bodyPost_ret (v := .agg #[.bool n, .string s, .int .i64 x, .bool ok, .int .i64 e]) ?_ rfl ⟨rfl, ((Below.refl _ w).alloc (Nat.le_refl _) _).alloc (by simp) _⟩
  refine results_cell_row rfl _ _ (w.heap.size + 1) _ _ _ _ ?_ (by have := heap_alloc_new (w.alloc (.cells #[.bool n, .string s, .int .i64 x] 38)) (.cells #[.bool n, .string s, .int .i64 x, .bool ok, .int .i64 e] 40); simpa using this) Tryd.underlying40 rfl (by kernel_rfl)
  rfl
theorem law19_d (n : Bool) (s : ByteArray) (x : Int) (w : World) : Calls Tryd.prog 17 #[.bool n, .string s, .int .i64 x] w (Says w (.agg #[.bool n, .string s, .int .i64 x])) := by
  go_enter Tryd.func17, Tryd.ntmps17
  go_wp2
  refine bodyPost_ret (v := .agg #[.bool n, .string s, .int .i64 x]) ?_ rfl ⟨rfl, (Below.refl _ w).alloc (Nat.le_refl _) _⟩
  refine results_cell_row rfl _ _ w.heap.size _ _ _ _ ?_ (heap_alloc_new _ _) Tryd.underlying38 rfl (by kernel_rfl)
  rfl
theorem run_bits64 (b : Nat) (w : World) : (callFunc 18 #[.float .f64 b]).run Tryd.prog w = .ok (.value (.int .u64 (b : Int))) w := by
  rw [run_callFunc_extern (fn := Tryd.f18) (by kernel_rfl) (by kernel_rfl) (by kernel_rfl) (by kernel_rfl) (show Extern.find _ = some Extern.MathFloatBits.float64bits from by kernel_rfl)]
  rfl
theorem forms_Half (w : World) : Calls Tryd.prog 14 #[] w (Says w (.agg #[.int .i64 5, .int .i64 10])) := by
  go_enter Tryd.func14, Tryd.ntmps14
  go_wp2
  go_returns
  exact ⟨rfl, (Below.refl _ _).alloc (Nat.le_refl _) _⟩
theorem cut0 (neg : Bool) (n : Nat) : Ieee.Toward.cut .even neg n 0 = n := by unfold Ieee.Toward.cut; simp [Nat.mod_one]
/-- A whole number below 2^53 as a float. -/
theorem float_of (n L : Nat) (hL : 2 ^ L ≤ n) (hL2 : n < 2 ^ (L + 1)) (h52 : L ≤ 52) : FloatKind.nearest .f64 (n : Int) = (L + 1022) * 4503599627370496 + n * 2 ^ (52 - L) := by
  have hn0 : n ≠ 0 := by have := Nat.two_pow_pos L; omega
  have hlog : n.log2 = L := (Nat.log2_eq_iff hn0).2 ⟨hL, hL2⟩
  have hb : n * 2 ^ (52 - L) < 9007199254740992 := by
    have h1 : n * 2 ^ (52 - L) < 2 ^ (L + 1) * 2 ^ (52 - L) := (Nat.mul_lt_mul_right (Nat.two_pow_pos _)).2 hL2
    rw [← Nat.pow_add, show L + 1 + (52 - L) = 53 by omega] at h1
    exact h1
  unfold FloatKind.nearest FloatKind.encode FloatKind.format Ieee.Format.write Ieee.Format.nearest
  simp only [Int.natAbs_natCast, if_neg hn0, hlog]
  have e1 : (max ((0 : Int) + (L : Int) - (Ieee.double.fractionBits : Int)) Ieee.double.leastPlace) = (L : Int) - 52 := by
    show max ((0 : Int) + (L : Int) - 52) (-1074) = _
    omega
  rw [e1]
  have e2 : ((0 : Int) - ((L : Int) - 52)).toNat = 52 - L := by omega
  have e3 : (((L : Int) - 52) - 0).toNat = 0 := by omega
  have e4 : (((L : Int) - 52) - Ieee.double.leastPlace).toNat = L + 1022 := by
    show (((L : Int) - 52) - (-1074)).toNat = _
    omega
  rw [e2, e3, e4]
  have e5 : Ieee.double.binade = 4503599627370496 := by decide
  have e6 : Ieee.double.infRung = 9218868437227405312 := by decide
  have hneg : decide ((n : Int) < 0) = false := decide_eq_false (by omega)
  rw [e5, e6, Nat.shiftLeft_eq, cut0, hneg]
  generalize n * 2 ^ (52 - L) = M at *
  have hmin : (L + 1022) * 4503599627370496 + M ≤ 9218868437227405312 := by omega
  rw [Nat.min_eq_left hmin]
  rfl

end Go.Proofs.YtenekbfnlbipiaaDoor
