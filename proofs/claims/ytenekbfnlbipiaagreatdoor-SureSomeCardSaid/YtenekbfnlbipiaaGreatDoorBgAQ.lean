/- Walks: the document's Some. -/
import Derived.Test.YtenekbfnlbipiaaGreatDoorBgAN
import Derived.Test.YtenekbfnlbipiaaGreatDoorBgAA
import Derived.Test.YtenekbfnlbipiaaGreatDoorSuR
import Derived.Test.YtenekbfnlbipiaaGreatDoorBgAP
namespace Go.Proofs.YtenekbfnlbipiaaGreatDoor
open Go.RowKit
set_option linter.unusedVariables false
set_option linter.unusedSimpArgs false
set_option maxHeartbeats 4000000
set_option maxRecDepth 100000
namespace Bg
theorem ref19_some_bad (e f : Int) (b : Nat) (D : Int) (hb64 : b < 18446744073709551616) (h : Fo.fitS e f b ≠ 0) (w : World) :
    Calls Tryz.prog 7 #[.agg #[.int .i64 e, .int .i64 f], .int .u64 (b : Int), .int .i64 D] w (Says w (.tuple #[.agg #[.bool false, .string ⟨#[]⟩, .int .i64 0], .bool false, .int .i64 (Fo.fitS e f b)])) := by
  have hA := fun W => ref19_asked_bad e f b hb64 h W
  have hr2 : (Fo.fitS e f b != (0 : Int)) = true := by simpa using h
  have hr3 : (Fo.fitS e f b == (0 : Int)) = false := by simpa using h
  generalize Fo.fitS e f b = r at *
  have hv0 : Below w.heap.size w (w.alloc (.cells #[.int .i64 e, .int .i64 f] 23)) := (Below.refl _ _).alloc (Nat.le_refl _) _
  have k1 : Blk (w.alloc (.cells #[.int .i64 e, .int .i64 f] 23)) w.heap.size 23 #[.int .i64 e, .int .i64 f] := Blk.new w _ _
  obtain ⟨v0, hvv0⟩ : ∃ v0, v0 = w.alloc (.cells #[.int .i64 e, .int .i64 f] 23) := ⟨_, rfl⟩
  rw [← hvv0] at hv0 k1
  have hz0 : v0.heap.size = w.heap.size + 1 := by rw [hvv0]; simp
  have hv1 : Below v0.heap.size v0 (v0.alloc (.cells #[.bool false, .string ⟨#[]⟩, .int .i64 0] 26)) := (Below.refl _ _).alloc (Nat.le_refl _) _
  have k2 : Blk (v0.alloc (.cells #[.bool false, .string ⟨#[]⟩, .int .i64 0] 26)) v0.heap.size 26 #[.bool false, .string ⟨#[]⟩, .int .i64 0] := Blk.new v0 _ _
  replace k1 := k1.below hv1 k1.lt
  have hb0 := hv0.trans (hv1.mono hv0.size)
  go_enter Tryz.func7, Tryz.ntmps7
  go_upto_region 1 with fail
  rw [← hvv0]
  rw [hz0] at k2
  obtain ⟨v1, hvv1⟩ : ∃ v1, v1 = v0.alloc (.cells #[.bool false, .string ⟨#[]⟩, .int .i64 0] 26) := ⟨_, rfl⟩
  rw [← hvv1] at k1 k2 hb0 ⊢
  clear hvv0 hvv1 hv0 hv1 hz0
  have k1_c0 := k1.cell 0
  have k1_c1 := k1.cell 1
  have k1_z := k1.lt
  have k2_c0 := k2.cell 0
  have k2_f0 := k2.frozen 0
  have k2_c1 := k2.cell 1
  have k2_f1 := k2.frozen 1
  have k2_c2 := k2.cell 2
  have k2_f2 := k2.frozen 2
  have k2_z := k2.lt
  simp only [List.getElem?_toArray, List.getElem?_cons_zero, List.getElem?_cons_succ] at k1_c0 k1_c1 k2_c0 k2_c1 k2_c2
  go_wp2_with fail
  clear k1_c0 k1_c1 k1_z k2_c0 k2_f0 k2_c1 k2_f1 k2_c2 k2_f2 k2_z
  refine (hA _).mono ?_
  rintro e w1 ⟨rfl, hb1⟩
  replace k1 := k1.below hb1 k1.lt
  replace k2 := k2.below hb1 k2.lt
  replace hb0 := hb0.trans (hb1.mono hb0.size)
  clear hb1
  have k1_c0 := k1.cell 0
  have k1_c1 := k1.cell 1
  have k1_z := k1.lt
  have k2_c0 := k2.cell 0
  have k2_f0 := k2.frozen 0
  have k2_c1 := k2.cell 1
  have k2_f1 := k2.frozen 1
  have k2_c2 := k2.cell 2
  have k2_f2 := k2.frozen 2
  have k2_z := k2.lt
  simp only [List.getElem?_toArray, List.getElem?_cons_zero, List.getElem?_cons_succ] at k1_c0 k1_c1 k2_c0 k2_c1 k2_c2
  go_wp2
  refine bodyPost_ret (v := .tuple #[.agg #[.bool false, .string ⟨#[]⟩, .int .i64 0], .bool false, .int .i64 r]) ?_ rfl ⟨rfl, (((hb0.setCell (p := ⟨w.heap.size + 1, 0, none⟩) (by simp) _).setCell (p := ⟨w.heap.size + 1, 1, none⟩) (by simp) _).setCell (p := ⟨w.heap.size + 1, 2, none⟩) (by simp) _)⟩
  refine results_cell_tmp2 rfl _ _ (w.heap.size + 1) _ _ _ _ _ _ ?_ ?_ ?_ (((k2.set_ 0 _).set_ 1 _).set_ 2 _) Tryz.underlying26 rfl (by kernel_rfl)
  · rfl
  · rfl
  · rfl
theorem ref19_some_far (E F b X Y : Nat) (ng : Bool) (hE2 : 2 ≤ E) (hE : E ≤ 11) (hF1 : 1 ≤ F) (hF : F ≤ 52) (hb64 : b < 18446744073709551616) (hb : b < 2 ^ (1 + E + F)) (hfit : Fo.fitS (E : Int) (F : Int) b = 0) (hs : Fo.splitF E F b = (ng, X, Y)) (hX : X + 1 = 2 ^ E) (D : Int) (w : World) :
    Calls Tryz.prog 7 #[.agg #[.int .i64 (E : Int), .int .i64 (F : Int)], .int .u64 (b : Int), .int .i64 D] w (Says w (.tuple #[.agg #[.bool false, .string ⟨#[]⟩, .int .i64 0], .bool false, .int .i64 8])) := by
  have hA := fun W => ref19_asked E F b X hE2 hE hF1 hF hb64 hb hfit (split_facts hb hs).1 W
  rw [if_pos hX] at hA
  clear hb hs hfit hX
  have hv0 : Below w.heap.size w (w.alloc (.cells #[.int .i64 (E : Int), .int .i64 (F : Int)] 23)) := (Below.refl _ _).alloc (Nat.le_refl _) _
  have k1 : Blk (w.alloc (.cells #[.int .i64 (E : Int), .int .i64 (F : Int)] 23)) w.heap.size 23 #[.int .i64 (E : Int), .int .i64 (F : Int)] := Blk.new w _ _
  obtain ⟨v0, hvv0⟩ : ∃ v0, v0 = w.alloc (.cells #[.int .i64 (E : Int), .int .i64 (F : Int)] 23) := ⟨_, rfl⟩
  rw [← hvv0] at hv0 k1
  have hz0 : v0.heap.size = w.heap.size + 1 := by rw [hvv0]; simp
  have hv1 : Below v0.heap.size v0 (v0.alloc (.cells #[.bool false, .string ⟨#[]⟩, .int .i64 0] 26)) := (Below.refl _ _).alloc (Nat.le_refl _) _
  have k2 : Blk (v0.alloc (.cells #[.bool false, .string ⟨#[]⟩, .int .i64 0] 26)) v0.heap.size 26 #[.bool false, .string ⟨#[]⟩, .int .i64 0] := Blk.new v0 _ _
  replace k1 := k1.below hv1 k1.lt
  have hb0 := hv0.trans (hv1.mono hv0.size)
  go_enter Tryz.func7, Tryz.ntmps7
  go_upto_region 1 with fail
  rw [← hvv0]
  rw [hz0] at k2
  obtain ⟨v1, hvv1⟩ : ∃ v1, v1 = v0.alloc (.cells #[.bool false, .string ⟨#[]⟩, .int .i64 0] 26) := ⟨_, rfl⟩
  rw [← hvv1] at k1 k2 hb0 ⊢
  clear hvv0 hvv1 hv0 hv1 hz0
  have k1_c0 := k1.cell 0
  have k1_c1 := k1.cell 1
  have k1_z := k1.lt
  have k2_c0 := k2.cell 0
  have k2_f0 := k2.frozen 0
  have k2_c1 := k2.cell 1
  have k2_f1 := k2.frozen 1
  have k2_c2 := k2.cell 2
  have k2_f2 := k2.frozen 2
  have k2_z := k2.lt
  simp only [List.getElem?_toArray, List.getElem?_cons_zero, List.getElem?_cons_succ] at k1_c0 k1_c1 k2_c0 k2_c1 k2_c2
  go_wp2_with fail
  clear k1_c0 k1_c1 k1_z k2_c0 k2_f0 k2_c1 k2_f1 k2_c2 k2_f2 k2_z
  refine (hA _).mono ?_
  rintro e w1 ⟨rfl, hb1⟩
  replace k1 := k1.below hb1 k1.lt
  replace k2 := k2.below hb1 k2.lt
  replace hb0 := hb0.trans (hb1.mono hb0.size)
  clear hb1
  have k1_c0 := k1.cell 0
  have k1_c1 := k1.cell 1
  have k1_z := k1.lt
  have k2_c0 := k2.cell 0
  have k2_f0 := k2.frozen 0
  have k2_c1 := k2.cell 1
  have k2_f1 := k2.frozen 1
  have k2_c2 := k2.cell 2
  have k2_f2 := k2.frozen 2
  have k2_z := k2.lt
  simp only [List.getElem?_toArray, List.getElem?_cons_zero, List.getElem?_cons_succ] at k1_c0 k1_c1 k2_c0 k2_c1 k2_c2
  go_wp2
  refine bodyPost_ret (v := .tuple #[.agg #[.bool false, .string ⟨#[]⟩, .int .i64 0], .bool false, .int .i64 8]) ?_ rfl ⟨rfl, (((hb0.setCell (p := ⟨w.heap.size + 1, 0, none⟩) (by simp) _).setCell (p := ⟨w.heap.size + 1, 1, none⟩) (by simp) _).setCell (p := ⟨w.heap.size + 1, 2, none⟩) (by simp) _)⟩
  refine results_cell_tmp2 rfl _ _ (w.heap.size + 1) _ _ _ _ _ _ ?_ ?_ ?_ (((k2.set_ 0 _).set_ 1 _).set_ 2 _) Tryz.underlying26 rfl (by kernel_rfl)
  · rfl
  · rfl
  · rfl
theorem ref19_some_lo (E F b X Y : Nat) (ng : Bool) (hE2 : 2 ≤ E) (hE : E ≤ 11) (hF1 : 1 ≤ F) (hF : F ≤ 52) (hb64 : b < 18446744073709551616) (hb : b < 2 ^ (1 + E + F)) (hfit : Fo.fitS (E : Int) (F : Int) b = 0) (hs : Fo.splitF E F b = (ng, X, Y)) (hX : X + 1 ≠ 2 ^ E) (D : Int) (hD : D < 1) (w : World) :
    Calls Tryz.prog 7 #[.agg #[.int .i64 (E : Int), .int .i64 (F : Int)], .int .u64 (b : Int), .int .i64 D] w (Says w (.tuple #[.agg #[.bool false, .string ⟨#[]⟩, .int .i64 0], .bool false, .int .i64 101])) := by
  have hA := fun W => ref19_asked E F b X hE2 hE hF1 hF hb64 hb hfit (split_facts hb hs).1 W
  rw [if_neg hX] at hA
  have g1 : decide (D < 1) = true := by simpa using hD
  clear hb hs hfit hX hD
  have hv0 : Below w.heap.size w (w.alloc (.cells #[.int .i64 (E : Int), .int .i64 (F : Int)] 23)) := (Below.refl _ _).alloc (Nat.le_refl _) _
  have k1 : Blk (w.alloc (.cells #[.int .i64 (E : Int), .int .i64 (F : Int)] 23)) w.heap.size 23 #[.int .i64 (E : Int), .int .i64 (F : Int)] := Blk.new w _ _
  obtain ⟨v0, hvv0⟩ : ∃ v0, v0 = w.alloc (.cells #[.int .i64 (E : Int), .int .i64 (F : Int)] 23) := ⟨_, rfl⟩
  rw [← hvv0] at hv0 k1
  have hz0 : v0.heap.size = w.heap.size + 1 := by rw [hvv0]; simp
  have hv1 : Below v0.heap.size v0 (v0.alloc (.cells #[.bool false, .string ⟨#[]⟩, .int .i64 0] 26)) := (Below.refl _ _).alloc (Nat.le_refl _) _
  have k2 : Blk (v0.alloc (.cells #[.bool false, .string ⟨#[]⟩, .int .i64 0] 26)) v0.heap.size 26 #[.bool false, .string ⟨#[]⟩, .int .i64 0] := Blk.new v0 _ _
  replace k1 := k1.below hv1 k1.lt
  have hb0 := hv0.trans (hv1.mono hv0.size)
  go_enter Tryz.func7, Tryz.ntmps7
  go_upto_region 1 with fail
  rw [← hvv0]
  rw [hz0] at k2
  obtain ⟨v1, hvv1⟩ : ∃ v1, v1 = v0.alloc (.cells #[.bool false, .string ⟨#[]⟩, .int .i64 0] 26) := ⟨_, rfl⟩
  rw [← hvv1] at k1 k2 hb0 ⊢
  clear hvv0 hvv1 hv0 hv1 hz0
  have k1_c0 := k1.cell 0
  have k1_c1 := k1.cell 1
  have k1_z := k1.lt
  have k2_c0 := k2.cell 0
  have k2_f0 := k2.frozen 0
  have k2_c1 := k2.cell 1
  have k2_f1 := k2.frozen 1
  have k2_c2 := k2.cell 2
  have k2_f2 := k2.frozen 2
  have k2_z := k2.lt
  simp only [List.getElem?_toArray, List.getElem?_cons_zero, List.getElem?_cons_succ] at k1_c0 k1_c1 k2_c0 k2_c1 k2_c2
  go_wp2_with fail
  clear k1_c0 k1_c1 k1_z k2_c0 k2_f0 k2_c1 k2_f1 k2_c2 k2_f2 k2_z
  refine (hA _).mono ?_
  rintro e w1 ⟨rfl, hb1⟩
  replace k1 := k1.below hb1 k1.lt
  replace k2 := k2.below hb1 k2.lt
  replace hb0 := hb0.trans (hb1.mono hb0.size)
  clear hb1
  have k1_c0 := k1.cell 0
  have k1_c1 := k1.cell 1
  have k1_z := k1.lt
  have k2_c0 := k2.cell 0
  have k2_f0 := k2.frozen 0
  have k2_c1 := k2.cell 1
  have k2_f1 := k2.frozen 1
  have k2_c2 := k2.cell 2
  have k2_f2 := k2.frozen 2
  have k2_z := k2.lt
  simp only [List.getElem?_toArray, List.getElem?_cons_zero, List.getElem?_cons_succ] at k1_c0 k1_c1 k2_c0 k2_c1 k2_c2
  go_wp2
  refine bodyPost_ret (v := .tuple #[.agg #[.bool false, .string ⟨#[]⟩, .int .i64 0], .bool false, .int .i64 101]) ?_ rfl ⟨rfl, (((hb0.setCell (p := ⟨w.heap.size + 1, 0, none⟩) (by simp) _).setCell (p := ⟨w.heap.size + 1, 1, none⟩) (by simp) _).setCell (p := ⟨w.heap.size + 1, 2, none⟩) (by simp) _)⟩
  refine results_cell_tmp2 rfl _ _ (w.heap.size + 1) _ _ _ _ _ _ ?_ ?_ ?_ (((k2.set_ 0 _).set_ 1 _).set_ 2 _) Tryz.underlying26 rfl (by kernel_rfl)
  · rfl
  · rfl
  · rfl
theorem ref19_some_hi (E F b X Y : Nat) (ng : Bool) (hE2 : 2 ≤ E) (hE : E ≤ 11) (hF1 : 1 ≤ F) (hF : F ≤ 52) (hb64 : b < 18446744073709551616) (hb : b < 2 ^ (1 + E + F)) (hfit : Fo.fitS (E : Int) (F : Int) b = 0) (hs : Fo.splitF E F b = (ng, X, Y)) (hX : X + 1 ≠ 2 ^ E) (D : Int) (hD : 17 < D) (w : World) :
    Calls Tryz.prog 7 #[.agg #[.int .i64 (E : Int), .int .i64 (F : Int)], .int .u64 (b : Int), .int .i64 D] w (Says w (.tuple #[.agg #[.bool false, .string ⟨#[]⟩, .int .i64 0], .bool false, .int .i64 101])) := by
  have hA := fun W => ref19_asked E F b X hE2 hE hF1 hF hb64 hb hfit (split_facts hb hs).1 W
  rw [if_neg hX] at hA
  have g1 : decide (D < 1) = false := by simp; omega
  have g2 : decide (17 < D) = true := by simpa using hD
  clear hb hs hfit hX hD
  have hv0 : Below w.heap.size w (w.alloc (.cells #[.int .i64 (E : Int), .int .i64 (F : Int)] 23)) := (Below.refl _ _).alloc (Nat.le_refl _) _
  have k1 : Blk (w.alloc (.cells #[.int .i64 (E : Int), .int .i64 (F : Int)] 23)) w.heap.size 23 #[.int .i64 (E : Int), .int .i64 (F : Int)] := Blk.new w _ _
  obtain ⟨v0, hvv0⟩ : ∃ v0, v0 = w.alloc (.cells #[.int .i64 (E : Int), .int .i64 (F : Int)] 23) := ⟨_, rfl⟩
  rw [← hvv0] at hv0 k1
  have hz0 : v0.heap.size = w.heap.size + 1 := by rw [hvv0]; simp
  have hv1 : Below v0.heap.size v0 (v0.alloc (.cells #[.bool false, .string ⟨#[]⟩, .int .i64 0] 26)) := (Below.refl _ _).alloc (Nat.le_refl _) _
  have k2 : Blk (v0.alloc (.cells #[.bool false, .string ⟨#[]⟩, .int .i64 0] 26)) v0.heap.size 26 #[.bool false, .string ⟨#[]⟩, .int .i64 0] := Blk.new v0 _ _
  replace k1 := k1.below hv1 k1.lt
  have hb0 := hv0.trans (hv1.mono hv0.size)
  go_enter Tryz.func7, Tryz.ntmps7
  go_upto_region 1 with fail
  rw [← hvv0]
  rw [hz0] at k2
  obtain ⟨v1, hvv1⟩ : ∃ v1, v1 = v0.alloc (.cells #[.bool false, .string ⟨#[]⟩, .int .i64 0] 26) := ⟨_, rfl⟩
  rw [← hvv1] at k1 k2 hb0 ⊢
  clear hvv0 hvv1 hv0 hv1 hz0
  have k1_c0 := k1.cell 0
  have k1_c1 := k1.cell 1
  have k1_z := k1.lt
  have k2_c0 := k2.cell 0
  have k2_f0 := k2.frozen 0
  have k2_c1 := k2.cell 1
  have k2_f1 := k2.frozen 1
  have k2_c2 := k2.cell 2
  have k2_f2 := k2.frozen 2
  have k2_z := k2.lt
  simp only [List.getElem?_toArray, List.getElem?_cons_zero, List.getElem?_cons_succ] at k1_c0 k1_c1 k2_c0 k2_c1 k2_c2
  go_wp2_with fail
  clear k1_c0 k1_c1 k1_z k2_c0 k2_f0 k2_c1 k2_f1 k2_c2 k2_f2 k2_z
  refine (hA _).mono ?_
  rintro e w1 ⟨rfl, hb1⟩
  replace k1 := k1.below hb1 k1.lt
  replace k2 := k2.below hb1 k2.lt
  replace hb0 := hb0.trans (hb1.mono hb0.size)
  clear hb1
  have k1_c0 := k1.cell 0
  have k1_c1 := k1.cell 1
  have k1_z := k1.lt
  have k2_c0 := k2.cell 0
  have k2_f0 := k2.frozen 0
  have k2_c1 := k2.cell 1
  have k2_f1 := k2.frozen 1
  have k2_c2 := k2.cell 2
  have k2_f2 := k2.frozen 2
  have k2_z := k2.lt
  simp only [List.getElem?_toArray, List.getElem?_cons_zero, List.getElem?_cons_succ] at k1_c0 k1_c1 k2_c0 k2_c1 k2_c2
  go_wp2
  refine bodyPost_ret (v := .tuple #[.agg #[.bool false, .string ⟨#[]⟩, .int .i64 0], .bool false, .int .i64 101]) ?_ rfl ⟨rfl, (((hb0.setCell (p := ⟨w.heap.size + 1, 0, none⟩) (by simp) _).setCell (p := ⟨w.heap.size + 1, 1, none⟩) (by simp) _).setCell (p := ⟨w.heap.size + 1, 2, none⟩) (by simp) _)⟩
  refine results_cell_tmp2 rfl _ _ (w.heap.size + 1) _ _ _ _ _ _ ?_ ?_ ?_ (((k2.set_ 0 _).set_ 1 _).set_ 2 _) Tryz.underlying26 rfl (by kernel_rfl)
  · rfl
  · rfl
  · rfl
theorem ref19_some_nought (E F b X Y : Nat) (ng : Bool) (hE2 : 2 ≤ E) (hE : E ≤ 11) (hF1 : 1 ≤ F) (hF : F ≤ 52) (hb64 : b < 18446744073709551616) (hb : b < 2 ^ (1 + E + F)) (hfit : Fo.fitS (E : Int) (F : Int) b = 0) (hs : Fo.splitF E F b = (ng, X, Y)) (hX : X + 1 ≠ 2 ^ E) (hX0 : X = 0) (hY0 : Y = 0) (n : Nat) (hn1 : 1 ≤ n) (hn2 : n ≤ 17) (w : World) :
    Calls Tryz.prog 7 #[.agg #[.int .i64 (E : Int), .int .i64 (F : Int)], .int .u64 (b : Int), .int .i64 (n : Int)] w (Says w (.tuple #[.agg #[.bool ng, .string ⟨#[]⟩, .int .i64 0], .bool true, .int .i64 0])) := by
  have hA := fun W => ref19_asked E F b X hE2 hE hF1 hF hb64 hb hfit (split_facts hb hs).1 W
  rw [if_neg hX] at hA
  have g1 : decide ((n : Int) < 1) = false := by simp; omega
  have g2 : decide ((17 : Int) < (n : Int)) = false := by simp; omega
  obtain ⟨-, -, hng, hX2, hY2, hz2⟩ := split_facts hb hs
  obtain ⟨S, hS⟩ : ∃ S, S = 2 ^ (E + F) := ⟨_, rfl⟩
  rw [← hS] at hng hX2 hY2 hz2
  have hS0 : 0 < S := by rw [hS]; exact Nat.two_pow_pos _
  have hSle : S ≤ 9223372036854775808 := by rw [hS]; exact Nat.le_trans (Nat.pow_le_pow_right (n := 2) (by decide) (by omega : E + F ≤ 63)) (by decide)
  have hSn := fun W => ref19_sign E F b hE hF S hS W
  rw [← hng] at hSn
  have hSg := fun W => ref05_Sign E F hE hF S hS W
  obtain ⟨bb, hbb⟩ : ∃ bb, bb = b % S := ⟨_, rfl⟩
  rw [← hbb] at hX2 hY2 hz2
  have hbbS : bb < S := by rw [hbb]; exact Nat.mod_lt _ hS0
  have hSnz : ¬ S = 0 := by omega
  have hSi : ((S : Int) == 0) = false := by rw [beq_eq_false_iff_ne]; omega
  have hbm : (b : Int) % (S : Int) = (bb : Int) := by rw [hbb]; rfl
  have hbn : b % S = bb := hbb.symm
  have hb00 : bb = 0 := hz2.2 ⟨hX0, hY0⟩
  rw [hb00] at hbm hbn
  clear hb hs hfit hX hng hX2 hY2 hz2 hS hbb hX0 hY0 hb00 hbbS
  have hv0 : Below w.heap.size w (w.alloc (.cells #[.int .i64 (E : Int), .int .i64 (F : Int)] 23)) := (Below.refl _ _).alloc (Nat.le_refl _) _
  have k1 : Blk (w.alloc (.cells #[.int .i64 (E : Int), .int .i64 (F : Int)] 23)) w.heap.size 23 #[.int .i64 (E : Int), .int .i64 (F : Int)] := Blk.new w _ _
  obtain ⟨v0, hvv0⟩ : ∃ v0, v0 = w.alloc (.cells #[.int .i64 (E : Int), .int .i64 (F : Int)] 23) := ⟨_, rfl⟩
  rw [← hvv0] at hv0 k1
  have hz0 : v0.heap.size = w.heap.size + 1 := by rw [hvv0]; simp
  have hv1 : Below v0.heap.size v0 (v0.alloc (.cells #[.bool false, .string ⟨#[]⟩, .int .i64 0] 26)) := (Below.refl _ _).alloc (Nat.le_refl _) _
  have k2 : Blk (v0.alloc (.cells #[.bool false, .string ⟨#[]⟩, .int .i64 0] 26)) v0.heap.size 26 #[.bool false, .string ⟨#[]⟩, .int .i64 0] := Blk.new v0 _ _
  replace k1 := k1.below hv1 k1.lt
  have hb0 := hv0.trans (hv1.mono hv0.size)
  go_enter Tryz.func7, Tryz.ntmps7
  go_upto_region 1 with fail
  rw [← hvv0]
  rw [hz0] at k2
  obtain ⟨v1, hvv1⟩ : ∃ v1, v1 = v0.alloc (.cells #[.bool false, .string ⟨#[]⟩, .int .i64 0] 26) := ⟨_, rfl⟩
  rw [← hvv1] at k1 k2 hb0 ⊢
  clear hvv0 hvv1 hv0 hv1 hz0
  have k1_c0 := k1.cell 0
  have k1_c1 := k1.cell 1
  have k1_z := k1.lt
  have k2_c0 := k2.cell 0
  have k2_f0 := k2.frozen 0
  have k2_c1 := k2.cell 1
  have k2_f1 := k2.frozen 1
  have k2_c2 := k2.cell 2
  have k2_f2 := k2.frozen 2
  have k2_z := k2.lt
  simp only [List.getElem?_toArray, List.getElem?_cons_zero, List.getElem?_cons_succ] at k1_c0 k1_c1 k2_c0 k2_c1 k2_c2
  go_wp2_with fail
  clear k1_c0 k1_c1 k1_z k2_c0 k2_f0 k2_c1 k2_f1 k2_c2 k2_f2 k2_z
  refine (hA _).mono ?_
  rintro e w1 ⟨rfl, hb1⟩
  replace k1 := k1.below hb1 k1.lt
  replace k2 := k2.below hb1 k2.lt
  replace hb0 := hb0.trans (hb1.mono hb0.size)
  clear hb1
  have k1_c0 := k1.cell 0
  have k1_c1 := k1.cell 1
  have k1_z := k1.lt
  have k2_c0 := k2.cell 0
  have k2_f0 := k2.frozen 0
  have k2_c1 := k2.cell 1
  have k2_f1 := k2.frozen 1
  have k2_c2 := k2.cell 2
  have k2_f2 := k2.frozen 2
  have k2_z := k2.lt
  simp only [List.getElem?_toArray, List.getElem?_cons_zero, List.getElem?_cons_succ] at k1_c0 k1_c1 k2_c0 k2_c1 k2_c2
  go_wp2_with fail
  clear k1_c0 k1_c1 k1_z k2_c0 k2_f0 k2_c1 k2_f1 k2_c2 k2_f2 k2_z
  refine (hSn _).mono ?_
  rintro e w2 ⟨rfl, hb2⟩
  replace k1 := k1.below hb2 k1.lt
  replace k2 := k2.below hb2 k2.lt
  replace hb0 := hb0.trans (hb2.mono hb0.size)
  clear hb2
  have k1_c0 := k1.cell 0
  have k1_c1 := k1.cell 1
  have k1_z := k1.lt
  have k2_c0 := k2.cell 0
  have k2_f0 := k2.frozen 0
  have k2_c1 := k2.cell 1
  have k2_f1 := k2.frozen 1
  have k2_c2 := k2.cell 2
  have k2_f2 := k2.frozen 2
  have k2_z := k2.lt
  simp only [List.getElem?_toArray, List.getElem?_cons_zero, List.getElem?_cons_succ] at k1_c0 k1_c1 k2_c0 k2_c1 k2_c2
  go_wp2_with fail
  clear k1_c0 k1_c1 k1_z k2_c0 k2_f0 k2_c1 k2_f1 k2_c2 k2_f2 k2_z
  refine (hSg _).mono ?_
  rintro e w3 ⟨rfl, hb3⟩
  replace k1 := k1.below hb3 k1.lt
  replace k2 := k2.below hb3 k2.lt
  replace hb0 := hb0.trans (hb3.mono hb0.size)
  clear hb3
  have k1_c0 := k1.cell 0
  have k1_c1 := k1.cell 1
  have k1_z := k1.lt
  have k2_c0 := k2.cell 0
  have k2_f0 := k2.frozen 0
  have k2_c1 := k2.cell 1
  have k2_f1 := k2.frozen 1
  have k2_c2 := k2.cell 2
  have k2_f2 := k2.frozen 2
  have k2_z := k2.lt
  simp only [List.getElem?_toArray, List.getElem?_cons_zero, List.getElem?_cons_succ] at k1_c0 k1_c1 k2_c0 k2_c1 k2_c2
  go_wp2
  refine bodyPost_ret (v := .tuple #[.agg #[.bool ng, .string ⟨#[]⟩, .int .i64 0], .bool true, .int .i64 0]) ?_ rfl ⟨rfl, (((hb0.setCell (p := ⟨w.heap.size + 1, 0, none⟩) (by simp) _).setCell (p := ⟨w.heap.size + 1, 1, none⟩) (by simp) _).setCell (p := ⟨w.heap.size + 1, 2, none⟩) (by simp) _)⟩
  refine results_cell_tmp2 rfl _ _ (w.heap.size + 1) _ _ _ _ _ _ ?_ ?_ ?_ (((k2.set_ 0 _).set_ 1 _).set_ 2 _) Tryz.underlying26 rfl (by kernel_rfl)
  · rfl
  · rfl
  · rfl
theorem ref19_some_num (E F b X Y : Nat) (ng : Bool) (hE2 : 2 ≤ E) (hE : E ≤ 11) (hF1 : 1 ≤ F) (hF : F ≤ 52) (hb64 : b < 18446744073709551616) (hb : b < 2 ^ (1 + E + F)) (hfit : Fo.fitS (E : Int) (F : Int) b = 0) (hs : Fo.splitF E F b = (ng, X, Y)) (hX : X + 1 ≠ 2 ^ E) (hz : ¬ (X = 0 ∧ Y = 0)) (P : Int) (hP : IsFirst (mF F X Y) (qF E F X) P) (hP1 : -350 ≤ P) (hP2 : P < 350) (n : Nat) (hn1 : 1 ≤ n) (hn2 : n ≤ 17) (w : World) (hT : Tz w) :
    Calls Tryz.prog 7 #[.agg #[.int .i64 (E : Int), .int .i64 (F : Int)], .int .u64 (b : Int), .int .i64 (n : Int)] w (Says w (someV ng P n (someS (mF F X Y) (qF E F X) P n))) := by
  have hA := fun W => ref19_asked E F b X hE2 hE hF1 hF hb64 hb hfit (split_facts hb hs).1 W
  rw [if_neg hX] at hA
  have g1 : decide ((n : Int) < 1) = false := by simp; omega
  have g2 : decide ((17 : Int) < (n : Int)) = false := by simp; omega
  obtain ⟨-, -, hng, hX2, hY2, hz2⟩ := split_facts hb hs
  obtain ⟨S, hS⟩ : ∃ S, S = 2 ^ (E + F) := ⟨_, rfl⟩
  rw [← hS] at hng hX2 hY2 hz2
  have hS0 : 0 < S := by rw [hS]; exact Nat.two_pow_pos _
  have hSle : S ≤ 9223372036854775808 := by rw [hS]; exact Nat.le_trans (Nat.pow_le_pow_right (n := 2) (by decide) (by omega : E + F ≤ 63)) (by decide)
  have hSn := fun W => ref19_sign E F b hE hF S hS W
  rw [← hng] at hSn
  have hSg := fun W => ref05_Sign E F hE hF S hS W
  obtain ⟨bb, hbb⟩ : ∃ bb, bb = b % S := ⟨_, rfl⟩
  rw [← hbb] at hX2 hY2 hz2
  have hbbS : bb < S := by rw [hbb]; exact Nat.mod_lt _ hS0
  have hSnz : ¬ S = 0 := by omega
  have hSi : ((S : Int) == 0) = false := by rw [beq_eq_false_iff_ne]; omega
  have hbm : (b : Int) % (S : Int) = (bb : Int) := by rw [hbb]; rfl
  have hbn : b % S = bb := hbb.symm
  have hb00 : bb ≠ 0 := fun h => hz (hz2.1 h)
  have hb01 : ((bb : Int) == 0) = false := by rw [beq_eq_false_iff_ne]; omega
  have hWo := fun W hW => ref05_Worth E F bb X Y S hE2 hE hF1 hF (by omega) hS hbbS hX2 hY2 hX hz W hW
  obtain ⟨m1, m2, q1, q2⟩ := num_bd hE2 hE hF1 hF hs hX hz
  have hk : kS P n = (n : Int) - 1 - P := rfl
  have hf : farB (kS P n) = false := by simp only [farB, Bool.or_eq_false_iff, decide_eq_false_iff_not]; omega
  obtain ⟨N, hN1, hN2, hN3, hok⟩ := scale_ok m1 m2 hP hn1 hn2 hk hf
  obtain ⟨-, -, vb1, vb2, -, -⟩ := hok (4 * mF F X Y) (by omega) (by omega)
  have hNS : NS (qF E F X) P n = N := by unfold NS; omega
  have hun : ∀ p : Int, underB (mF F X Y) (qF E F X) p = decide (P < p) := fun p => hP.iff p
  have hsm : someS (mF F X Y) (qF E F X) P n = if nearS (tenN (kS P n) * (4 * mF F X Y)) N = nearS (kB (kS P n) * (4 * mF F X Y)) N then some (nearS (tenN (kS P n) * (4 * mF F X Y)) N) else none := by
    unfold someS loE hiE; rw [hNS]
  obtain ⟨ANS, hANS⟩ : ∃ A, A = someS (mF F X Y) (qF E F X) P n := ⟨_, rfl⟩
  rw [← hANS]
  rw [hsm] at hANS
  have hEn := fun y nn dd (fr : Frac nn dd (mF F X Y) (qF E F X)) W hW hy => ref19_ends y nn dd (mF F X Y) (qF E F X) fr (kS P n) (P + 1 - (n : Int)) (by omega) (by omega) (by omega) N (by omega) W hW hy
  clear hb hs hfit hX hng hX2 hY2 hz2 hS hbb hb00 hz hNS hsm hok m1 m2 q1 q2 hf hN1 hN3
  have hk0 : -370 ≤ P ∧ P ≤ 370 := by omega
  clear hk
  generalize kS P n = k at *
  generalize tenN k * (4 * mF F X Y) = V1 at *
  generalize kB k * (4 * mF F X Y) = V2 at *
  have l60 : ∀ x : Nat, x < 1152921504606846976 → (limbs x).length < 40 := fun x hx => by have := limbs_len2 (n := x) (by omega); omega
  have n1 := near_lt vb1
  have n2 := near_lt vb2
  have e60 : (2 : Nat) ^ 60 = 1152921504606846976 := rfl
  rw [e60] at vb1 vb2
  have hNe : ∀ (V z n' d' : Nat) (sc : Sc n' d' V N) (hv : V / 2 ^ N < 1152921504606846976) (W : World) (hW : Tz W) (hz : Rt W z n' d'), Calls Tryz.prog 22 #[.pointer (some ⟨z, 0, none⟩)] W (Makes W 95 [] false (nearS V N)) := by
    intro V z n' d' sc hv W hW hz
    rw [← sc.rnd (by omega)]
    exact ref19_nearest z n' d' sc.ln sc.ld (by rw [sc.div]; exact l60 _ hv) W hW hz
  have HANS := Lib.hid hANS
  clear hANS
  have HNE := Lib.hid hNe
  have HUN := Lib.hid hun
  have HWO := Lib.hid hWo
  have HEN := Lib.hid hEn
  clear hNe hun hWo hEn l60 e60
  have hv0 : Below w.heap.size w (w.alloc (.cells #[.int .i64 (E : Int), .int .i64 (F : Int)] 23)) := (Below.refl _ _).alloc (Nat.le_refl _) _
  have k1 : Blk (w.alloc (.cells #[.int .i64 (E : Int), .int .i64 (F : Int)] 23)) w.heap.size 23 #[.int .i64 (E : Int), .int .i64 (F : Int)] := Blk.new w _ _
  obtain ⟨v0, hvv0⟩ : ∃ v0, v0 = w.alloc (.cells #[.int .i64 (E : Int), .int .i64 (F : Int)] 23) := ⟨_, rfl⟩
  rw [← hvv0] at hv0 k1
  have hz0 : v0.heap.size = w.heap.size + 1 := by rw [hvv0]; simp
  have hv1 : Below v0.heap.size v0 (v0.alloc (.cells #[.bool false, .string ⟨#[]⟩, .int .i64 0] 26)) := (Below.refl _ _).alloc (Nat.le_refl _) _
  have k2 : Blk (v0.alloc (.cells #[.bool false, .string ⟨#[]⟩, .int .i64 0] 26)) v0.heap.size 26 #[.bool false, .string ⟨#[]⟩, .int .i64 0] := Blk.new v0 _ _
  replace k1 := k1.below hv1 k1.lt
  have hb0 := hv0.trans (hv1.mono hv0.size)
  go_enter Tryz.func7, Tryz.ntmps7
  go_upto_region 1 with fail
  rw [← hvv0]
  rw [hz0] at k2
  obtain ⟨v1, hvv1⟩ : ∃ v1, v1 = v0.alloc (.cells #[.bool false, .string ⟨#[]⟩, .int .i64 0] 26) := ⟨_, rfl⟩
  rw [← hvv1] at k1 k2 hb0 ⊢
  clear hvv0 hvv1 hv0 hv1 hz0
  have k1_c0 := k1.cell 0
  have k1_c1 := k1.cell 1
  have k1_z := k1.lt
  have k2_c0 := k2.cell 0
  have k2_f0 := k2.frozen 0
  have k2_c1 := k2.cell 1
  have k2_f1 := k2.frozen 1
  have k2_c2 := k2.cell 2
  have k2_f2 := k2.frozen 2
  have k2_z := k2.lt
  simp only [List.getElem?_toArray, List.getElem?_cons_zero, List.getElem?_cons_succ] at k1_c0 k1_c1 k2_c0 k2_c1 k2_c2
  go_wp2_with fail
  clear k1_c0 k1_c1 k1_z k2_c0 k2_f0 k2_c1 k2_f1 k2_c2 k2_f2 k2_z
  refine (hA _).mono ?_
  rintro e w1 ⟨rfl, hb1⟩
  replace k1 := k1.below hb1 k1.lt
  replace k2 := k2.below hb1 k2.lt
  replace hb0 := hb0.trans (hb1.mono hb0.size)
  clear hb1
  have k1_c0 := k1.cell 0
  have k1_c1 := k1.cell 1
  have k1_z := k1.lt
  have k2_c0 := k2.cell 0
  have k2_f0 := k2.frozen 0
  have k2_c1 := k2.cell 1
  have k2_f1 := k2.frozen 1
  have k2_c2 := k2.cell 2
  have k2_f2 := k2.frozen 2
  have k2_z := k2.lt
  simp only [List.getElem?_toArray, List.getElem?_cons_zero, List.getElem?_cons_succ] at k1_c0 k1_c1 k2_c0 k2_c1 k2_c2
  go_wp2_with fail
  clear k1_c0 k1_c1 k1_z k2_c0 k2_f0 k2_c1 k2_f1 k2_c2 k2_f2 k2_z
  refine (hSn _).mono ?_
  rintro e w2 ⟨rfl, hb2⟩
  replace k1 := k1.below hb2 k1.lt
  replace k2 := k2.below hb2 k2.lt
  replace hb0 := hb0.trans (hb2.mono hb0.size)
  clear hb2
  have k1_c0 := k1.cell 0
  have k1_c1 := k1.cell 1
  have k1_z := k1.lt
  have k2_c0 := k2.cell 0
  have k2_f0 := k2.frozen 0
  have k2_c1 := k2.cell 1
  have k2_f1 := k2.frozen 1
  have k2_c2 := k2.cell 2
  have k2_f2 := k2.frozen 2
  have k2_z := k2.lt
  simp only [List.getElem?_toArray, List.getElem?_cons_zero, List.getElem?_cons_succ] at k1_c0 k1_c1 k2_c0 k2_c1 k2_c2
  go_wp2_with fail
  clear k1_c0 k1_c1 k1_z k2_c0 k2_f0 k2_c1 k2_f1 k2_c2 k2_f2 k2_z
  refine (hSg _).mono ?_
  rintro e w3 ⟨rfl, hb3⟩
  replace k1 := k1.below hb3 k1.lt
  replace k2 := k2.below hb3 k2.lt
  replace hb0 := hb0.trans (hb3.mono hb0.size)
  clear hb3
  have k1_c0 := k1.cell 0
  have k1_c1 := k1.cell 1
  have k1_z := k1.lt
  have k2_c0 := k2.cell 0
  have k2_f0 := k2.frozen 0
  have k2_c1 := k2.cell 1
  have k2_f1 := k2.frozen 1
  have k2_c2 := k2.cell 2
  have k2_f2 := k2.frozen 2
  have k2_z := k2.lt
  simp only [List.getElem?_toArray, List.getElem?_cons_zero, List.getElem?_cons_succ] at k1_c0 k1_c1 k2_c0 k2_c1 k2_c2
  go_wp2_with fail
  clear k1_c0 k1_c1 k1_z k2_c0 k2_f0 k2_c1 k2_f1 k2_c2 k2_f2 k2_z
  refine (HWO.out _ (hT.below hb0)).mono ?_
  rintro e w4 ⟨y, nn, dd, rfl, hy, ry, fr, hb4⟩
  replace k1 := k1.below hb4 k1.lt
  replace k2 := k2.below hb4 k2.lt
  replace hb0 := hb0.trans (hb4.mono hb0.size)
  clear hb4
  have k1_c0 := k1.cell 0
  have k1_c1 := k1.cell 1
  have k1_z := k1.lt
  have k2_c0 := k2.cell 0
  have k2_f0 := k2.frozen 0
  have k2_c1 := k2.cell 1
  have k2_f1 := k2.frozen 1
  have k2_c2 := k2.cell 2
  have k2_f2 := k2.frozen 2
  have k2_z := k2.lt
  simp only [List.getElem?_toArray, List.getElem?_cons_zero, List.getElem?_cons_succ] at k1_c0 k1_c1 k2_c0 k2_c1 k2_c2
  go_wp2_with fail
  clear k1_c0 k1_c1 k1_z k2_c0 k2_f0 k2_c1 k2_f1 k2_c2 k2_f2 k2_z
  refine (ref19_first y nn dd P (by have := fr.ln; omega) fr.ld hP1 hP2 (fun p h1 h2 => by rw [fr.under, HUN.out, decide_eq_true_iff]) _ (hT.below hb0) ry).mono ?_
  rintro e w5 ⟨rfl, hb5⟩
  replace k1 := k1.below hb5 k1.lt
  replace k2 := k2.below hb5 k2.lt
  replace hb0 := hb0.trans (hb5.mono hb0.size)
  replace ry := ry.below hb5
  clear hb5
  have k1_c0 := k1.cell 0
  have k1_c1 := k1.cell 1
  have k1_z := k1.lt
  have k2_c0 := k2.cell 0
  have k2_f0 := k2.frozen 0
  have k2_c1 := k2.cell 1
  have k2_f1 := k2.frozen 1
  have k2_c2 := k2.cell 2
  have k2_f2 := k2.frozen 2
  have k2_z := k2.lt
  simp only [List.getElem?_toArray, List.getElem?_cons_zero, List.getElem?_cons_succ] at k1_c0 k1_c1 k2_c0 k2_c1 k2_c2
  go_wp2_with fail
  clear k1_c0 k1_c1 k1_z k2_c0 k2_f0 k2_c1 k2_f1 k2_c2 k2_f2 k2_z
  refine (HEN.out y nn dd fr _ (hT.below hb0) ry).mono ?_
  rintro e w6 ⟨z1, z2, n1', d1', n2', d2', rfl, r1, r2, sc1, sc2, hb6⟩
  replace k1 := k1.below hb6 k1.lt
  replace k2 := k2.below hb6 k2.lt
  replace hb0 := hb0.trans (hb6.mono hb0.size)
  replace ry := ry.below hb6
  clear hb6
  have k1_c0 := k1.cell 0
  have k1_c1 := k1.cell 1
  have k1_z := k1.lt
  have k2_c0 := k2.cell 0
  have k2_f0 := k2.frozen 0
  have k2_c1 := k2.cell 1
  have k2_f1 := k2.frozen 1
  have k2_c2 := k2.cell 2
  have k2_f2 := k2.frozen 2
  have k2_z := k2.lt
  simp only [List.getElem?_toArray, List.getElem?_cons_zero, List.getElem?_cons_succ] at k1_c0 k1_c1 k2_c0 k2_c1 k2_c2
  go_wp2_with fail
  clear k1_c0 k1_c1 k1_z k2_c0 k2_f0 k2_c1 k2_f1 k2_c2 k2_f2 k2_z
  refine (HNE.out V1 z1 n1' d1' sc1 vb1 _ (hT.below hb0) r1).mono ?_
  rintro e w7 ⟨i1, rfl, hi1, o1, hb7⟩
  replace k1 := k1.below hb7 k1.lt
  replace k2 := k2.below hb7 k2.lt
  replace hb0 := hb0.trans (hb7.mono hb0.size)
  replace ry := ry.below hb7
  replace r1 := r1.below hb7
  replace r2 := r2.below hb7
  clear hb7
  have k1_c0 := k1.cell 0
  have k1_c1 := k1.cell 1
  have k1_z := k1.lt
  have k2_c0 := k2.cell 0
  have k2_f0 := k2.frozen 0
  have k2_c1 := k2.cell 1
  have k2_f1 := k2.frozen 1
  have k2_c2 := k2.cell 2
  have k2_f2 := k2.frozen 2
  have k2_z := k2.lt
  simp only [List.getElem?_toArray, List.getElem?_cons_zero, List.getElem?_cons_succ] at k1_c0 k1_c1 k2_c0 k2_c1 k2_c2
  go_wp2_with fail
  clear k1_c0 k1_c1 k1_z k2_c0 k2_f0 k2_c1 k2_f1 k2_c2 k2_f2 k2_z
  refine (HNE.out V2 z2 n2' d2' sc2 vb2 _ (hT.below hb0) r2).mono ?_
  rintro e w8 ⟨i2, rfl, hi2, o2, hb8⟩
  replace k1 := k1.below hb8 k1.lt
  replace k2 := k2.below hb8 k2.lt
  replace hb0 := hb0.trans (hb8.mono hb0.size)
  replace ry := ry.below hb8
  replace r1 := r1.below hb8
  replace r2 := r2.below hb8
  replace o1 := o1.below hb8
  clear hb8
  have k1_c0 := k1.cell 0
  have k1_c1 := k1.cell 1
  have k1_z := k1.lt
  have k2_c0 := k2.cell 0
  have k2_f0 := k2.frozen 0
  have k2_c1 := k2.cell 1
  have k2_f1 := k2.frozen 1
  have k2_c2 := k2.cell 2
  have k2_f2 := k2.frozen 2
  have k2_z := k2.lt
  simp only [List.getElem?_toArray, List.getElem?_cons_zero, List.getElem?_cons_succ] at k1_c0 k1_c1 k2_c0 k2_c1 k2_c2
  go_wp2_with fail
  clear k1_c0 k1_c1 k1_z k2_c0 k2_f0 k2_c1 k2_f1 k2_c2 k2_f2 k2_z
  refine (int_Cmp i1 i2 _ _ [] [] (nearS V1 N) (nearS V2 N) _ o1 o2).mono ?_
  rintro e w9 ⟨rfl, hb9⟩
  replace k1 := k1.below hb9 k1.lt
  replace k2 := k2.below hb9 k2.lt
  replace hb0 := hb0.trans (hb9.mono hb0.size)
  replace ry := ry.below hb9
  replace r1 := r1.below hb9
  replace r2 := r2.below hb9
  replace o1 := o1.below hb9
  replace o2 := o2.below hb9
  clear hb9
  clear HNE HEN HWO HUN r1 r2 sc1 sc2 ry fr o2
  generalize nearS V1 N = R1 at *
  generalize nearS V2 N = R2 at *
  by_cases hR : R1 = R2
  · have hA2 : ANS = some R1 := by rw [HANS.out, if_pos hR]
    have HA2 := Lib.hid hA2
    clear HANS hA2
    have hc : (cmpV R1 R2 != 0) = false := by rw [cmpV_eq.2 hR]; rfl
    have HR := Lib.hid hR
    clear hR
    have k1_c0 := k1.cell 0
    have k1_c1 := k1.cell 1
    have k1_z := k1.lt
    have k2_c0 := k2.cell 0
    have k2_f0 := k2.frozen 0
    have k2_c1 := k2.cell 1
    have k2_f1 := k2.frozen 1
    have k2_c2 := k2.cell 2
    have k2_f2 := k2.frozen 2
    have k2_z := k2.lt
    simp only [List.getElem?_toArray, List.getElem?_cons_zero, List.getElem?_cons_succ] at k1_c0 k1_c1 k2_c0 k2_c1 k2_c2
    go_wp2_with fail
    clear k1_c0 k1_c1 k1_z k2_c0 k2_f0 k2_c1 k2_f1 k2_c2 k2_f2 k2_z
    refine (ref19_decimal ng i1 _ [] R1 (P + 1 - (n : Int)) (by omega) (by omega) (by omega) _ o1).mono ?_
    rintro e w51 ⟨rfl, hb51⟩
    replace k1 := k1.below hb51 k1.lt
    replace k2 := k2.below hb51 k2.lt
    replace hb0 := hb0.trans (hb51.mono hb0.size)
    replace o1 := o1.below hb51
    clear hb51
    have k1_c0 := k1.cell 0
    have k1_c1 := k1.cell 1
    have k1_z := k1.lt
    have k2_c0 := k2.cell 0
    have k2_f0 := k2.frozen 0
    have k2_c1 := k2.cell 1
    have k2_f1 := k2.frozen 1
    have k2_c2 := k2.cell 2
    have k2_f2 := k2.frozen 2
    have k2_z := k2.lt
    simp only [List.getElem?_toArray, List.getElem?_cons_zero, List.getElem?_cons_succ] at k1_c0 k1_c1 k2_c0 k2_c1 k2_c2
    go_wp2
    refine bodyPost_ret (v := .tuple #[.agg #[.bool ng, .string ⟨(mkD (Lib.decDigits R1) (P + 1 - (n : Int))).1.toArray⟩, .int .i64 (mkD (Lib.decDigits R1) (P + 1 - (n : Int))).2], .bool true, .int .i64 0]) ?_ rfl ⟨by rw [HA2.out]; rfl, (((hb0.setCell (p := ⟨w.heap.size + 1, 0, none⟩) (by simp) _).setCell (p := ⟨w.heap.size + 1, 1, none⟩) (by simp) _).setCell (p := ⟨w.heap.size + 1, 2, none⟩) (by simp) _)⟩
    refine results_cell_tmp2 rfl _ _ (w.heap.size + 1) _ _ _ _ _ _ ?_ ?_ ?_ (((k2.set_ 0 _).set_ 1 _).set_ 2 _) Tryz.underlying26 rfl (by kernel_rfl)
    · rfl
    · rfl
    · rfl
  · have hA2 : ANS = none := by rw [HANS.out, if_neg hR]
    have HA2 := Lib.hid hA2
    clear HANS hA2
    have hc : (cmpV R1 R2 != 0) = true := by rw [bne_iff_ne]; exact fun h => hR (cmpV_eq.1 h)
    clear hR
    have k1_c0 := k1.cell 0
    have k1_c1 := k1.cell 1
    have k1_z := k1.lt
    have k2_c0 := k2.cell 0
    have k2_f0 := k2.frozen 0
    have k2_c1 := k2.cell 1
    have k2_f1 := k2.frozen 1
    have k2_c2 := k2.cell 2
    have k2_f2 := k2.frozen 2
    have k2_z := k2.lt
    simp only [List.getElem?_toArray, List.getElem?_cons_zero, List.getElem?_cons_succ] at k1_c0 k1_c1 k2_c0 k2_c1 k2_c2
    go_wp2
    refine bodyPost_ret (v := .tuple #[.agg #[.bool false, .string ⟨#[]⟩, .int .i64 0], .bool false, .int .i64 0]) ?_ rfl ⟨by rw [HA2.out]; rfl, (((hb0.setCell (p := ⟨w.heap.size + 1, 0, none⟩) (by simp) _).setCell (p := ⟨w.heap.size + 1, 1, none⟩) (by simp) _).setCell (p := ⟨w.heap.size + 1, 2, none⟩) (by simp) _)⟩
    refine results_cell_tmp2 rfl _ _ (w.heap.size + 1) _ _ _ _ _ _ ?_ ?_ ?_ (((k2.set_ 0 _).set_ 1 _).set_ 2 _) Tryz.underlying26 rfl (by kernel_rfl)
    · rfl
    · rfl
    · rfl
end Bg
end Go.Proofs.YtenekbfnlbipiaaGreatDoor
