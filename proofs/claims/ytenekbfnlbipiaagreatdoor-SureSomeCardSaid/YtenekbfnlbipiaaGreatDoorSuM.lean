/- Walks: nearest, least, greatest of two ends. -/
import Derived.Test.YtenekbfnlbipiaaGreatDoorSuJ
namespace Go.Proofs.YtenekbfnlbipiaaGreatDoor
open Go.RowKit
set_option linter.unusedVariables false
set_option linter.unusedSimpArgs false
set_option maxHeartbeats 4000000
set_option maxRecDepth 100000


theorem clo_near_abs {W0 W : World} (hW : Below W0.heap.size W0 W) (v n : Nat) (hv : v < 2 ^ 192) (n1 : 64 ≤ n) (n2 : n < 192) (hq : v / 2 ^ n < 18446744073709551615) (Bn : Nat) (cn : W0.cell? ⟨Bn, 0, none⟩ = some (.int .i64 (n : Int)))  :
    Calls Tryz.prog 39 #[.agg (W4 v), .pointer (some ⟨Bn, 0, none⟩)] W fun e w' => e = .returned (.int .u64 ((nearS v n : Nat) : Int)) ∧ Below W0.heap.size W0 w' :=
  (clo_near v n hv n1 n2 hq Bn W (Fo.cellsB hW cn) ).mono fun _ _ ⟨h1, h2⟩ => ⟨h1, hW.trans (h2.mono hW.size)⟩
theorem sure_nearest (v v2 n : Nat) (hv : v < 2 ^ 192) (hv2 : v2 < 2 ^ 192) (n1 : 64 ≤ n) (n2 : n < 192) (hq : v / 2 ^ n < 18446744073709551615) (hq2 : v2 / 2 ^ n < 18446744073709551615) (w : World) :
    Calls Tryz.prog 14 #[.agg (W4 v), .agg (W4 v2), .int .i64 (n : Int)] w (Says w (.tuple #[.int .u64 ((nearS v n : Nat) : Int), .bool (decide (nearS v n = nearS v2 n))])) := by
  obtain ⟨x0, x1, x2, x3, hx⟩ : ∃ x0 x1 x2 x3 : Nat, W4 v = #[.int .u64 (x0 : Int), .int .u64 (x1 : Int), .int .u64 (x2 : Int), .int .u64 (x3 : Int)] := ⟨_, _, _, _, rfl⟩
  obtain ⟨y0, y1, y2, y3, hy⟩ : ∃ x0 x1 x2 x3 : Nat, W4 v2 = #[.int .u64 (x0 : Int), .int .u64 (x1 : Int), .int .u64 (x2 : Int), .int .u64 (x3 : Int)] := ⟨_, _, _, _, rfl⟩
  have hA := fun (W0 W : World) (hW : Below W0.heap.size W0 W) => clo_near_abs hW v n hv n1 n2 hq 
  have hB := fun (W0 W : World) (hW : Below W0.heap.size W0 W) => clo_near_abs hW v2 n hv2 n1 n2 hq2 
  rw [hx] at hA ⊢
  rw [hy] at hB ⊢
  skip
  skip
  have hEq : ((nearS v n : Nat) : Int) = ((nearS v n : Nat) : Int) := rfl
  obtain ⟨P, hP⟩ : ∃ P : Nat, P = nearS v n := ⟨_, rfl⟩
  obtain ⟨R, hR⟩ : ∃ P : Nat, P = nearS v2 n := ⟨_, rfl⟩
  rw [← hP] at hA ⊢
  rw [← hR] at hB ⊢
  have hd : decide (P = R) = ((P : Int) == (R : Int)) := by
    by_cases h : P = R
    · subst h; simp
    · rw [decide_eq_false h, eq_comm, beq_eq_false_iff_ne]; omega
  rw [hd]
  clear hx hy hP hR hq hq2 hv hv2 hd hEq
  have hb0 : Below w.heap.size w w := Below.refl _ _
  go_enter Tryz.func14, Tryz.ntmps14
  go_upto_region 2 with fail
  have hv1 : Below w.heap.size w (((w.alloc (.cells #[.int .u64 (x0 : Int), .int .u64 (x1 : Int), .int .u64 (x2 : Int), .int .u64 (x3 : Int)] 43)).alloc (.cells #[.int .u64 (y0 : Int), .int .u64 (y1 : Int), .int .u64 (y2 : Int), .int .u64 (y3 : Int)] 43)).alloc (.cells #[.int .i64 (n : Int)] 3)) := (((Below.refl _ _).alloc (by first | exact Nat.le_refl _ | (simp; done) | (simp; omega)) _).alloc (by first | exact Nat.le_refl _ | (simp; done) | (simp; omega)) _).alloc (by first | exact Nat.le_refl _ | (simp; done) | (simp; omega)) _
  have k1 : Blk (((w.alloc (.cells #[.int .u64 (x0 : Int), .int .u64 (x1 : Int), .int .u64 (x2 : Int), .int .u64 (x3 : Int)] 43)).alloc (.cells #[.int .u64 (y0 : Int), .int .u64 (y1 : Int), .int .u64 (y2 : Int), .int .u64 (y3 : Int)] 43)).alloc (.cells #[.int .i64 (n : Int)] 3)) (w.heap.size) 43 #[.int .u64 (x0 : Int), .int .u64 (x1 : Int), .int .u64 (x2 : Int), .int .u64 (x3 : Int)] := ((Blk.new w 43 #[.int .u64 (x0 : Int), .int .u64 (x1 : Int), .int .u64 (x2 : Int), .int .u64 (x3 : Int)]).alloc _).alloc _
  have k2 : Blk (((w.alloc (.cells #[.int .u64 (x0 : Int), .int .u64 (x1 : Int), .int .u64 (x2 : Int), .int .u64 (x3 : Int)] 43)).alloc (.cells #[.int .u64 (y0 : Int), .int .u64 (y1 : Int), .int .u64 (y2 : Int), .int .u64 (y3 : Int)] 43)).alloc (.cells #[.int .i64 (n : Int)] 3)) (w.heap.size + 1) 43 #[.int .u64 (y0 : Int), .int .u64 (y1 : Int), .int .u64 (y2 : Int), .int .u64 (y3 : Int)] := by
    have := (Blk.new (w.alloc (.cells #[.int .u64 (x0 : Int), .int .u64 (x1 : Int), .int .u64 (x2 : Int), .int .u64 (x3 : Int)] 43)) 43 #[.int .u64 (y0 : Int), .int .u64 (y1 : Int), .int .u64 (y2 : Int), .int .u64 (y3 : Int)]).alloc (.cells #[.int .i64 (n : Int)] 3)
    simpa using this
  have k3 : Blk (((w.alloc (.cells #[.int .u64 (x0 : Int), .int .u64 (x1 : Int), .int .u64 (x2 : Int), .int .u64 (x3 : Int)] 43)).alloc (.cells #[.int .u64 (y0 : Int), .int .u64 (y1 : Int), .int .u64 (y2 : Int), .int .u64 (y3 : Int)] 43)).alloc (.cells #[.int .i64 (n : Int)] 3)) (w.heap.size + 2) 3 #[.int .i64 (n : Int)] := by
    have := Blk.new ((w.alloc (.cells #[.int .u64 (x0 : Int), .int .u64 (x1 : Int), .int .u64 (x2 : Int), .int .u64 (x3 : Int)] 43)).alloc (.cells #[.int .u64 (y0 : Int), .int .u64 (y1 : Int), .int .u64 (y2 : Int), .int .u64 (y3 : Int)] 43)) 3 #[.int .i64 (n : Int)]
    simpa using this
  replace hb0 := hb0.trans (hv1.mono hb0.size)
  generalize (((w.alloc (.cells #[.int .u64 (x0 : Int), .int .u64 (x1 : Int), .int .u64 (x2 : Int), .int .u64 (x3 : Int)] 43)).alloc (.cells #[.int .u64 (y0 : Int), .int .u64 (y1 : Int), .int .u64 (y2 : Int), .int .u64 (y3 : Int)] 43)).alloc (.cells #[.int .i64 (n : Int)] 3)) = v1 at *
  clear hv1
  have k1_c0 := k1.cell 0
  have k1_f0 := k1.frozen 0
  have k1_c1 := k1.cell 1
  have k1_f1 := k1.frozen 1
  have k1_c2 := k1.cell 2
  have k1_f2 := k1.frozen 2
  have k1_c3 := k1.cell 3
  have k1_f3 := k1.frozen 3
  have k1_z := k1.lt
  have k2_c0 := k2.cell 0
  have k2_f0 := k2.frozen 0
  have k2_c1 := k2.cell 1
  have k2_f1 := k2.frozen 1
  have k2_c2 := k2.cell 2
  have k2_f2 := k2.frozen 2
  have k2_c3 := k2.cell 3
  have k2_f3 := k2.frozen 3
  have k2_z := k2.lt
  have k3_c0 := k3.cell 0
  have k3_f0 := k3.frozen 0
  have k3_z := k3.lt
  simp only [List.getElem?_toArray, List.getElem?_cons_zero, List.getElem?_cons_succ] at k1_c0 k1_c1 k1_c2 k1_c3 k2_c0 k2_c1 k2_c2 k2_c3 k3_c0
  have hW0 : Below v1.heap.size v1 v1.drew := (Below.refl _ _).drew
  go_region_held3 (fun w' => w'.cell? ⟨w.heap.size, 0, none⟩ = some (.int .u64 (x0 : Int)) ∧ w'.cell? ⟨w.heap.size, 1, none⟩ = some (.int .u64 (x1 : Int)) ∧ w'.cell? ⟨w.heap.size, 2, none⟩ = some (.int .u64 (x2 : Int)) ∧ w'.cell? ⟨w.heap.size, 3, none⟩ = some (.int .u64 (x3 : Int)) ∧ w'.cell? ⟨w.heap.size + 1, 0, none⟩ = some (.int .u64 (y0 : Int)) ∧ w'.cell? ⟨w.heap.size + 1, 1, none⟩ = some (.int .u64 (y1 : Int)) ∧ w'.cell? ⟨w.heap.size + 1, 2, none⟩ = some (.int .u64 (y2 : Int)) ∧ w'.cell? ⟨w.heap.size + 1, 3, none⟩ = some (.int .u64 (y3 : Int)))
    (first | exact ⟨Fo.cellsB (by assumption) k1_c0, Fo.cellsB (by assumption) k1_c1, Fo.cellsB (by assumption) k1_c2, Fo.cellsB (by assumption) k1_c3, Fo.cellsB (by assumption) k2_c0, Fo.cellsB (by assumption) k2_c1, Fo.cellsB (by assumption) k2_c2, Fo.cellsB (by assumption) k2_c3⟩ | go_keep)
    (first
     | (go_at_call 39; with_reducible refine (hA v1 _ (by assumption) _ k3_c0).mono ?_; rintro r wa ⟨rfl, hba⟩)
     | (go_at_call 39; with_reducible refine (hB v1 _ (by assumption) _ k3_c0).mono ?_; rintro r wb ⟨rfl, hbb⟩))
  go_wp2
  go_ret2
  exact ⟨rfl, hb0.trans (hbb.mono hb0.size)⟩

end Go.Proofs.YtenekbfnlbipiaaGreatDoor
