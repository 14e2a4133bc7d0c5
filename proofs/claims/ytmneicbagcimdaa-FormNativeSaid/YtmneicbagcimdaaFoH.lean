/- Forms: what the document's examples say. -/
import Derived.Test.YtmneicbagcimdaaFoG
namespace Go.Proofs.Ytmneicbagcimdaa
open Go.RowKit
set_option linter.unusedVariables false
set_option linter.unusedSimpArgs false
set_option maxHeartbeats 4000000
set_option maxRecDepth 100000

theorem forms_Half (w : World) : Calls Try.prog 45 #[] w (Says w (.agg #[.int .i64 5, .int .i64 10])) := by
  go_enter Try.func45, Try.ntmps45
  go_wp2
  go_returns
  exact ⟨rfl, (Below.refl _ _).alloc (Nat.le_refl _) _⟩
theorem aw1 : splitS 8 23 3226013659 = ((true, 128, 4788187), 0) := by decide +kernel
theorem aw2 : nanS 5 10 false 3 = (32259, 0) := by decide +kernel
theorem aw3 : knownS 5 10 false (2 ^ (5 : Int).toNat - 1 - 1) (2 ^ (10 : Int).toNat - 1) = (31743, 0) := by decide +kernel
theorem aw4 : classS 5 10 1 = (2, 0) := by decide +kernel
theorem awake_any (w : World) : Calls Try.prog 9 #[] w (Says w (.bool true)) := by
  have h1 := fun W => forms_Split 8 23 3226013659 3226013659 rfl (by decide) W
  have h2 := fun W => forms_NaN 5 10 false 3 3 rfl (by decide) W
  have h3 := fun W => forms_Greatest 5 10 false W
  have h4 := fun W => forms_Class 5 10 1 1 rfl (by decide) W
  rw [aw1] at h1
  rw [aw2] at h2
  rw [aw3] at h3
  rw [aw4] at h4
  go_enter Try.func9, Try.ntmps9
  go_wp2_with fail
  refine (h1 _).mono ?_
  rintro r w1 ⟨rfl, hb1⟩
  have hbw1 : Below w.heap.size w w1 := ((Below.refl w.heap.size w).alloc (Nat.le_refl _) _).trans (hb1.mono (by simp))
  have c0 : w1.cell? ⟨w.heap.size, 0, none⟩ = some (.int .i64 5) := by rw [hb1.cell (p := ⟨w.heap.size, 0, none⟩) (by simp)]; simp
  have c1 : w1.cell? ⟨w.heap.size, 1, none⟩ = some (.int .i64 10) := by rw [hb1.cell (p := ⟨w.heap.size, 1, none⟩) (by simp)]; simp
  have z1 : w.heap.size < w1.heap.size := cell_lt c0
  clear h1
  go_wp2_with fail
  refine (h2 _).mono ?_
  rintro r w2 ⟨rfl, hb2⟩
  have hb2' : Below w1.heap.size w1 w2 := ((Below.refl w1.heap.size w1).alloc (Nat.le_refl _) _).trans (hb2.mono (by simp))
  have hbw2 := hbw1.trans (hb2'.mono hbw1.size)
  have d0 := cell_keep hb2' c0
  have d1 := cell_keep hb2' c1
  have z2 : w.heap.size < w2.heap.size := cell_lt d0
  have p0 : w2.cell? ⟨w1.heap.size, 0, none⟩ = some (.bool true) := by rw [hb2.cell (p := ⟨w1.heap.size, 0, none⟩) (by simp)]; simp
  have p1 : w2.cell? ⟨w1.heap.size, 1, none⟩ = some (.int .i64 128) := by rw [hb2.cell (p := ⟨w1.heap.size, 1, none⟩) (by simp)]; simp
  have p2 : w2.cell? ⟨w1.heap.size, 2, none⟩ = some (.int .u64 4788187) := by rw [hb2.cell (p := ⟨w1.heap.size, 2, none⟩) (by simp)]; simp
  clear h2 hb1 hb2
  go_wp2_with fail
  refine (h3 _).mono ?_
  rintro r w3 ⟨rfl, hb3⟩
  have e0 := cell_keep hb3 d0
  have e1 := cell_keep hb3 d1
  have z3 : w.heap.size < w3.heap.size := cell_lt e0
  have q0 := cell_keep hb3 p0
  have q1 := cell_keep hb3 p1
  have q2 := cell_keep hb3 p2
  have hbw3 := hbw2.trans (hb3.mono hbw2.size)
  clear h3
  go_wp2_with fail
  refine (h4 _).mono ?_
  rintro r w4 ⟨rfl, hb4⟩
  have f0 := cell_keep hb4 e0
  have f1 := cell_keep hb4 e1
  have r0 := cell_keep hb4 q0
  have r1 := cell_keep hb4 q1
  have r2 := cell_keep hb4 q2
  have hbw4 := hbw3.trans (hb4.mono hbw3.size)
  clear h4 p0 p1 p2 q0 q1 q2 c0 c1 d0 d1 e0 e1 hb2' hb3 hb4 hbw1 hbw2 hbw3
  go_wp2
  go_region_held3 (fun w' => w'.cell? ⟨w.heap.size, 0, none⟩ = some (.int .i64 5) ∧ w'.cell? ⟨w.heap.size, 1, none⟩ = some (.int .i64 10) ∧ w'.cell? ⟨w1.heap.size, 0, none⟩ = some (.bool true) ∧ w'.cell? ⟨w1.heap.size, 1, none⟩ = some (.int .i64 128) ∧ w'.cell? ⟨w1.heap.size, 2, none⟩ = some (.int .u64 4788187))
    (first | exact ⟨cell_keep hb5 f0, cell_keep hb5 f1, cell_keep hb5 r0, cell_keep hb5 r1, cell_keep hb5 r2⟩ | go_keep)
    (first
     | (go_at_call 45; refine (forms_Half _).mono ?_; rintro r w5 ⟨rfl, hb5⟩))
  all_goals (
    go_wp2
    go_ret
    exact ⟨rfl, (Below.drew hbw4).trans (hb5.mono hbw4.size)⟩)
end Go.Proofs.Ytmneicbagcimdaa
