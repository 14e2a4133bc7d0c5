/- A keeper that is none, or that nobody made. -/
import Derived.Test.YtlhcnophehfkoaaDoorProg
import Derived.Test.YtlhcnophehfkoaaDoorMem
import Derived.Deep.RegionHeld3
import Derived.Deep.Cut
import Derived.Handy
import Derived.Laws.Rows
import Derived.Below
namespace Go.Proofs.YtlhcnophehfkoaaDoor
open Go.RowKit
set_option linter.unusedVariables false
set_option linter.unusedSimpArgs false
set_option maxHeartbeats 4000000
set_option maxRecDepth 100000
namespace Kn
theorem cell_lt {w : World} {a : Addr} {v : Value} (h : w.cell? a = some v) : a.block < w.heap.size := by
  unfold World.cell? at h
  split at h
  · rename_i hb; exact (Array.getElem?_eq_some_iff.1 hb).1
  · cases h
theorem cell_keep {W w1 : World} {a : Addr} {v : Value} (hb : Below W.heap.size W w1) (h : W.cell? a = some v) : w1.cell? a = some v := by
  rw [hb.cell (cell_lt h)]; exact h
theorem of_law (a b x e : Int) (w : World) : Calls Tryd.prog 10 #[.int .u64 a, .int .u64 b, .int .i64 x, .int .i64 e] w (Says w (.agg #[.int .u64 a, .int .u64 b, .int .i64 x, .int .i64 e])) := by
  go_enter Tryd.func10, Tryd.ntmps10
  go_wp2
  refine bodyPost_ret (v := .agg #[.int .u64 a, .int .u64 b, .int .i64 x, .int .i64 e]) ?_ rfl ⟨rfl, (Below.refl _ w).alloc (Nat.le_refl _) _⟩
  refine results_cell_row rfl _ _ w.heap.size _ _ _ _ ?_ (heap_alloc_new _ _) Tryd.underlying45 rfl (by kernel_rfl)
  rfl
end Kn
open Kn
theorem asked_nil (n : Int) (w : World) : Calls Tryd.prog 29 #[.pointer none, .int .i64 n] w (Says w (.int .i64 1)) := by
  go_enter Tryd.func29, Tryd.ntmps29
  go_wp2
  go_ret
  exact ⟨rfl, Below.refl _ _⟩
theorem asked_zero (b : Nat) (n : Int) (w : World) (hc : w.cell? ⟨b, 0, none⟩ = some (.bool false)) : Calls Tryd.prog 29 #[.pointer (some ⟨b, 0, none⟩), .int .i64 n] w (Says w (.int .i64 1)) := by
  go_enter Tryd.func29, Tryd.ntmps29
  go_wp2
  go_ret
  exact ⟨rfl, Below.refl _ _⟩
/-- A keeper that is none. -/
def NoK (w : World) (p : Option Addr) : Prop := p = none ∨ ∃ b, p = some ⟨b, 0, none⟩ ∧ b < w.heap.size ∧ w.cell? ⟨b, 0, none⟩ = some (.bool false)
theorem NoK.below {w w' : World} {p : Option Addr} (h : NoK w p) (hb : Below w.heap.size w w') : NoK w' p := by
  rcases h with h | ⟨b, h1, h2, h3⟩
  · exact .inl h
  · exact .inr ⟨b, h1, Nat.lt_of_lt_of_le h2 hb.size, cell_keep hb h3⟩
theorem asked_no (p : Option Addr) (n : Int) (w : World) (h : NoK w p) : Calls Tryd.prog 29 #[.pointer p, .int .i64 n] w (Says w (.int .i64 1)) := by
  rcases h with rfl | ⟨b, rfl, _, h3⟩
  · exact asked_nil n w
  · exact asked_zero b n w h3
theorem ten_no (p : Option Addr) (n : Int) (w : World) (h : NoK w p) : Calls Tryd.prog 11 #[.pointer p, .int .i64 n] w (Says w (.tuple #[.int .u64 0, .int .u64 0, .int .i64 0, .int .i64 1])) := by
  have hA := fun W (hW : Below w.heap.size w W) => asked_no p n W (h.below hW)
  have hb0 := (Below.refl w.heap.size w).alloc (Nat.le_refl _) (.cells #[.pointer p] 37)
  go_enter Tryd.func11, Tryd.ntmps11
  go_wp2_with fail
  refine (hA _ hb0).mono ?_
  rintro e w1 ⟨rfl, hb1⟩
  have hb := hb0.trans (hb1.mono hb0.size)
  clear hA hb0 hb1
  go_wp2
  go_returns
  exact ⟨rfl, hb⟩
theorem crowd_no (p : Option Addr) (n a : Int) (w : World) (h : NoK w p) : Calls Tryd.prog 9 #[.pointer p, .int .i64 n, .int .i64 a] w (Says w (.tuple #[.slice none 0 0, .int .i64 1])) := by
  have hA := fun W (hW : Below w.heap.size w W) => asked_no p n W (h.below hW)
  have hb0 := ((Below.refl w.heap.size w).alloc (Nat.le_refl _) (.cells #[.pointer p] 37)).alloc (by simp) (.cells #[.int .i64 n] 3)
  go_enter Tryd.func9, Tryd.ntmps9
  go_wp2_with fail
  refine (hA _ hb0).mono ?_
  rintro e w1 ⟨rfl, hb1⟩
  have hb := hb0.trans (hb1.mono hb0.size)
  clear hA hb0 hb1
  go_wp2
  go_returns
  exact ⟨rfl, hb⟩
theorem made_nil (w : World) : Calls Tryd.prog 12 #[.pointer none] w (Says w (.int .i64 0)) := by
  go_enter Tryd.func12, Tryd.ntmps12
  go_wp2
  go_ret
  exact ⟨rfl, Below.refl _ _⟩
theorem made_zero (b : Nat) (w : World) (hc : w.cell? ⟨b, 6, none⟩ = some (.int .i64 0)) : Calls Tryd.prog 12 #[.pointer (some ⟨b, 0, none⟩)] w (Says w (.int .i64 0)) := by
  go_enter Tryd.func12, Tryd.ntmps12
  go_wp2
  go_ret
  exact ⟨rfl, Below.refl _ _⟩
theorem none_walk (n a : Int) (w : World) : Calls Tryd.prog 3 #[.int .i64 n, .int .i64 a] w (Says w (.bool true)) := by
  have hb0 : Below w.heap.size w w := Below.refl _ _
  go_enter Tryd.func3, Tryd.ntmps3
  go_upto_region 3 with fail
  have hv1 : Below w.heap.size w ((w.alloc (.cells #[.bool false, .int .i64 0, .int .i64 0, .int .u32 0, .int .i32 0, .int .u32 0, .int .i64 0, .slice none 0 0] 36)).alloc (.cells #[.pointer none, .pointer (some ⟨w.heap.size, 0, none⟩)] 37)) := ((Below.refl _ _).alloc (by first | exact Nat.le_refl _ | (simp; done) | (simp; omega)) _).alloc (by first | exact Nat.le_refl _ | (simp; done) | (simp; omega)) _
  have k1 : Blk ((w.alloc (.cells #[.bool false, .int .i64 0, .int .i64 0, .int .u32 0, .int .i32 0, .int .u32 0, .int .i64 0, .slice none 0 0] 36)).alloc (.cells #[.pointer none, .pointer (some ⟨w.heap.size, 0, none⟩)] 37)) (w.heap.size) 36 #[.bool false, .int .i64 0, .int .i64 0, .int .u32 0, .int .i32 0, .int .u32 0, .int .i64 0, .slice none 0 0] := (Blk.new w 36 #[.bool false, .int .i64 0, .int .i64 0, .int .u32 0, .int .i32 0, .int .u32 0, .int .i64 0, .slice none 0 0]).alloc _
  have k2 : Blk ((w.alloc (.cells #[.bool false, .int .i64 0, .int .i64 0, .int .u32 0, .int .i32 0, .int .u32 0, .int .i64 0, .slice none 0 0] 36)).alloc (.cells #[.pointer none, .pointer (some ⟨w.heap.size, 0, none⟩)] 37)) (w.heap.size + 1) 37 #[.pointer none, .pointer (some ⟨w.heap.size, 0, none⟩)] := by
    have := Blk.new (w.alloc (.cells #[.bool false, .int .i64 0, .int .i64 0, .int .u32 0, .int .i32 0, .int .u32 0, .int .i64 0, .slice none 0 0] 36)) 37 #[.pointer none, .pointer (some ⟨w.heap.size, 0, none⟩)]
    simpa using this
  replace hb0 := hb0.trans (hv1.mono hb0.size)
  generalize ((w.alloc (.cells #[.bool false, .int .i64 0, .int .i64 0, .int .u32 0, .int .i32 0, .int .u32 0, .int .i64 0, .slice none 0 0] 36)).alloc (.cells #[.pointer none, .pointer (some ⟨w.heap.size, 0, none⟩)] 37)) = v1 at *
  clear hv1
  have k1_c0 := k1.cell 0
  have k1_f0 := k1.frozen 0
  have k1_c1 := k1.cell 1
  have k1_f1 := k1.frozen 1
  have k1_c2 := k1.cell 2
  have k1_f2 := k1.frozen 2
  have k1_c3 := k1.cell 3
  have k1_f3 := k1.frozen 3
  have k1_c4 := k1.cell 4
  have k1_f4 := k1.frozen 4
  have k1_c5 := k1.cell 5
  have k1_f5 := k1.frozen 5
  have k1_c6 := k1.cell 6
  have k1_f6 := k1.frozen 6
  have k1_c7 := k1.cell 7
  have k1_f7 := k1.frozen 7
  have k1_z := k1.lt
  have k2_c0 := k2.cell 0
  have k2_f0 := k2.frozen 0
  have k2_c1 := k2.cell 1
  have k2_f1 := k2.frozen 1
  have k2_z := k2.lt
  simp only [List.getElem?_toArray, List.getElem?_cons_zero, List.getElem?_cons_succ] at k1_c0 k1_c1 k1_c2 k1_c3 k1_c4 k1_c5 k1_c6 k1_c7 k2_c0 k2_c1
  go_upto_region 4 with fail
  refine wp_loop_rounds 3 ?_
  clear k1_c0 k1_f0 k1_c1 k1_f1 k1_c2 k1_f2 k1_c3 k1_f3 k1_c4 k1_f4 k1_c5 k1_f5 k1_c6 k1_f6 k1_c7 k1_f7 k1_z k2_c0 k2_f0 k2_c1 k2_f1 k2_z
  have k1_c0 := k1.cell 0
  have k1_f0 := k1.frozen 0
  have k1_c1 := k1.cell 1
  have k1_f1 := k1.frozen 1
  have k1_c2 := k1.cell 2
  have k1_f2 := k1.frozen 2
  have k1_c3 := k1.cell 3
  have k1_f3 := k1.frozen 3
  have k1_c4 := k1.cell 4
  have k1_f4 := k1.frozen 4
  have k1_c5 := k1.cell 5
  have k1_f5 := k1.frozen 5
  have k1_c6 := k1.cell 6
  have k1_f6 := k1.frozen 6
  have k1_c7 := k1.cell 7
  have k1_f7 := k1.frozen 7
  have k1_z := k1.lt
  have k2_c0 := k2.cell 0
  have k2_f0 := k2.frozen 0
  have k2_c1 := k2.cell 1
  have k2_f1 := k2.frozen 1
  have k2_z := k2.lt
  simp only [List.getElem?_toArray, List.getElem?_cons_zero, List.getElem?_cons_succ] at k1_c0 k1_c1 k1_c2 k1_c3 k1_c4 k1_c5 k1_c6 k1_c7 k2_c0 k2_c1
  rw [rounds_succ]
  go_wp2_with fail
  clear k1_c0 k1_f0 k1_c1 k1_f1 k1_c2 k1_f2 k1_c3 k1_f3 k1_c4 k1_f4 k1_c5 k1_f5 k1_c6 k1_f6 k1_c7 k1_f7 k1_z k2_c0 k2_f0 k2_c1 k2_f1 k2_z
  refine (crowd_no none n a _ (.inl rfl)).mono ?_
  rintro e w2 ⟨rfl, hb2⟩
  replace hb0 := hb0.trans (hb2.mono hb0.size)
  replace k1 := k1.below hb2 k1.lt
  replace k2 := k2.below hb2 k2.lt
  clear hb2
  have k1_c0 := k1.cell 0
  have k1_f0 := k1.frozen 0
  have k1_c1 := k1.cell 1
  have k1_f1 := k1.frozen 1
  have k1_c2 := k1.cell 2
  have k1_f2 := k1.frozen 2
  have k1_c3 := k1.cell 3
  have k1_f3 := k1.frozen 3
  have k1_c4 := k1.cell 4
  have k1_f4 := k1.frozen 4
  have k1_c5 := k1.cell 5
  have k1_f5 := k1.frozen 5
  have k1_c6 := k1.cell 6
  have k1_f6 := k1.frozen 6
  have k1_c7 := k1.cell 7
  have k1_f7 := k1.frozen 7
  have k1_z := k1.lt
  have k2_c0 := k2.cell 0
  have k2_f0 := k2.frozen 0
  have k2_c1 := k2.cell 1
  have k2_f1 := k2.frozen 1
  have k2_z := k2.lt
  simp only [List.getElem?_toArray, List.getElem?_cons_zero, List.getElem?_cons_succ] at k1_c0 k1_c1 k1_c2 k1_c3 k1_c4 k1_c5 k1_c6 k1_c7 k2_c0 k2_c1
  go_wp2_with fail
  clear k1_c0 k1_f0 k1_c1 k1_f1 k1_c2 k1_f2 k1_c3 k1_f3 k1_c4 k1_f4 k1_c5 k1_f5 k1_c6 k1_f6 k1_c7 k1_f7 k1_z k2_c0 k2_f0 k2_c1 k2_f1 k2_z
  refine (ten_no none n _ (.inl rfl)).mono ?_
  rintro e w3 ⟨rfl, hb3⟩
  replace hb0 := hb0.trans (hb3.mono hb0.size)
  replace k1 := k1.below hb3 k1.lt
  replace k2 := k2.below hb3 k2.lt
  clear hb3
  have k1_c0 := k1.cell 0
  have k1_f0 := k1.frozen 0
  have k1_c1 := k1.cell 1
  have k1_f1 := k1.frozen 1
  have k1_c2 := k1.cell 2
  have k1_f2 := k1.frozen 2
  have k1_c3 := k1.cell 3
  have k1_f3 := k1.frozen 3
  have k1_c4 := k1.cell 4
  have k1_f4 := k1.frozen 4
  have k1_c5 := k1.cell 5
  have k1_f5 := k1.frozen 5
  have k1_c6 := k1.cell 6
  have k1_f6 := k1.frozen 6
  have k1_c7 := k1.cell 7
  have k1_f7 := k1.frozen 7
  have k1_z := k1.lt
  have k2_c0 := k2.cell 0
  have k2_f0 := k2.frozen 0
  have k2_c1 := k2.cell 1
  have k2_f1 := k2.frozen 1
  have k2_z := k2.lt
  simp only [List.getElem?_toArray, List.getElem?_cons_zero, List.getElem?_cons_succ] at k1_c0 k1_c1 k1_c2 k1_c3 k1_c4 k1_c5 k1_c6 k1_c7 k2_c0 k2_c1
  go_wp2_with fail
  clear k1_c0 k1_f0 k1_c1 k1_f1 k1_c2 k1_f2 k1_c3 k1_f3 k1_c4 k1_f4 k1_c5 k1_f5 k1_c6 k1_f6 k1_c7 k1_f7 k1_z k2_c0 k2_f0 k2_c1 k2_f1 k2_z
  refine (Kn.of_law _ _ _ _ _).mono ?_
  rintro e w4 ⟨rfl, hb4⟩
  replace hb0 := hb0.trans (hb4.mono hb0.size)
  replace k1 := k1.below hb4 k1.lt
  replace k2 := k2.below hb4 k2.lt
  clear hb4
  have k1_c0 := k1.cell 0
  have k1_f0 := k1.frozen 0
  have k1_c1 := k1.cell 1
  have k1_f1 := k1.frozen 1
  have k1_c2 := k1.cell 2
  have k1_f2 := k1.frozen 2
  have k1_c3 := k1.cell 3
  have k1_f3 := k1.frozen 3
  have k1_c4 := k1.cell 4
  have k1_f4 := k1.frozen 4
  have k1_c5 := k1.cell 5
  have k1_f5 := k1.frozen 5
  have k1_c6 := k1.cell 6
  have k1_f6 := k1.frozen 6
  have k1_c7 := k1.cell 7
  have k1_f7 := k1.frozen 7
  have k1_z := k1.lt
  have k2_c0 := k2.cell 0
  have k2_f0 := k2.frozen 0
  have k2_c1 := k2.cell 1
  have k2_f1 := k2.frozen 1
  have k2_z := k2.lt
  simp only [List.getElem?_toArray, List.getElem?_cons_zero, List.getElem?_cons_succ] at k1_c0 k1_c1 k1_c2 k1_c3 k1_c4 k1_c5 k1_c6 k1_c7 k2_c0 k2_c1
  go_wp2_with fail
  clear k1_c0 k1_f0 k1_c1 k1_f1 k1_c2 k1_f2 k1_c3 k1_f3 k1_c4 k1_f4 k1_c5 k1_f5 k1_c6 k1_f6 k1_c7 k1_f7 k1_z k2_c0 k2_f0 k2_c1 k2_f1 k2_z
  refine (made_nil _).mono ?_
  rintro e w5 ⟨rfl, hb5⟩
  replace hb0 := hb0.trans (hb5.mono hb0.size)
  replace k1 := k1.below hb5 k1.lt
  replace k2 := k2.below hb5 k2.lt
  clear hb5
  have k1_c0 := k1.cell 0
  have k1_f0 := k1.frozen 0
  have k1_c1 := k1.cell 1
  have k1_f1 := k1.frozen 1
  have k1_c2 := k1.cell 2
  have k1_f2 := k1.frozen 2
  have k1_c3 := k1.cell 3
  have k1_f3 := k1.frozen 3
  have k1_c4 := k1.cell 4
  have k1_f4 := k1.frozen 4
  have k1_c5 := k1.cell 5
  have k1_f5 := k1.frozen 5
  have k1_c6 := k1.cell 6
  have k1_f6 := k1.frozen 6
  have k1_c7 := k1.cell 7
  have k1_f7 := k1.frozen 7
  have k1_z := k1.lt
  have k2_c0 := k2.cell 0
  have k2_f0 := k2.frozen 0
  have k2_c1 := k2.cell 1
  have k2_f1 := k2.frozen 1
  have k2_z := k2.lt
  simp only [List.getElem?_toArray, List.getElem?_cons_zero, List.getElem?_cons_succ] at k1_c0 k1_c1 k1_c2 k1_c3 k1_c4 k1_c5 k1_c6 k1_c7 k2_c0 k2_c1
  go_wp2
  clear k1_c0 k1_f0 k1_c1 k1_f1 k1_c2 k1_f2 k1_c3 k1_f3 k1_c4 k1_f4 k1_c5 k1_f5 k1_c6 k1_f6 k1_c7 k1_f7 k1_z k2_c0 k2_f0 k2_c1 k2_f1 k2_z
  have k1_c0 := k1.cell 0
  have k1_f0 := k1.frozen 0
  have k1_c1 := k1.cell 1
  have k1_f1 := k1.frozen 1
  have k1_c2 := k1.cell 2
  have k1_f2 := k1.frozen 2
  have k1_c3 := k1.cell 3
  have k1_f3 := k1.frozen 3
  have k1_c4 := k1.cell 4
  have k1_f4 := k1.frozen 4
  have k1_c5 := k1.cell 5
  have k1_f5 := k1.frozen 5
  have k1_c6 := k1.cell 6
  have k1_f6 := k1.frozen 6
  have k1_c7 := k1.cell 7
  have k1_f7 := k1.frozen 7
  have k1_z := k1.lt
  have k2_c0 := k2.cell 0
  have k2_f0 := k2.frozen 0
  have k2_c1 := k2.cell 1
  have k2_f1 := k2.frozen 1
  have k2_z := k2.lt
  simp only [List.getElem?_toArray, List.getElem?_cons_zero, List.getElem?_cons_succ] at k1_c0 k1_c1 k1_c2 k1_c3 k1_c4 k1_c5 k1_c6 k1_c7 k2_c0 k2_c1
  rw [rounds_succ]
  go_wp2_with fail
  clear k1_c0 k1_f0 k1_c1 k1_f1 k1_c2 k1_f2 k1_c3 k1_f3 k1_c4 k1_f4 k1_c5 k1_f5 k1_c6 k1_f6 k1_c7 k1_f7 k1_z k2_c0 k2_f0 k2_c1 k2_f1 k2_z
  refine (crowd_no (some ⟨w.heap.size, 0, none⟩) n a _ (.inr ⟨_, rfl, k1.lt, k1.cell 0⟩)).mono ?_
  rintro e w6 ⟨rfl, hb6⟩
  replace hb0 := hb0.trans (hb6.mono hb0.size)
  replace k1 := k1.below hb6 k1.lt
  replace k2 := k2.below hb6 k2.lt
  clear hb6
  have k1_c0 := k1.cell 0
  have k1_f0 := k1.frozen 0
  have k1_c1 := k1.cell 1
  have k1_f1 := k1.frozen 1
  have k1_c2 := k1.cell 2
  have k1_f2 := k1.frozen 2
  have k1_c3 := k1.cell 3
  have k1_f3 := k1.frozen 3
  have k1_c4 := k1.cell 4
  have k1_f4 := k1.frozen 4
  have k1_c5 := k1.cell 5
  have k1_f5 := k1.frozen 5
  have k1_c6 := k1.cell 6
  have k1_f6 := k1.frozen 6
  have k1_c7 := k1.cell 7
  have k1_f7 := k1.frozen 7
  have k1_z := k1.lt
  have k2_c0 := k2.cell 0
  have k2_f0 := k2.frozen 0
  have k2_c1 := k2.cell 1
  have k2_f1 := k2.frozen 1
  have k2_z := k2.lt
  simp only [List.getElem?_toArray, List.getElem?_cons_zero, List.getElem?_cons_succ] at k1_c0 k1_c1 k1_c2 k1_c3 k1_c4 k1_c5 k1_c6 k1_c7 k2_c0 k2_c1
  go_wp2_with fail
  clear k1_c0 k1_f0 k1_c1 k1_f1 k1_c2 k1_f2 k1_c3 k1_f3 k1_c4 k1_f4 k1_c5 k1_f5 k1_c6 k1_f6 k1_c7 k1_f7 k1_z k2_c0 k2_f0 k2_c1 k2_f1 k2_z
  refine (ten_no (some ⟨w.heap.size, 0, none⟩) n _ (.inr ⟨_, rfl, k1.lt, k1.cell 0⟩)).mono ?_
  rintro e w7 ⟨rfl, hb7⟩
  replace hb0 := hb0.trans (hb7.mono hb0.size)
  replace k1 := k1.below hb7 k1.lt
  replace k2 := k2.below hb7 k2.lt
  clear hb7
  have k1_c0 := k1.cell 0
  have k1_f0 := k1.frozen 0
  have k1_c1 := k1.cell 1
  have k1_f1 := k1.frozen 1
  have k1_c2 := k1.cell 2
  have k1_f2 := k1.frozen 2
  have k1_c3 := k1.cell 3
  have k1_f3 := k1.frozen 3
  have k1_c4 := k1.cell 4
  have k1_f4 := k1.frozen 4
  have k1_c5 := k1.cell 5
  have k1_f5 := k1.frozen 5
  have k1_c6 := k1.cell 6
  have k1_f6 := k1.frozen 6
  have k1_c7 := k1.cell 7
  have k1_f7 := k1.frozen 7
  have k1_z := k1.lt
  have k2_c0 := k2.cell 0
  have k2_f0 := k2.frozen 0
  have k2_c1 := k2.cell 1
  have k2_f1 := k2.frozen 1
  have k2_z := k2.lt
  simp only [List.getElem?_toArray, List.getElem?_cons_zero, List.getElem?_cons_succ] at k1_c0 k1_c1 k1_c2 k1_c3 k1_c4 k1_c5 k1_c6 k1_c7 k2_c0 k2_c1
  go_wp2_with fail
  clear k1_c0 k1_f0 k1_c1 k1_f1 k1_c2 k1_f2 k1_c3 k1_f3 k1_c4 k1_f4 k1_c5 k1_f5 k1_c6 k1_f6 k1_c7 k1_f7 k1_z k2_c0 k2_f0 k2_c1 k2_f1 k2_z
  refine (Kn.of_law _ _ _ _ _).mono ?_
  rintro e w8 ⟨rfl, hb8⟩
  replace hb0 := hb0.trans (hb8.mono hb0.size)
  replace k1 := k1.below hb8 k1.lt
  replace k2 := k2.below hb8 k2.lt
  clear hb8
  have k1_c0 := k1.cell 0
  have k1_f0 := k1.frozen 0
  have k1_c1 := k1.cell 1
  have k1_f1 := k1.frozen 1
  have k1_c2 := k1.cell 2
  have k1_f2 := k1.frozen 2
  have k1_c3 := k1.cell 3
  have k1_f3 := k1.frozen 3
  have k1_c4 := k1.cell 4
  have k1_f4 := k1.frozen 4
  have k1_c5 := k1.cell 5
  have k1_f5 := k1.frozen 5
  have k1_c6 := k1.cell 6
  have k1_f6 := k1.frozen 6
  have k1_c7 := k1.cell 7
  have k1_f7 := k1.frozen 7
  have k1_z := k1.lt
  have k2_c0 := k2.cell 0
  have k2_f0 := k2.frozen 0
  have k2_c1 := k2.cell 1
  have k2_f1 := k2.frozen 1
  have k2_z := k2.lt
  simp only [List.getElem?_toArray, List.getElem?_cons_zero, List.getElem?_cons_succ] at k1_c0 k1_c1 k1_c2 k1_c3 k1_c4 k1_c5 k1_c6 k1_c7 k2_c0 k2_c1
  go_wp2_with fail
  clear k1_c0 k1_f0 k1_c1 k1_f1 k1_c2 k1_f2 k1_c3 k1_f3 k1_c4 k1_f4 k1_c5 k1_f5 k1_c6 k1_f6 k1_c7 k1_f7 k1_z k2_c0 k2_f0 k2_c1 k2_f1 k2_z
  refine (made_zero _ _ (k1.cell 6)).mono ?_
  rintro e w9 ⟨rfl, hb9⟩
  replace hb0 := hb0.trans (hb9.mono hb0.size)
  replace k1 := k1.below hb9 k1.lt
  replace k2 := k2.below hb9 k2.lt
  clear hb9
  have k1_c0 := k1.cell 0
  have k1_f0 := k1.frozen 0
  have k1_c1 := k1.cell 1
  have k1_f1 := k1.frozen 1
  have k1_c2 := k1.cell 2
  have k1_f2 := k1.frozen 2
  have k1_c3 := k1.cell 3
  have k1_f3 := k1.frozen 3
  have k1_c4 := k1.cell 4
  have k1_f4 := k1.frozen 4
  have k1_c5 := k1.cell 5
  have k1_f5 := k1.frozen 5
  have k1_c6 := k1.cell 6
  have k1_f6 := k1.frozen 6
  have k1_c7 := k1.cell 7
  have k1_f7 := k1.frozen 7
  have k1_z := k1.lt
  have k2_c0 := k2.cell 0
  have k2_f0 := k2.frozen 0
  have k2_c1 := k2.cell 1
  have k2_f1 := k2.frozen 1
  have k2_z := k2.lt
  simp only [List.getElem?_toArray, List.getElem?_cons_zero, List.getElem?_cons_succ] at k1_c0 k1_c1 k1_c2 k1_c3 k1_c4 k1_c5 k1_c6 k1_c7 k2_c0 k2_c1
  go_wp2
  clear k1_c0 k1_f0 k1_c1 k1_f1 k1_c2 k1_f2 k1_c3 k1_f3 k1_c4 k1_f4 k1_c5 k1_f5 k1_c6 k1_f6 k1_c7 k1_f7 k1_z k2_c0 k2_f0 k2_c1 k2_f1 k2_z
  have k1_c0 := k1.cell 0
  have k1_f0 := k1.frozen 0
  have k1_c1 := k1.cell 1
  have k1_f1 := k1.frozen 1
  have k1_c2 := k1.cell 2
  have k1_f2 := k1.frozen 2
  have k1_c3 := k1.cell 3
  have k1_f3 := k1.frozen 3
  have k1_c4 := k1.cell 4
  have k1_f4 := k1.frozen 4
  have k1_c5 := k1.cell 5
  have k1_f5 := k1.frozen 5
  have k1_c6 := k1.cell 6
  have k1_f6 := k1.frozen 6
  have k1_c7 := k1.cell 7
  have k1_f7 := k1.frozen 7
  have k1_z := k1.lt
  have k2_c0 := k2.cell 0
  have k2_f0 := k2.frozen 0
  have k2_c1 := k2.cell 1
  have k2_f1 := k2.frozen 1
  have k2_z := k2.lt
  simp only [List.getElem?_toArray, List.getElem?_cons_zero, List.getElem?_cons_succ] at k1_c0 k1_c1 k1_c2 k1_c3 k1_c4 k1_c5 k1_c6 k1_c7 k2_c0 k2_c1
  rw [rounds_succ]
  go_wp2
  go_ret
  exact ⟨rfl, hb0⟩
end Go.Proofs.YtlhcnophehfkoaaDoor
