/- Walks of numeralbig: fractions are set. -/
import Derived.Test.YtenekbfnlbipiaaGreatDoorBgO
namespace Go.Proofs.YtenekbfnlbipiaaGreatDoor
open Go.RowKit
set_option linter.unusedVariables false
set_option linter.unusedSimpArgs false
set_option maxHeartbeats 4000000
set_option maxRecDepth 100000
namespace Bg
theorem div_ne {u g : Nat} (hu : u ≠ 0) (h : g ∣ u) : u / g ≠ 0 := by
  obtain ⟨k, rfl⟩ := h
  have hg : 0 < g := by rcases Nat.eq_zero_or_pos g with h | h; · subst h; simp at hu
                        · exact h
  rw [Nat.mul_div_cancel_left _ hg]
  rintro rfl; simp at hu
theorem limbs_two {n : Nat} (h : n < 18446744073709551616) : (limbs n).length ≤ 2 := by
  rw [length_limbs_le, show (4294967296 : Nat) ^ 2 = 18446744073709551616 from rfl]; exact h
theorem limbs_div_le (u g : Nat) : (limbs (u / g)).length ≤ (limbs u).length := limbs_mono (Nat.div_le_self u g)
theorem rat_set (z : Nat) (A B : Option Addr) (u v c d : Nat) (hu : u ≠ 0) (hv : v ≠ 0) (h2 : u = 2 ^ tz u ∨ v = 2 ^ tz v) (hlu : (limbs u).length ≤ 20000) (hlv : (limbs v).length ≤ 20000) (hc : (limbs u).length ≤ c) (hd : (limbs v).length ≤ d) (w : World) (hT : Tz w) (hz : RAt w z) (hA : Own w 153 0 A c (limbs u)) (hB : Own w 153 0 B d (limbs v)) :
    Calls Tryz.prog 126 #[.pointer (some ⟨z, 0, none⟩), .bool false, .slice A (limbs u).length c, .slice B (limbs v).length d] w (RSets w z (u / Nat.gcd u v) (v / Nat.gcd u v)) := by
  have hT1 := fun w h => big_trim A (limbs u) _ c rfl hc w h
  have hT2 := fun w h => big_trim B (limbs v) _ d rfl hd w h
  rw [val_limbs] at hT1 hT2
  have hCm := big_common A B u v c d hu hv h2 hlu hlv
  have hg0 : Nat.gcd u v ≠ 0 := by intro h; exact hu (Nat.eq_zero_of_gcd_eq_zero_left h)
  have hub := div_ne hu (Nat.gcd_dvd_left u v)
  have hvb := div_ne hv (Nat.gcd_dvd_right u v)
  have hl1 : (((limbs u).length : Int) == 0) = false := by have := limbs_pos hu; rw [beq_eq_false_iff_ne]; omega
  obtain ⟨g, hg⟩ : ∃ g, g = Nat.gcd u v := ⟨_, rfl⟩
  rw [← hg] at hCm hg0 hub hvb ⊢
  clear hg h2 hu
  have hBy1 := fun G k => big_by A G u g c k hg0 hc hlu
  have hBy2 := fun G k => big_by B G v g d k hg0 hd hlv
  obtain ⟨U, hU⟩ : ∃ U, U = u / g := ⟨_, rfl⟩
  obtain ⟨V, hV⟩ : ∃ V, V = v / g := ⟨_, rfl⟩
  rw [← hU] at hBy1 hub ⊢
  rw [← hV] at hBy2 hvb ⊢
  clear hU hV
  obtain ⟨D0, hz⟩ := hz
  go_enter Tryz.func126, Tryz.ntmps126
  go_wp2_with fail
  refine (hT1 _ hA.rd).mono ?_
  rintro e w1 ⟨rfl, rfl⟩
  go_wp2_with fail
  refine (hT2 _ hB.rd).mono ?_
  rintro e w1 ⟨rfl, rfl⟩
  go_wp2_with fail
  refine (hCm _ hA.rd hB.rd hT).mono ?_
  rintro e w1 ⟨G, k, rfl, hk, hG, hb1⟩
  have hA1 := hA.below hb1 (Nat.le_refl _)
  have hB1 := hB.below hb1 (Nat.le_refl _)
  have hG1 := hG.mono (Nat.zero_le _)
  have hz1 := at_of_below hz hb1
  clear hG
  go_wp2_with fail
  refine region_until 7 (fun w' => True) (by kernel_rfl) ?_
  have hS : True := trivial
  refine Until.take (i := 0) (v := ?_) rfl (by kernel_rfl) (by kernel_rfl) (by kernel_rfl) (by kernel_rfl) (fun _ _ _ h => h) hS (.inl ⟨by rfl, ?_⟩) ?_
  rotate_left
  · (intro w hSw; (try dsimp only at hSw); go_simp; try with_reducible rfl)
  simp only [Act.put, List.setIfInBounds_toArray, List.set_cons_zero, List.set_cons_succ]
  refine Until.take (i := 1) (v := ?_) rfl (by kernel_rfl) (by kernel_rfl) (by kernel_rfl) (by kernel_rfl) (fun _ _ _ h => h) hS (.inl ⟨by rfl, ?_⟩) ?_
  rotate_left
  · (intro w hSw; (try dsimp only at hSw); go_simp; try with_reducible rfl)
  simp only [Act.put, List.setIfInBounds_toArray, List.set_cons_zero, List.set_cons_succ]
  refine Until.take (i := 2) (v := ?_) rfl (by kernel_rfl) (by kernel_rfl) (by kernel_rfl) (by kernel_rfl) (fun _ _ _ h => h) hS (.inl ⟨by rfl, ?_⟩) ?_
  rotate_left
  · (intro w hSw; (try dsimp only at hSw); go_simp; try with_reducible rfl)
  simp only [Act.put, List.setIfInBounds_toArray, List.set_cons_zero, List.set_cons_succ]
  refine Until.take (i := 3) (v := ?_) rfl (by kernel_rfl) (by kernel_rfl) (by kernel_rfl) (by kernel_rfl) (fun _ _ _ h => h) hS (.inl ⟨by rfl, ?_⟩) ?_
  rotate_left
  · (intro w hSw; (try dsimp only at hSw); go_simp; try with_reducible rfl)
  simp only [Act.put, List.setIfInBounds_toArray, List.set_cons_zero, List.set_cons_succ]
  refine Until.take (i := 4) (v := ?_) rfl (by kernel_rfl) (by kernel_rfl) (by kernel_rfl) (by kernel_rfl) (fun _ _ _ h => h) hS (.inl ⟨by rfl, ?_⟩) ?_
  rotate_left
  · (intro w hSw; (try dsimp only at hSw); go_simp; try with_reducible rfl)
  simp only [Act.put, List.setIfInBounds_toArray, List.set_cons_zero, List.set_cons_succ]
  refine Until.take (i := 5) (v := ?_) rfl (by kernel_rfl) (by kernel_rfl) (by kernel_rfl) (by kernel_rfl) (fun _ _ _ h => h) hS (.inl ⟨by rfl, ?_⟩) ?_
  rotate_left
  · (intro w hSw; (try dsimp only at hSw); go_simp; try with_reducible rfl)
  simp only [Act.put, List.setIfInBounds_toArray, List.set_cons_zero, List.set_cons_succ]
  refine Until.one (c := 6) (by kernel_rfl) rfl (by rfl) (fun K hK => ?_)
  go_simp
  refine (hBy1 G k _ hA1.drew hG1.drew).mono ?_
  rintro e w2 ⟨C, kc, rfl, hkc, hC, hb2⟩
  have hb12 : Below w.heap.size w w2 := hb1.drew.trans (hb2.mono hb1.size)
  have hb2' : Below w1.heap.size w1 w2 := (Below.refl w1.heap.size w1).drew.trans hb2
  dsimp only
  replace hS : True := trivial
  refine hK.out _ _ (.inr hS) ?_
  clear hK K
  refine Until.one (c := 7) (by kernel_rfl) rfl (by rfl) (fun K hK => ?_)
  go_simp
  refine (int_set z _ [D0] (by decide) false C (limbs U) _ kc rfl hkc _ (at_of_below hz1 hb2') hC).mono ?_
  rintro e w3 ⟨rfl, hh3, hob3⟩
  rw [val_limbs, nofalse] at hob3
  dsimp only
  refine hK.out _ _ (.inl (by kernel_rfl)) ?_
  clear hK K
  refine Until.done (by kernel_rfl) ?_ _
  have hB2 := hB1.below hb2' (Nat.le_refl _)
  have hG2 := hG1.below hb2' (Nat.le_refl _)
  obtain ⟨x5, y5, hz5⟩ := at_of_below hz1 hb2'
  have hB3 := own_hole hB2 hz5 (by decide) hh3
  have hG3 := own_hole hG2 hz5 (by decide) hh3
  go_wp2_with fail
  refine (hBy2 G k _ hB3 hG3).mono ?_
  rintro e w4 ⟨D, kd, rfl, hkd, hD, hb4⟩
  have hob4 := hob3.below hb4
  obtain ⟨A6, c6, hb6, hc6, ho6⟩ := id hob4
  have c2 := hb6.cell 2
  have f2 := hb6.frozen 2
  simp at c2
  go_wp2
  go_ret
  exact ⟨rfl, ((hole_of hb12 hh3).then_ hb4).setCell rfl _, rt_set2 hob4 hkd hD (.inr ⟨rfl, hvb⟩)⟩
theorem rat_SetFrac (z x y : Nat) (TX TY : TypeId) (restx resty : List Value) (u v : Nat) (hu : u ≠ 0) (hv : v ≠ 0) (h2 : u = 2 ^ tz u ∨ v = 2 ^ tz v) (hlu : (limbs u).length ≤ 20000) (hlv : (limbs v).length ≤ 20000) (w : World) (hT : Tz w) (hz : RAt w z) (hx : Ob w x TX false u restx) (hy : Ob w y TY false v resty) :
    Calls Tryz.prog 76 #[.pointer (some ⟨z, 0, none⟩), .pointer (some ⟨x, 0, none⟩), .pointer (some ⟨y, 0, none⟩)] w (RSets w z (u / Nat.gcd u v) (v / Nat.gcd u v)) := by
  obtain ⟨A, c, c0, c1, hc, ho⟩ := hx.cells
  obtain ⟨B, d, b0, b1, hd, hp⟩ := hy.cells
  have hS0 := fun X Y => rat_set z X Y u v (limbs u).length (limbs v).length hu hv h2 hlu hlv (Nat.le_refl _) (Nat.le_refl _)
  obtain ⟨U, hU⟩ : ∃ U, U = u / Nat.gcd u v := ⟨_, rfl⟩
  obtain ⟨V, hV⟩ : ∃ V, V = v / Nat.gcd u v := ⟨_, rfl⟩
  rw [← hU, ← hV] at hS0 ⊢
  clear hU hV h2 hu hv
  go_enter Tryz.func76, Tryz.ntmps76
  go_wp2_with fail
  refine region_until 20 (fun w' => w'.cell? ⟨x, 0, none⟩ = some (.bool false) ∧ w'.cell? ⟨x, 1, none⟩ = some (.slice A (limbs u).length c) ∧ w'.cell? ⟨y, 0, none⟩ = some (.bool false) ∧ w'.cell? ⟨y, 1, none⟩ = some (.slice B (limbs v).length d)) (by kernel_rfl) ?_
  have hS : w.drew.cell? ⟨x, 0, none⟩ = some (.bool false) ∧ w.drew.cell? ⟨x, 1, none⟩ = some (.slice A (limbs u).length c) ∧ w.drew.cell? ⟨y, 0, none⟩ = some (.bool false) ∧ w.drew.cell? ⟨y, 1, none⟩ = some (.slice B (limbs v).length d) := ⟨c0, c1, b0, b1⟩
  refine Until.take (i := 0) (v := ?_) rfl (by kernel_rfl) (by kernel_rfl) (by kernel_rfl) (by kernel_rfl) (fun _ _ _ h => h) hS (.inl ⟨by rfl, ?_⟩) ?_
  rotate_left
  · (intro w hSw; (try dsimp only at hSw); go_simp; try with_reducible rfl)
  simp only [Act.put, List.setIfInBounds_toArray, List.set_cons_zero, List.set_cons_succ]
  refine Until.take (i := 1) (v := ?_) rfl (by kernel_rfl) (by kernel_rfl) (by kernel_rfl) (by kernel_rfl) (fun _ _ _ h => h) hS (.inl ⟨by rfl, ?_⟩) ?_
  rotate_left
  · (intro w hSw; (try dsimp only at hSw); go_simp; try with_reducible rfl)
  simp only [Act.put, List.setIfInBounds_toArray, List.set_cons_zero, List.set_cons_succ]
  refine Until.take (i := 2) (v := ?_) rfl (by kernel_rfl) (by kernel_rfl) (by kernel_rfl) (by kernel_rfl) (fun _ _ _ h => h) hS (.inl ⟨by rfl, ?_⟩) ?_
  rotate_left
  · (intro w hSw; (try dsimp only at hSw); go_simp; try with_reducible rfl)
  simp only [Act.put, List.setIfInBounds_toArray, List.set_cons_zero, List.set_cons_succ]
  refine Until.take (i := 3) (v := ?_) rfl (by kernel_rfl) (by kernel_rfl) (by kernel_rfl) (by kernel_rfl) (fun _ _ _ h => h) hS (.inl ⟨by rfl, ?_⟩) ?_
  rotate_left
  · (intro w hSw; (try dsimp only at hSw); go_simp; try with_reducible rfl)
  simp only [Act.put, List.setIfInBounds_toArray, List.set_cons_zero, List.set_cons_succ]
  refine Until.take (i := 4) (v := ?_) rfl (by kernel_rfl) (by kernel_rfl) (by kernel_rfl) (by kernel_rfl) (fun _ _ _ h => h) hS (.inl ⟨by rfl, ?_⟩) ?_
  rotate_left
  · (intro w hSw; (try dsimp only at hSw); go_simp; try with_reducible rfl)
  simp only [Act.put, List.setIfInBounds_toArray, List.set_cons_zero, List.set_cons_succ]
  refine Until.take (i := 5) (v := ?_) rfl (by kernel_rfl) (by kernel_rfl) (by kernel_rfl) (by kernel_rfl) (fun _ _ _ h => h) hS (.inl ⟨by rfl, ?_⟩) ?_
  rotate_left
  · (intro w hSw; (try dsimp only at hSw); go_simp; try with_reducible rfl)
  simp only [Act.put, List.setIfInBounds_toArray, List.set_cons_zero, List.set_cons_succ]
  refine Until.take (i := 6) (v := ?_) rfl (by kernel_rfl) (by kernel_rfl) (by kernel_rfl) (by kernel_rfl) (fun _ _ _ h => h) hS (.inl ⟨by rfl, ?_⟩) ?_
  rotate_left
  · (intro w hSw; (try dsimp only at hSw); go_simp; try with_reducible rfl)
  simp only [Act.put, List.setIfInBounds_toArray, List.set_cons_zero, List.set_cons_succ]
  refine Until.take (i := 7) (v := ?_) rfl (by kernel_rfl) (by kernel_rfl) (by kernel_rfl) (by kernel_rfl) (fun _ _ _ h => h) hS (.inl ⟨by rfl, ?_⟩) ?_
  rotate_left
  · (intro w hSw; (try dsimp only at hSw); go_simp; try with_reducible rfl)
  simp only [Act.put, List.setIfInBounds_toArray, List.set_cons_zero, List.set_cons_succ]
  refine Until.take (i := 8) (v := ?_) rfl (by kernel_rfl) (by kernel_rfl) (by kernel_rfl) (by kernel_rfl) (fun _ _ _ h => h) hS (.inl ⟨by rfl, ?_⟩) ?_
  rotate_left
  · (intro w hSw; (try dsimp only at hSw); go_simp; try with_reducible rfl)
  simp only [Act.put, List.setIfInBounds_toArray, List.set_cons_zero, List.set_cons_succ]
  refine Until.take (i := 9) (v := ?_) rfl (by kernel_rfl) (by kernel_rfl) (by kernel_rfl) (by kernel_rfl) (fun _ _ _ h => h) hS (.inl ⟨by rfl, ?_⟩) ?_
  rotate_left
  · (intro w hSw; (try dsimp only at hSw); go_simp; try with_reducible rfl)
  simp only [Act.put, List.setIfInBounds_toArray, List.set_cons_zero, List.set_cons_succ]
  refine Until.take (i := 10) (v := ?_) rfl (by kernel_rfl) (by kernel_rfl) (by kernel_rfl) (by kernel_rfl) (fun _ _ _ h => h) hS (.inl ⟨by rfl, ?_⟩) ?_
  rotate_left
  · (intro w hSw; (try dsimp only at hSw); go_simp; try with_reducible rfl)
  simp only [Act.put, List.setIfInBounds_toArray, List.set_cons_zero, List.set_cons_succ]
  refine Until.take (i := 11) (v := ?_) rfl (by kernel_rfl) (by kernel_rfl) (by kernel_rfl) (by kernel_rfl) (fun _ _ _ h => h) hS (.inl ⟨by rfl, ?_⟩) ?_
  rotate_left
  · (intro w hSw; (try dsimp only at hSw); go_simp; try with_reducible rfl)
  simp only [Act.put, List.setIfInBounds_toArray, List.set_cons_zero, List.set_cons_succ]
  refine Until.take (i := 12) (v := ?_) rfl (by kernel_rfl) (by kernel_rfl) (by kernel_rfl) (by kernel_rfl) (fun _ _ _ h => h) hS (.inl ⟨by rfl, ?_⟩) ?_
  rotate_left
  · (intro w hSw; (try dsimp only at hSw); go_simp; try with_reducible rfl)
  simp only [Act.put, List.setIfInBounds_toArray, List.set_cons_zero, List.set_cons_succ]
  refine Until.take (i := 13) (v := ?_) rfl (by kernel_rfl) (by kernel_rfl) (by kernel_rfl) (by kernel_rfl) (fun _ _ _ h => h) hS (.inl ⟨by rfl, ?_⟩) ?_
  rotate_left
  · (intro w hSw; (try dsimp only at hSw); go_simp; try with_reducible rfl)
  simp only [Act.put, List.setIfInBounds_toArray, List.set_cons_zero, List.set_cons_succ]
  refine Until.take (i := 15) (v := ?_) rfl (by kernel_rfl) (by kernel_rfl) (by kernel_rfl) (by kernel_rfl) (fun _ _ _ h => h) hS (.inl ⟨by rfl, ?_⟩) ?_
  rotate_left
  · (intro w hSw; (try dsimp only at hSw); go_simp; try with_reducible rfl)
  simp only [Act.put, List.setIfInBounds_toArray, List.set_cons_zero, List.set_cons_succ]
  refine Until.take (i := 16) (v := ?_) rfl (by kernel_rfl) (by kernel_rfl) (by kernel_rfl) (by kernel_rfl) (fun _ _ _ h => h) hS (.inl ⟨by rfl, ?_⟩) ?_
  rotate_left
  · (intro w hSw; (try dsimp only at hSw); go_simp; try with_reducible rfl)
  simp only [Act.put, List.setIfInBounds_toArray, List.set_cons_zero, List.set_cons_succ]
  refine Until.take (i := 17) (v := ?_) rfl (by kernel_rfl) (by kernel_rfl) (by kernel_rfl) (by kernel_rfl) (fun _ _ _ h => h) hS (.inl ⟨by rfl, ?_⟩) ?_
  rotate_left
  · (intro w hSw; (try dsimp only at hSw); go_simp; try with_reducible rfl)
  simp only [Act.put, List.setIfInBounds_toArray, List.set_cons_zero, List.set_cons_succ]
  refine Until.take (i := 18) (v := ?_) rfl (by kernel_rfl) (by kernel_rfl) (by kernel_rfl) (by kernel_rfl) (fun _ _ _ h => h) hS (.inl ⟨by rfl, ?_⟩) ?_
  rotate_left
  · (intro w hSw; (try dsimp only at hSw); go_simp; try with_reducible rfl)
  simp only [Act.put, List.setIfInBounds_toArray, List.set_cons_zero, List.set_cons_succ]
  refine Until.one (c := 14) (by kernel_rfl) rfl (by rfl) (fun K hK => ?_)
  go_simp
  refine (big_copied A (limbs u) _ c rfl _ ho.rd.drew).mono ?_
  rintro e w1 ⟨g, rfl, hg, hrow, hb1⟩
  have hb1' : Below w.heap.size w w1 := (Below.refl w.heap.size w).drew.trans hb1
  have hp1 := hp.below hb1' (Nat.le_refl _)
  dsimp only
  replace hS : w1.cell? ⟨x, 0, none⟩ = some (.bool false) ∧ w1.cell? ⟨x, 1, none⟩ = some (.slice A (limbs u).length c) ∧ w1.cell? ⟨y, 0, none⟩ = some (.bool false) ∧ w1.cell? ⟨y, 1, none⟩ = some (.slice B (limbs v).length d) := ⟨cell_keep hb1' c0, cell_keep hb1' c1, cell_keep hb1' b0, cell_keep hb1' b1⟩
  refine hK.out _ _ (.inr hS) ?_
  clear hK K
  refine Until.one (c := 19) (by kernel_rfl) rfl (by rfl) (fun K hK => ?_)
  go_simp
  refine (big_copied B (limbs v) _ d rfl _ hp1.rd).mono ?_
  rintro e w2 ⟨g2, rfl, hg2, hrow2, hb2⟩
  have hb12 : Below w.heap.size w w2 := hb1'.trans (hb2.mono hb1'.size)
  have hrow1 := hrow.below hb2 hrow.lt
  dsimp only
  replace hS : w2.cell? ⟨x, 0, none⟩ = some (.bool false) ∧ w2.cell? ⟨x, 1, none⟩ = some (.slice A (limbs u).length c) ∧ w2.cell? ⟨y, 0, none⟩ = some (.bool false) ∧ w2.cell? ⟨y, 1, none⟩ = some (.slice B (limbs v).length d) := ⟨cell_keep hb12 c0, cell_keep hb12 c1, cell_keep hb12 b0, cell_keep hb12 b1⟩
  refine hK.out _ _ (.inr hS) ?_
  clear hK K
  refine Until.one (c := 20) (by kernel_rfl) rfl (by rfl) (fun K hK => ?_)
  go_simp
  refine (hS0 (some ⟨g, 0, none⟩) (some ⟨g2, 0, none⟩) _ (hT.below hb12) (hz.below hb12) (by have := hrow1.own (sm_limbs u) ho.rd.len (Nat.zero_le _) (limbs u).length (Nat.le_refl _) (Nat.le_refl _); rw [List.take_length] at this; exact this) (by have := hrow2.own (sm_limbs v) hp.rd.len (Nat.zero_le _) (limbs v).length (Nat.le_refl _) (Nat.le_refl _); rw [List.take_length] at this; exact this)).mono ?_
  rintro e w3 ⟨rfl, hh3, hr3⟩
  dsimp only
  refine hK.out _ _ (.inl (by kernel_rfl)) ?_
  clear hK K
  refine Until.one (c := 21) (by kernel_rfl) rfl (by rfl) (fun K hK => ?_)
  go_simp
  refine hK.out _ _ (.inl (by kernel_rfl)) ?_
  clear hK K
  refine Until.done (by kernel_rfl) ?_ _
  go_wp2
  go_ret
  exact ⟨rfl, hole_of hb12 hh3, hr3⟩
theorem rat_New (u v : Nat) (hu0 : u < 9223372036854775808) (hv0 : v < 9223372036854775808) (hu : u ≠ 0) (hv : v ≠ 0) (h2 : u = 2 ^ tz u ∨ v = 2 ^ tz v) (w : World) (hT : Tz w) :
    Calls Tryz.prog 61 #[.int .i64 (u : Int), .int .i64 (v : Int)] w (RMakes w (u / Nat.gcd u v) (v / Nat.gcd u v)) := by
  have hlu : (limbs u).length ≤ 20000 := Nat.le_trans (limbs_two (by omega)) (by decide)
  have hlv : (limbs v).length ≤ 20000 := Nat.le_trans (limbs_two (by omega)) (by decide)
  have hSF := fun z x y => rat_SetFrac z x y 95 95 [] [] u v hu hv h2 hlu hlv
  have hS64 : ∀ z w, Tz w → RAt w z → Calls Tryz.prog 114 #[.pointer (some ⟨z, 0, none⟩), .int .i64 (u : Int), .int .i64 (v : Int)] w (RSets w z (u / Nat.gcd u v) (v / Nat.gcd u v)) := by
    intro z w hT hz
    obtain ⟨U, hU⟩ : ∃ U, U = u / Nat.gcd u v := ⟨_, rfl⟩
    obtain ⟨V, hV⟩ : ∃ V, V = v / Nat.gcd u v := ⟨_, rfl⟩
    rw [← hU, ← hV] at hSF ⊢
    clear hU hV h2 hu hv
    go_enter Tryz.func114, Tryz.ntmps114
    go_wp2_with fail
    refine (big_NewInt u hu0 _).mono ?_
    rintro e w1 ⟨g, rfl, hg, ho, hb1⟩
    go_wp2_with fail
    refine (big_NewInt v hv0 _).mono ?_
    rintro e w2 ⟨g2, rfl, hg2, ho2, hb2⟩
    have hb12 := hb1.trans (hb2.mono hb1.size)
    go_wp2_with fail
    refine (hSF z g g2 _ (hT.below hb12) (hz.below hb12) (ho.below hb2) ho2).mono ?_
    rintro e w3 ⟨rfl, hh3, hr3⟩
    go_wp2
    go_ret
    exact ⟨rfl, hole_of hb12 hh3, hr3⟩
  obtain ⟨U, hU⟩ : ∃ U, U = u / Nat.gcd u v := ⟨_, rfl⟩
  obtain ⟨V, hV⟩ : ∃ V, V = v / Nat.gcd u v := ⟨_, rfl⟩
  rw [← hU, ← hV] at hS64 ⊢
  clear hU hV h2 hu hv hSF
  have hal : Below w.heap.size w (w.alloc (.cells #[.bool false, .slice none 0 0, .slice none 0 0] 97)) := (Below.refl _ _).alloc (Nat.le_refl _) _
  have hat : RAt (w.alloc (.cells #[.bool false, .slice none 0 0, .slice none 0 0] 97)) w.heap.size := ⟨_, _, _, Blk.new w _ _⟩
  go_enter Tryz.func61, Tryz.ntmps61
  go_wp2_with fail
  refine (hS64 w.heap.size _ (hT.below hal) hat).mono ?_
  rintro e w3 ⟨rfl, hh3, hr3⟩
  go_wp2
  go_ret
  exact ⟨_, rfl, Nat.le_refl _, hr3, hole_fresh hal hh3 (Nat.le_refl _)⟩
end Bg
namespace Bg
def mulN (u1 v1 u2 v2 : Nat) : Nat := u1 / Nat.gcd u1 v2 * (u2 / Nat.gcd u2 v1)
def mulD (u1 v1 u2 v2 : Nat) : Nat := v1 / Nat.gcd u2 v1 * (v2 / Nat.gcd u1 v2)
theorem gcd_ne {u v : Nat} (hu : u ≠ 0) : Nat.gcd u v ≠ 0 := by intro h; exact hu (Nat.eq_zero_of_gcd_eq_zero_left h)
theorem short_div {u g : Nat} (h : (limbs u).length < 40) : (limbs (u / g)).length < 40 := Nat.lt_of_le_of_lt (limbs_div_le u g) h
theorem rat_times (z : Nat) (A B C D : Option Addr) (u1 v1 u2 v2 a b c d : Nat) (h1 : u1 ≠ 0) (h2 : u2 ≠ 0) (h3 : v1 ≠ 0) (h4 : v2 ≠ 0)
    (hp1 : u1 = 2 ^ tz u1 ∨ v2 = 2 ^ tz v2) (hp2 : u2 = 2 ^ tz u2 ∨ v1 = 2 ^ tz v1)
    (l1 : (limbs u1).length ≤ 5000) (l2 : (limbs u2).length ≤ 5000) (l3 : (limbs v1).length ≤ 5000) (l4 : (limbs v2).length ≤ 5000)
    (s1 : (limbs u1).length < 40 ∨ (limbs u2).length < 40) (s2 : (limbs v1).length < 40 ∨ (limbs v2).length < 40)
    (k1 : (limbs u1).length ≤ a) (k2 : (limbs v1).length ≤ b) (k3 : (limbs u2).length ≤ c) (k4 : (limbs v2).length ≤ d)
    (w : World) (hT : Tz w) (hz : RAt w z) (hA : Own w 153 0 A a (limbs u1)) (hB : Own w 153 0 B b (limbs v1)) (hC : Own w 153 0 C c (limbs u2)) (hD : Own w 153 0 D d (limbs v2)) :
    Calls Tryz.prog 96 #[.pointer (some ⟨z, 0, none⟩), .bool false, .slice A (limbs u1).length a, .slice B (limbs v1).length b, .slice C (limbs u2).length c, .slice D (limbs v2).length d] w (RSets w z (mulN u1 v1 u2 v2) (mulD u1 v1 u2 v2)) := by
  have hG := big_common A D u1 v2 a d h1 h4 hp1 (by omega) (by omega)
  have hH := big_common C B u2 v1 c b h2 h3 hp2 (by omega) (by omega)
  have g0 : Nat.gcd u1 v2 ≠ 0 := gcd_ne h1
  have g1 : Nat.gcd u2 v1 ≠ 0 := gcd_ne h2
  have n3 := div_ne h3 (Nat.gcd_dvd_right u2 v1)
  have n4 := div_ne h4 (Nat.gcd_dvd_right u1 v2)
  have e1 : (((limbs u1).length : Int) == 0) = false := by have := limbs_pos h1; rw [beq_eq_false_iff_ne]; omega
  have e2 : (((limbs u2).length : Int) == 0) = false := by have := limbs_pos h2; rw [beq_eq_false_iff_ne]; omega
  unfold mulN mulD
  obtain ⟨g, hg⟩ : ∃ g, g = Nat.gcd u1 v2 := ⟨_, rfl⟩
  obtain ⟨h, hh⟩ : ∃ h, h = Nat.gcd u2 v1 := ⟨_, rfl⟩
  rw [← hg] at hG g0 n4 ⊢
  rw [← hh] at hH g1 n3 ⊢
  clear hg hh hp1 hp2
  have y1 := fun G k => big_by A G u1 g a k g0 k1 (by omega)
  have y2 := fun G k => big_by C G u2 h c k g1 k3 (by omega)
  have y3 := fun G k => big_by B G v1 h b k g1 k2 (by omega)
  have y4 := fun G k => big_by D G v2 g d k g0 k4 (by omega)
  have q1 := limbs_div_le u1 g
  have q2 := limbs_div_le u2 h
  have q3 := limbs_div_le v1 h
  have q4 := limbs_div_le v2 g
  have m1 := fun X Y x y => big_mul X Y (limbs (u1 / g)) (limbs (u2 / h)) _ _ x y rfl rfl (by omega) (s1.imp short_div short_div)
  have m2 := fun X Y x y => big_mul X Y (limbs (v1 / h)) (limbs (v2 / g)) _ _ x y rfl rfl (by omega) (s2.imp short_div short_div)
  simp only [val_limbs] at m1 m2
  have nm : v1 / h * (v2 / g) ≠ 0 := Nat.mul_ne_zero n3 n4
  clear s1 s2 q1 q2 q3 q4 l1 l2 l3 l4
  obtain ⟨U1, hU1⟩ : ∃ x, x = u1 / g := ⟨_, rfl⟩
  obtain ⟨U2, hU2⟩ : ∃ x, x = u2 / h := ⟨_, rfl⟩
  obtain ⟨V1, hV1⟩ : ∃ x, x = v1 / h := ⟨_, rfl⟩
  obtain ⟨V2, hV2⟩ : ∃ x, x = v2 / g := ⟨_, rfl⟩
  rw [← hU1] at y1 m1 ⊢
  rw [← hU2] at y2 m1 ⊢
  rw [← hV1] at y3 m2 nm ⊢
  rw [← hV2] at y4 m2 nm ⊢
  obtain ⟨N, hN⟩ : ∃ x, x = U1 * U2 := ⟨_, rfl⟩
  obtain ⟨M, hM⟩ : ∃ x, x = V1 * V2 := ⟨_, rfl⟩
  rw [← hN] at m1 ⊢
  rw [← hM] at m2 nm ⊢
  clear hU1 hU2 hV1 hV2 hN hM h1 h2 h3 h4 n3 n4 g0 g1
  obtain ⟨D0, hz⟩ := hz
  go_enter Tryz.func96, Tryz.ntmps96
  go_wp2_with fail
  refine (hG _ hA.rd hD.rd hT).mono ?_
  rintro e w1 ⟨G, k, rfl, hk, hGo, hb1⟩
  go_wp2_with fail
  refine (hH _ (hC.below hb1 (Nat.le_refl _)).rd (hB.below hb1 (Nat.le_refl _)).rd (hT.below hb1)).mono ?_
  rintro e w2 ⟨H, kh, rfl, hkh, hHo, hb2⟩
  have b2 := hb1.trans (hb2.mono hb1.size)
  have G2 := (hGo.mono (Nat.zero_le _)).below hb2 (Nat.le_refl _)
  have H2 := hHo.mono (Nat.zero_le _)
  go_wp2_with fail
  refine (y1 G k _ (hA.below b2 (Nat.le_refl _)) G2).mono ?_
  rintro e w3 ⟨X1, x1, rfl, hx1, hX1, hb3⟩
  have b3 := b2.trans (hb3.mono b2.size)
  have H3 := H2.below hb3 (Nat.le_refl _)
  have G3 := G2.below hb3 (Nat.le_refl _)
  go_wp2_with fail
  refine (y2 H kh _ (hC.below b3 (Nat.le_refl _)) H3).mono ?_
  rintro e w4 ⟨X2, x2, rfl, hx2, hX2, hb4⟩
  have b4 := b3.trans (hb4.mono b3.size)
  have H4 := H3.below hb4 (Nat.le_refl _)
  have G4 := G3.below hb4 (Nat.le_refl _)
  go_wp2_with fail
  refine (m1 X1 X2 x1 x2 _ (hX1.below hb4 (Nat.le_refl _)).rd hX2.rd).mono ?_
  rintro e w5 ⟨P, p, rfl, hp, hP, hb5⟩
  have b5 := b4.trans (hb5.mono b4.size)
  have H5 := H4.below hb5 (Nat.le_refl _)
  have G5 := G4.below hb5 (Nat.le_refl _)
  go_wp2_with fail
  refine (y3 H kh _ (hB.below b5 (Nat.le_refl _)) H5).mono ?_
  rintro e w6 ⟨X3, x3, rfl, hx3, hX3, hb6⟩
  have b6 := b5.trans (hb6.mono b5.size)
  have G6 := G5.below hb6 (Nat.le_refl _)
  go_wp2_with fail
  refine (y4 G k _ (hD.below b6 (Nat.le_refl _)) G6).mono ?_
  rintro e w7 ⟨X4, x4, rfl, hx4, hX4, hb7⟩
  have b7 := b6.trans (hb7.mono b6.size)
  go_wp2_with fail
  refine (m2 X3 X4 x3 x4 _ (hX3.below hb7 (Nat.le_refl _)).rd hX4.rd).mono ?_
  rintro e w8 ⟨O, o, rfl, ho, hO, hb8⟩
  have b8 := b7.trans (hb8.mono b7.size)
  have b58 := hb6.trans ((hb7.mono hb6.size).trans (hb8.mono (Nat.le_trans hb6.size hb7.size)))
  have P8 := (hP.mono (Nat.zero_le _)).below b58 (Nat.le_refl _)
  have O8 := hO.mono (Nat.zero_le _)
  have hz8 := at_of_below hz b8
  go_wp2_with fail
  refine (int_set z _ [D0] (by decide) false P (limbs N) _ p rfl hp _ hz8 P8).mono ?_
  rintro e w9 ⟨rfl, hh9, hob9⟩
  rw [val_limbs, nofalse] at hob9
  obtain ⟨xx, yy, hz9⟩ := id hz8
  have O9 := own_hole O8 hz9 (by decide) hh9
  obtain ⟨A6, c6, hb6', hc6, ho6⟩ := id hob9
  have c2 := hb6'.cell 2
  have f2 := hb6'.frozen 2
  simp at c2
  clear hA hB hC hD G2 H2 H3 G3 H4 G4 H5 G5 G6 hX1 hX2 hX3 hX4 hP hO P8 O8 hGo hHo
  go_wp2
  go_ret
  exact ⟨rfl, (hole_of b8 hh9).setCell rfl _, rt_set2 hob9 ho O9 (.inr ⟨rfl, nm⟩)⟩
theorem rat_times0 (z : Nat) (A B C D : Option Addr) (u1 v1 u2 v2 a b c d : Nat) (h : u1 = 0 ∨ u2 = 0) (w : World) (hz : RAt w z) :
    Calls Tryz.prog 96 #[.pointer (some ⟨z, 0, none⟩), .bool false, .slice A (limbs u1).length a, .slice B (limbs v1).length b, .slice C (limbs u2).length c, .slice D (limbs v2).length d] w (RSets w z 0 1) := by
  have hal : Below w.heap.size w (w.alloc (.cells #[.int .u32 1] 153)) := (Below.refl _ _).alloc (Nat.le_refl _) _
  have hrow : Row (w.alloc (.cells #[.int .u32 1] 153)) 153 w.heap.size [1] := row_new (l := [1]) rfl rfl
  have hsm : Sm [1] := by intro x hx; simp at hx; omega
  have hown := hrow.own hsm (by simp) (Nat.zero_le _) 1 (Nat.le_refl _) (Nat.le_refl _)
  by_cases h1 : u1 = 0
  · have e1 : (((limbs u1).length : Int) == 0) = true := by rw [h1]; rfl
    clear h1 h
    go_enter Tryz.func96, Tryz.ntmps96
    go_wp2_with fail
    refine (rat_set0 z (some ⟨w.heap.size, 0, none⟩) [1] 1 (Nat.le_refl _) _ (hz.below hal) hown).mono ?_
    rintro e w2 ⟨rfl, hh, hr⟩
    go_wp2
    go_ret
    exact ⟨rfl, hole_of hal hh, hr⟩
  · have e1 : (((limbs u1).length : Int) == 0) = false := by have := limbs_pos h1; rw [beq_eq_false_iff_ne]; omega
    have e2 : (((limbs u2).length : Int) == 0) = true := by rw [h.resolve_left h1]; rfl
    clear h1 h
    go_enter Tryz.func96, Tryz.ntmps96
    go_wp2_with fail
    refine (rat_set0 z (some ⟨w.heap.size, 0, none⟩) [1] 1 (Nat.le_refl _) _ (hz.below hal) hown).mono ?_
    rintro e w2 ⟨rfl, hh, hr⟩
    go_wp2
    go_ret
    exact ⟨rfl, hole_of hal hh, hr⟩
end Bg
end Go.Proofs.YtenekbfnlbipiaaGreatDoor
