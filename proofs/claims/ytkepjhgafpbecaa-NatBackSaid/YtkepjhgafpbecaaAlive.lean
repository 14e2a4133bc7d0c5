/- Walks: alive. -/
import Derived.Test.YtkepjhgafpbecaaSq
import Derived.Test.YtkepjhgafpbecaaTx
import Derived.Test.YtkepjhgafpbecaaLow
import Derived.Test.YtkepjhgafpbecaaN
import Derived.Deep.DeepCutAuto
namespace Go.Proofs.Ytkepjhgafpbecaa
open Go.RowKit
set_option linter.unusedVariables false
set_option linter.unusedSimpArgs false
set_option maxHeartbeats 4000000
set_option maxRecDepth 100000
set_option maxHeartbeats 100000000

theorem al1 : mulS (limbs 4294967295) (limbs 4294967295) = (limbs 18446744065119617025, 0) := by decide +kernel
theorem al2t : textL 18446744065119617025 = [49, 56, 52, 52, 54, 55, 52, 52, 48, 54, 53, 49, 49, 57, 54, 49, 55, 48, 50, 53] := by decide +kernel
theorem al3 : powS 10 20 = (limbs 100000000000000000000, 0) := by decide +kernel
theorem al4 : divS (limbs 100000000000000000000) (limbs 3) = (limbs 33333333333333333333, limbs 1, 0) := by decide +kernel
theorem al5t : textL 33333333333333333333 = [51, 51, 51, 51, 51, 51, 51, 51, 51, 51, 51, 51, 51, 51, 51, 51, 51, 51, 51, 51] := by decide +kernel
theorem al6 : lowS (limbs 1) = (1, true) := by decide +kernel
theorem al2 : textS (limbs 18446744065119617025) = (⟨#[49, 56, 52, 52, 54, 55, 52, 52, 48, 54, 53, 49, 49, 57, 54, 49, 55, 48, 50, 53]⟩, 0) := by
  unfold textS
  rw [if_pos (by decide +kernel), val_limbs, al2t]; rfl
theorem al5 : textS (limbs 33333333333333333333) = (⟨#[51, 51, 51, 51, 51, 51, 51, 51, 51, 51, 51, 51, 51, 51, 51, 51, 51, 51, 51, 51]⟩, 0) := by
  unfold textS
  rw [if_pos (by decide +kernel), val_limbs, al5t]; rfl
theorem put_after (w : World) (p : Addr) (u v : Value) (t : TypeId) : ((w.setCell p u).alloc (.cells #[v] t)).cell? ⟨w.heap.size, 0, none⟩ = some v ∧ ((w.setCell p u).alloc (.cells #[v] t)).frozen? ⟨w.heap.size, 0, none⟩ = false := by
  have e : (w.setCell p u).heap.size = w.heap.size := by simp
  have h : ∀ W : World, (W.alloc (.cells #[v] t)).cell? ⟨W.heap.size, 0, none⟩ = some v ∧ (W.alloc (.cells #[v] t)).frozen? ⟨W.heap.size, 0, none⟩ = false := fun W => ⟨by simp, by simp⟩
  have := h (w.setCell p u)
  rw [e] at this
  exact this
theorem alive_any (w : World) : Calls Try.prog 44 #[] w (Says w (.bool true)) := by
  have c1 := fun W => nat_Of 4294967295 4294967295 rfl (by decide) W
  have c2 := fun A c W h => nat_Mul A A (limbs 4294967295) (limbs 4294967295) _ _ c c rfl rfl W h h
  have c3 := fun A c W h => nat_Text A (limbs 18446744065119617025) _ c rfl W h
  have c4 := fun W => nat_Pow 10 10 rfl (by decide) 20 (by decide) (by decide) W
  have c5 := fun W => nat_Of 3 3 rfl (by decide) W
  have c6 := fun A B c d W h h' => nat_Div A B (limbs 100000000000000000000) (limbs 3) _ _ c d rfl rfl W h h'
  have c7 := fun A c W h => nat_Text A (limbs 33333333333333333333) _ c rfl W h
  have c8 := fun A c W h => nat_Low A (limbs 1) _ c rfl W h
  rw [al1] at c2
  rw [al2] at c3
  rw [al3] at c4
  rw [al4] at c6
  rw [al5] at c7
  rw [al6] at c8
  generalize hL1 : limbs 4294967295 = L1 at *
  generalize hL2 : limbs 18446744065119617025 = L2 at *
  generalize hL3 : limbs 100000000000000000000 = L3 at *
  generalize hL4 : limbs 3 = L4 at *
  generalize hL5 : limbs 33333333333333333333 = L5 at *
  generalize hL6 : limbs 1 = L6 at *
  clear hL1 hL2 hL3 hL4 hL5 hL6
  have S0 := Sq.init w
  go_enter Try.func44, Try.ntmps44
  go_wp2_with fail
  refine (c1 _).mono ?_
  rintro e w1 ⟨A1, k1, rfl, o1, b1⟩
  have S1 := ((S0.below b1).pend_ o1 (Nat.le_refl _)).put (.slice A1 L1.length k1)
  obtain ⟨q1, q1z, _⟩ := S1.cell 0 rfl
  clear S0 o1 b1
  go_wp2_with fail
  refine (c2 A1 k1 _ (S1.prd 0 rfl)).mono ?_
  rintro e w2 ⟨A2, k2, rfl, o2, b2⟩
  have S2 := ((S1.below b2).pend_ o2 S1.size).put (.slice A2 L2.length k2)
  obtain ⟨q2, q2z, _⟩ := S2.cell 0 rfl
  clear S1 o2 b2 q1 q1z
  go_wp2_with fail
  refine (c3 A2 k2 _ (S2.prd 0 rfl)).mono ?_
  rintro e w3 ⟨rfl, b3⟩
  have S3 := S2.below b3
  clear S2 b3 q2 q2z
  go_wp2_with fail
  refine (c4 _).mono ?_
  rintro e w4 ⟨A4, k4, rfl, o4, b4⟩
  have S4 := ((S3.below b4).pend_ o4 S3.size).put (.slice A4 L3.length k4)
  obtain ⟨q4, q4z, _⟩ := S4.cell 0 rfl
  clear S3 o4 b4
  go_wp2_with fail
  generalize hW : w4.alloc (.cells #[.slice A4 L3.length k4] 35) = W4 at *
  have hbB : w4.heap.size < W4.heap.size := q4z
  have S5 := S4.drew
  have hs4 := S5.size
  have hs4' : w.heap.size ≤ W4.heap.size := S5.size
  have hdr : ∀ W : World, W.drew.heap.size = W.heap.size := fun _ => rfl
  clear S4 hW
  generalize w4.heap.size = B4 at *
  go_cut [8, 9, 10] (fun v8 v9 v10 wx => ∃ (b8 b9 : Nat) (A6 A7 : Option Addr) (k6 k7 : Nat), v8 = .pointer (some ⟨b8, 0, none⟩) ∧ v9 = .pointer (some ⟨b9, 0, none⟩) ∧ v10 = .int .i64 0 ∧ wx.cell? ⟨b8, 0, none⟩ = some (.slice A6 L5.length k6) ∧ wx.cell? ⟨b9, 0, none⟩ = some (.slice A7 L6.length k7) ∧ Own wx 28 w.heap.size A6 k6 L5 ∧ Own wx 28 w.heap.size A7 k7 L6 ∧ Below w.heap.size w wx)
  case first =>
    go_region_held3 (fun w' => w'.cell? ⟨B4, 0, none⟩ = some (.slice A4 L3.length k4))
     (first
     | exact q4 | exact q5' | exact q6'
     | exact (show (W4.alloc (.cells #[.slice none 0 0] 35)).cell? ⟨B4, 0, none⟩ = _ from (World.cell?_alloc_lt W4 _ _ hbB).trans q4)
     | exact (show ((W4.alloc (.cells #[.slice none 0 0] 35)).alloc (.cells #[.slice none 0 0] 35)).cell? ⟨B4, 0, none⟩ = _ from (World.cell?_alloc_lt _ _ _ (by simp; omega)).trans ((World.cell?_alloc_lt W4 _ _ hbB).trans q4))
     | exact (show (w5.alloc (.cells #[.slice none 0 0] 35)).cell? ⟨B4, 0, none⟩ = _ from (World.cell?_alloc_lt w5 _ _ hB5).trans q5')
     | exact (show ((w5.alloc (.cells #[.slice none 0 0] 35)).alloc (.cells #[.slice none 0 0] 35)).cell? ⟨B4, 0, none⟩ = _ from (World.cell?_alloc_lt _ _ _ (by simp; omega)).trans ((World.cell?_alloc_lt w5 _ _ hB5).trans q5'))
     | (repeat (first | exact q6' | ((refine (World.cell?_setCell_far _ _ _ _ ?_).trans ?_); (first | omega | (simp; omega))) | ((refine (World.cell?_alloc_lt _ _ _ ?_).trans ?_); (first | omega | (simp; omega)))))
     | go_keep)
     (first
     | (go_at_call 21; (with_reducible refine (c5 _).mono ?_); rintro e w5 ⟨A5, k5, rfl, o5, b5⟩; (first | have S6 := (S5.below b5).pend_ o5 S5.size | have S6 := ((S5.put (.slice none 0 0)).below b5).pend_ o5 (S5.put (.slice none 0 0)).size | have S6 := (((S5.put (.slice none 0 0)).put (.slice none 0 0)).below b5).pend_ o5 ((S5.put (.slice none 0 0)).put (.slice none 0 0)).size); have hb5s := b5.size; (try simp only [World.size_alloc, hdr] at hb5s); obtain ⟨q0, q0z, q0f⟩ := S6.cell 0 rfl; obtain ⟨q1, q1z, q1f⟩ := S6.cell 1 rfl; obtain ⟨q2, q2z, q2f⟩ := S6.cell 2 rfl; have q5' : w5.cell? ⟨B4, 0, none⟩ = some (.slice A4 L3.length k4) := (by first | exact q0 | exact q1 | exact q2); have hB5 : B4 < w5.heap.size := cell_lt q5')
     | (go_at_call 48; (first
        | ((with_reducible refine (c6 A4 A5 k4 k5 _ (S6.prd 1 rfl) (S6.prd 0 rfl)).mono ?_); rintro e w6 ⟨A6, k6, A7, k7, rfl, o6, o7, b6⟩; have S7 := S6.below b6; (have hA6 : ∀ a, A6 = some a → w5.heap.size + 0 ≤ a.block ∧ a.block < w6.heap.size := (fun a ha => ⟨by have := (o6.block (g := a.block) (by rw [ha]; rfl)).1; simpa using this, o6.lt a ha⟩)); (have hA7 : ∀ a, A7 = some a → w5.heap.size + 0 ≤ a.block ∧ a.block < w6.heap.size := (fun a ha => ⟨by have := (o7.block (g := a.block) (by rw [ha]; rfl)).1; simpa using this, o7.lt a ha⟩)))
        | ((with_reducible refine (c6 A4 A5 k4 k5 _ ((S6.put (.slice none 0 0)).prd 1 rfl) ((S6.put (.slice none 0 0)).prd 0 rfl)).mono ?_); rintro e w6 ⟨A6, k6, A7, k7, rfl, o6, o7, b6⟩; have S7 := (S6.put (.slice none 0 0)).below b6; (have hA6 : ∀ a, A6 = some a → w5.heap.size + 1 ≤ a.block ∧ a.block < w6.heap.size := (fun a ha => ⟨by have := (o6.block (g := a.block) (by rw [ha]; rfl)).1; simpa using this, o6.lt a ha⟩)); (have hA7 : ∀ a, A7 = some a → w5.heap.size + 1 ≤ a.block ∧ a.block < w6.heap.size := (fun a ha => ⟨by have := (o7.block (g := a.block) (by rw [ha]; rfl)).1; simpa using this, o7.lt a ha⟩)))
        | ((with_reducible refine (c6 A4 A5 k4 k5 _ (((S6.put (.slice none 0 0)).put (.slice none 0 0)).prd 1 rfl) (((S6.put (.slice none 0 0)).put (.slice none 0 0)).prd 0 rfl)).mono ?_); rintro e w6 ⟨A6, k6, A7, k7, rfl, o6, o7, b6⟩; have S7 := ((S6.put (.slice none 0 0)).put (.slice none 0 0)).below b6; (have hA6 : ∀ a, A6 = some a → w5.heap.size + 2 ≤ a.block ∧ a.block < w6.heap.size := (fun a ha => ⟨by have := (o6.block (g := a.block) (by rw [ha]; rfl)).1; simpa using this, o6.lt a ha⟩)); (have hA7 : ∀ a, A7 = some a → w5.heap.size + 2 ≤ a.block ∧ a.block < w6.heap.size := (fun a ha => ⟨by have := (o7.block (g := a.block) (by rw [ha]; rfl)).1; simpa using this, o7.lt a ha⟩)))); obtain ⟨p0, p0z, p0f⟩ := S7.cell 0 rfl; obtain ⟨p1, p1z, p1f⟩ := S7.cell 1 rfl; obtain ⟨p2, p2z, p2f⟩ := S7.cell 2 rfl; have q6' : w6.cell? ⟨B4, 0, none⟩ = some (.slice A4 L3.length k4) := (by first | exact p0 | exact p1 | exact p2); have hB6 : B4 < w6.heap.size := cell_lt q6'; have hw6 : w.heap.size ≤ w6.heap.size := S7.size; have hw5 : w.heap.size ≤ w5.heap.size := S6.size; have hw56 : w5.heap.size ≤ w6.heap.size := (by have := b6.size; (try simp only [World.size_alloc] at this); omega); (try simp only [hdr, World.size_alloc] at p0 p0f p0z p1 p1f p1z p2 p2f p2z); obtain ⟨pa, pf⟩ := put_after w6 ⟨w5.heap.size, 0, none⟩ (.slice A6 L5.length k6) (.slice none 0 0) 35))
    all_goals (
      go_wp2_with fail
      go_meet
      refine ⟨_, _, A6, A7, k6, k7, rfl, rfl, rfl, ?_, ?_, ?_, ?_, ?_⟩
      · first | exact (World.cell?_setCell_same _ _ _ p0) | exact (World.cell?_setCell_same _ _ _ p1) | exact (World.cell?_alloc_lt _ _ _ (by simpa using p0z)).trans (World.cell?_setCell_same _ _ _ p0) | exact (World.cell?_alloc_lt _ _ _ (by simpa using p1z)).trans (World.cell?_setCell_same _ _ _ p1) | (simp [go_sem, p0, p1, p2, pa, pf, Nat.ne_of_gt p0z, Nat.ne_of_lt p0z, Nat.ne_of_gt p1z, Nat.ne_of_lt p1z]; done)
      · first | exact (World.cell?_setCell_same _ _ _ p0) | exact (World.cell?_setCell_same _ _ _ p1) | exact (World.cell?_alloc_lt _ _ _ (by simpa using p0z)).trans (World.cell?_setCell_same _ _ _ p0) | exact (World.cell?_alloc_lt _ _ _ (by simpa using p1z)).trans (World.cell?_setCell_same _ _ _ p1) | (simp [go_sem, p0, p1, p2, pa, pf, Nat.ne_of_gt p0z, Nat.ne_of_lt p0z, Nat.ne_of_gt p1z, Nat.ne_of_lt p1z]; done)
      · (repeat (first | exact o6 | exact o6.mono (by first | exact hw5 | omega | (simp; omega)) | refine Own.alloc ?_ _ | (refine Own.setFar ?_ (fun a ha => ?_) _; rotate_left; (have hh := hA6 a ha; first | omega | (simp; omega)))))
      · (repeat (first | exact o7 | exact o7.mono (by first | exact hw5 | omega | (simp; omega)) | refine Own.alloc ?_ _ | (refine Own.setFar ?_ (fun a ha => ?_) _; rotate_left; (have hh := hA7 a ha; first | omega | (simp; omega)))))
      · (repeat (first | exact S7.bel | refine Below.alloc ?_ ?_ _ | refine Below.setCell ?_ ?_ _ | exact hw6 | omega | (simp; omega))))
  case rest =>
    obtain ⟨b8, b9, A6, A7, k6, k7, rfl, rfl, rfl, h8, h9, o6, o7, hbx⟩ := hcut
    have z8 := cell_lt h8
    have z9 := cell_lt h9
    simp only at z8 z9
    clear S5 q4
    go_wp2_with fail
    refine (c7 A6 k6 _ o6.rd).mono ?_
    rintro e wa ⟨rfl, ba⟩
    have h9' := cell_keep ba h9
    have z9' := cell_lt h9'
    simp only at z9'
    have o7' := o7.below ba (Nat.le_refl _)
    have hba := hbx.trans (ba.mono hbx.size)
    clear h8 h9 z8 z9 o6 o7 ba
    go_wp2_with fail
    refine (c8 A7 k7 _ o7'.rd).mono ?_
    rintro e wb ⟨rfl, bb⟩
    go_wp2
    go_ret
    exact ⟨rfl, hba.trans (bb.mono hba.size)⟩
end Go.Proofs.Ytkepjhgafpbecaa
