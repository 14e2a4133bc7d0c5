/- Walk: piece with a window of its own that does not lie in the width. -/
import Derived.Test.YtefhannaofknnaaDoorPkZA
namespace Go.Proofs.YtefhannaofknnaaDoor
open Go.RowKit
set_option linter.unusedVariables false
set_option linter.unusedSimpArgs false
set_option maxHeartbeats 4000000
set_option maxRecDepth 100000

theorem piece_new_far (w : World) (p W : Nat) (A : Option Addr) (c : Nat) (s : List Nat) (u : Ust) (h : Rdr w p W A c s u) (h1 : ¬ (bo s).length - u.at_ < 1) (h2 : ¬ takeW (bo s) u.at_ 1 = 0) (h3 : ¬ (bo s).length - u.at_ < 2) (h4 : takeW (bo s) (u.at_ + 1) 1 = 1) (h5 : ¬ (bo s).length - u.at_ < 14) (h6 : ¬ (bo s).length - u.at_ < 14 + (takeW (bo s) (u.at_ + 8) 6 + 1)) (h7 : W < takeW (bo s) (u.at_ + 2) 6 + (takeW (bo s) (u.at_ + 8) 6 + 1)) :
    Calls Tryd.prog 41 #[.pointer (some ⟨p, 0, none⟩)] w (PieAns w p W A c s u) := by
  have e : PieAns w p W A c s u = fun en w' => en = .returned (.tuple #[.int .u64 0, .bool true, .bool false]) ∧ Below w.heap.size w w' := by
    funext en w'; unfold PieAns pieceU; rw [if_neg h1, if_neg h2, if_neg h3, if_pos h4, if_neg h5, if_neg h6, if_pos h7]
  rw [e]
  clear e
  rw [bo_length] at h1 h3 h5 h6
  obtain ⟨d, hd⟩ : ∃ d, d = 8 * s.length - u.at_ := ⟨_, rfl⟩
  have hat := h.at_
  have hlen := h.len
  have hW := h.width
  have hwin := h.win
  have hbef := h.bef
  have hT1 : takeW (bo s) u.at_ 1 = 1 := by
    have h3 : takeW (bo s) u.at_ 1 < 2 ^ ((bo s).drop u.at_ |>.take 1).length := wv_lt (((bs_bo s).drop _).take _)
    have h4 : ((bo s).drop u.at_ |>.take 1).length ≤ 1 := by rw [List.length_take]; omega
    have h5 : 2 ^ ((bo s).drop u.at_ |>.take 1).length ≤ 2 ^ 1 := Nat.pow_le_pow_right (by decide) h4
    omega
  have hl0 := h.left 0 d hd
  have HL := fun w' (hb : Below w.heap.size w w') m => (h.below hb).left m d hd
  have HT0 := fun w' (hb : Below w.heap.size w w') m => (h.below hb).take m u.at_ 1 1 hT1.symm (by omega) (by decide)
  have hbu := h.blk
  obtain ⟨a, ⟨lead, size⟩, bef⟩ := u
  simp only at hd hat hwin hbef HT0 hbu hT1 h1 ⊢
  have hD1 : ¬ (d : Int) < 1 := by omega
  have ha : a ≤ 8388608 := by omega
  have hz := hbu.lt
  simp only at h3 h4
  have hD2 : ¬ (d : Int) < 2 := by omega
  have HT2 := fun w' (hb : Below w.heap.size w w') m => (h.below hb).take m (a + 1) 1 1 h4.symm (by show a + 1 + 1 ≤ _; omega) (by decide)
  have hv1 : IntKind.i64.wrap ((a : Int) + 1) = (a : Int) + 1 := IntWalk.i64_in _ (by omega)
  simp only at h5 h6 h7
  have hD3 : decide ((d : Int) < 14) = false := by simp; omega
  obtain ⟨L, hL⟩ : ∃ L, L = takeW (bo s) (a + 2) 6 := ⟨_, rfl⟩
  obtain ⟨S0, hS0⟩ : ∃ S0, S0 = takeW (bo s) (a + 8) 6 := ⟨_, rfl⟩
  have lt6 : ∀ b, takeW (bo s) b 6 < 64 := by
    intro b
    have e3 : takeW (bo s) b 6 < 2 ^ ((bo s).drop b |>.take 6).length := wv_lt (((bs_bo s).drop _).take _)
    have e4 : ((bo s).drop b |>.take 6).length ≤ 6 := by rw [List.length_take]; omega
    have e5 : 2 ^ ((bo s).drop b |>.take 6).length ≤ 2 ^ 6 := Nat.pow_le_pow_right (by decide) e4
    omega
  have hL64 : L < 64 := by rw [hL]; exact lt6 _
  have hS64 : S0 < 64 := by rw [hS0]; exact lt6 _
  have KT1 := fun W0 (hb : Below w.heap.size w W0) => (h.below hb).takeS (a + 2) 6 L hL (by show a + 2 + 6 ≤ _; omega) (by decide)
  have KT2 := fun W0 (hb : Below w.heap.size w W0) => (h.below hb).takeS (a + 8) 6 S0 hS0 (by show a + 8 + 6 ≤ _; omega) (by decide)
  have hx8 : ((a + 8 : Nat) : Int) = (a : Int) + 2 + 6 := by omega
  have hx2 : ((a + 2 : Nat) : Int) = (a : Int) + 2 := by omega
  have h66 : ((6 : Nat) : Int) = 6 := rfl
  rw [hx2, h66] at KT1
  rw [hx8, h66] at KT2
  have hv3 : IntKind.i64.wrap ((a : Int) + 2) = (a : Int) + 2 := IntWalk.i64_in _ (by omega)
  have hv4 : IntKind.i64.wrap ((a : Int) + 2 + 6) = (a : Int) + 2 + 6 := IntWalk.i64_in _ (by omega)
  have hv5 : IntKind.i64.wrap (L : Int) = (L : Int) := IntWalk.i64_in _ (by omega)
  have hv6 : IntKind.i64.wrap (S0 : Int) = (S0 : Int) := IntWalk.i64_in _ (by omega)
  have hv7 : IntKind.i64.wrap ((S0 : Int) + 1) = (S0 : Int) + 1 := IntWalk.i64_in _ (by omega)
  clear hx8 hx2 lt6 h66
  rw [← hS0] at h6 h7
  rw [← hL] at h7
  have hv8 : IntKind.i64.wrap ((14 : Int) + ((S0 : Int) + 1)) = (14 : Int) + ((S0 : Int) + 1) := IntWalk.i64_in _ (by omega)
  have hD4 : decide ((d : Int) < (14 : Int) + ((S0 : Int) + 1)) = false := by simp; omega
  have hs0 : (((S0 : Int) + 1) == 0) = false := by rw [beq_eq_false_iff_ne]; omega
  have hWd : decide ((W : Int) < (L : Int) + ((S0 : Int) + 1)) = true := by simp; omega
  have hv9 : IntKind.i64.wrap ((L : Int) + ((S0 : Int) + 1)) = (L : Int) + ((S0 : Int) + 1) := IntWalk.i64_in _ (by omega)
  clear h1 h2 h3 h4 h5 h6 h7 hd h hat hlen hT1 hL hS0
  go_enter Tryd.func41, Tryd.ntmps41
  go_wp2_with fail
  refine hl0.mono ?_
  rintro r w1 ⟨rfl, hw1⟩
  have hb1 : Below w.heap.size w w1 := by obtain ⟨z, rfl⟩ := hw1; exact bdn (Below.refl _ _) _
  have ht := HT0 w1 hb1
  have hb := hbu.below hb1 hz
  have k3 := hb.cell 3
  have kf := hb.frozen 3
  simp only [rdCells] at k3
  have hz1 := hb.lt
  clear hw1
  go_wp2
  go_quiet ((go_at_call 40; exact ht _))
  have hb2 : Below w.heap.size w (w1.drewN nq) := bdn hb1 nq
  generalize w1.drewN nq = w2 at *
  clear ht hb k3 kf hz1 hb1 HT0
  have hl2 := HL w2 hb2 0
  go_wp2_with fail
  refine hl2.mono ?_
  rintro r w3 ⟨rfl, hw3⟩
  have hb3 : Below w.heap.size w w3 := by obtain ⟨z, rfl⟩ := hw3; exact bdn hb2 _
  clear hl2 hw3 hb2
  have k5 := (hbu.below hb3 hz).cell 5
  have k6 := (hbu.below hb3 hz).cell 6
  simp only [rdCells] at k5 k6
  have hz3 := (hbu.below hb3 hz).lt
  go_wp2
  have hb4 : Below w.heap.size w (w3.alloc (.cells #[.int .i64 (lead : Int), .int .i64 (size : Int)] 57)) := hb3.alloc hb3.size _
  have hQ := Blk.new w3 57 #[.int .i64 (lead : Int), .int .i64 (size : Int)]
  have hQp : p < w3.heap.size := hz3
  generalize w3.alloc (.cells #[.int .i64 (lead : Int), .int .i64 (size : Int)] 57) = w4 at *
  have hQs : w.heap.size ≤ w3.heap.size := hb3.size
  generalize w3.heap.size = Q at *
  clear k5 k6 hz3 hb3
  have ht2 := HT2 w4 hb4
  have hk4 := hbu.below hb4 hz
  have k3 := hk4.cell 3
  simp only [rdCells] at k3
  have hz4 := hk4.lt
  go_quiet ((go_at_call 40; exact ht2 _))
  have hb6 := bdn hb4 nq
  have hQ6 := hQ.drewN nq
  generalize w4.drewN nq = w6 at *
  clear ht2 hk4 k3 hz4 hb4 hQ HT2
  have hl6 := HL w6 hb6 0
  go_wp2_with fail
  refine hl6.mono ?_
  rintro r w7 ⟨rfl, hw7⟩
  have hb7 : Below w.heap.size w w7 := by obtain ⟨z, rfl⟩ := hw7; exact bdn hb6 _
  have hQ7 : Blk w7 Q 57 #[.int .i64 (lead : Int), .int .i64 (size : Int)] := by obtain ⟨z, rfl⟩ := hw7; exact hQ6.drewN _
  clear hl6 hw7 hb6 hQ6
  have hk7 := hbu.below hb7 hz
  have k3 := hk7.cell 3
  simp only [rdCells] at k3
  have kz := hk7.lt
  go_wp2
  go_region_held3 (fun w' => w'.cell? ⟨p, 3, none⟩ = some (.int .i64 (a : Int))) (first | exact k3 | exact k38 | exact k39 | exact ((World.cell?_setCell_far _ _ _ _ (Nat.ne_of_gt hQp)).trans ((World.cell?_setCell_far _ _ _ _ (Nat.ne_of_gt hQp)).trans k39)) | go_keep)
    (first
    | (go_at_call 40; (with_reducible refine (KT1 _ ?_).mono ?_); (focus (exact Below.drew hb7)); rintro r w8 ⟨rfl, hx8⟩; have hb8 := (Below.drew hb7).trans (hx8.mono (Below.drew hb7).size); have hQ8 := (hQ7.drew).below hx8 (hQ7.drew).lt; have k38 := ((hbu.below hb8 hz).cell 3).trans rfl)
    | (go_at_call 40; (with_reducible refine (KT2 _ ?_).mono ?_); (focus (exact hb8)); rintro r w9 ⟨rfl, hx9⟩; have hb9 := hb8.trans (hx9.mono hb8.size); have hQ9 := hQ8.below hx9 hQ8.lt; have k39 := ((hbu.below hb9 hz).cell 3).trans rfl; have q0 := hQ9.cell 0; have q1 := hQ9.cell 1; have qf0 := hQ9.frozen 0; have qf1 := hQ9.frozen 1; have qz := hQ9.lt; have kz9 := (hbu.below hb9 hz).lt)
    | fail)
  have hQ10 := (hQ9.set_ 0 (.int .i64 (L : Int))).set_ 1 (.int .i64 ((S0 : Int) + 1))
  have hb10 := (hb9.setCell (p := ⟨Q, 0, none⟩) hQs (.int .i64 (L : Int))).setCell (p := ⟨Q, 1, none⟩) hQs (.int .i64 ((S0 : Int) + 1))
  generalize hW10 : (w9.setCell ⟨Q, 0, none⟩ (.int .i64 (L : Int))).setCell ⟨Q, 1, none⟩ (.int .i64 ((S0 : Int) + 1)) = w10 at *
  have hQ11 : Blk w10 Q 57 #[.int .i64 (L : Int), .int .i64 ((S0 : Int) + 1)] := hQ10
  have hb11 := hb10
  clear hQ10 hW10 hb9 hQ9 hb8 hQ8 hb7 hQ7 k3 k38 k39 q0 q1 qf0 qf1 qz hk7 kz kz9 hx8 hx9 KT1 KT2
  have q0 := hQ11.cell 0
  have q1 := hQ11.cell 1
  have qz := hQ11.lt
  have hl10 := HL w10 hb11
  go_wp2
  go_quiet ((go_at_call 39; exact hl10 _))
  have hb12 := bdn hb11 nq
  have hQ12 := hQ11.drewN nq
  generalize w10.drewN nq = w12 at *
  clear hb10 hb11 hQ11 q0 q1 qz hl10 HL
  have q0 := hQ12.cell 0
  have q1 := hQ12.cell 1
  have qz := hQ12.lt
  have hk12 := hbu.below hb12 hz
  have k4 := hk12.cell 4
  simp only [rdCells] at k4
  have kz := hk12.lt
  go_wp2
  go_quiet (fail)
  have hbf := bdn hb12 nq
  go_wp2
  go_returns
  exact ⟨rfl, hbf⟩
end Go.Proofs.YtefhannaofknnaaDoor
