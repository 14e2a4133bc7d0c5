/- Walk: piece with a window of its own whose number is nought, or not the least. -/
import Derived.Test.YtefhannaofknnaaDoorPkZB
import Derived.Test.YtefhannaofknnaaDoorPkX
namespace Go.Proofs.YtefhannaofknnaaDoor
open Go.RowKit
set_option linter.unusedVariables false
set_option linter.unusedSimpArgs false
set_option maxHeartbeats 4000000
set_option maxRecDepth 100000

theorem piece_new_bad (w : World) (p W : Nat) (A : Option Addr) (c : Nat) (s : List Nat) (u : Ust) (h : Rdr w p W A c s u) (h1 : ¬ (bo s).length - u.at_ < 1) (h2 : ¬ takeW (bo s) u.at_ 1 = 0) (h3 : ¬ (bo s).length - u.at_ < 2) (h4 : takeW (bo s) (u.at_ + 1) 1 = 1) (h5 : ¬ (bo s).length - u.at_ < 14) (h6 : ¬ (bo s).length - u.at_ < 14 + (takeW (bo s) (u.at_ + 8) 6 + 1)) (h7 : ¬ W < takeW (bo s) (u.at_ + 2) 6 + (takeW (bo s) (u.at_ + 8) 6 + 1)) (h8 : (takeW (bo s) (u.at_ + 14) (takeW (bo s) (u.at_ + 8) 6 + 1)) = 0 ∨ ¬ ((takeW (bo s) (u.at_ + 14) (takeW (bo s) (u.at_ + 8) 6 + 1)) % 2 = 1 ∧ (takeW (bo s) (u.at_ + 14) (takeW (bo s) (u.at_ + 8) 6 + 1)) / 2 ^ takeW (bo s) (u.at_ + 8) 6 % 2 = 1)) :
    Calls Tryd.prog 41 #[.pointer (some ⟨p, 0, none⟩)] w (PieAns w p W A c s u) := by
  have e : PieAns w p W A c s u = fun en w' => en = .returned (.tuple #[.int .u64 0, .bool true, .bool false]) ∧ Below w.heap.size w w' := by
    funext en w'; unfold PieAns pieceU
    rw [if_neg h1, if_neg h2, if_neg h3, if_pos h4, if_neg h5, if_neg h6, if_neg h7, if_pos (by rcases h8 with h | h; exact .inl h; exact .inr (.inl h))]
  rw [e]
  clear e
  rw [bo_length] at h1 h3 h5 h6
  obtain ⟨d, hd⟩ : ∃ d, d = 8 * s.length - u.at_ := ⟨_, rfl⟩
  have hat := h.at_
  have hlen := h.len
  have hW := h.width
  have hwin := h.win
  have hbef := h.bef
  have hT1 : takeW (bo s) u.at_ 1 = 1 := by
    have h3 : takeW (bo s) u.at_ 1 < 2 ^ ((bo s).drop u.at_ |>.take 1).length := wv_lt (((bs_bo s).drop _).take _)
    have h4 : ((bo s).drop u.at_ |>.take 1).length ≤ 1 := by rw [List.length_take]; omega
    have h5 : 2 ^ ((bo s).drop u.at_ |>.take 1).length ≤ 2 ^ 1 := Nat.pow_le_pow_right (by decide) h4
    omega
  have hl0 := h.left 0 d hd
  have HL := fun w' (hb : Below w.heap.size w w') m => (h.below hb).left m d hd
  have HT0 := fun w' (hb : Below w.heap.size w w') m => (h.below hb).take m u.at_ 1 1 hT1.symm (by omega) (by decide)
  have hbu := h.blk
  obtain ⟨a, ⟨lead, size⟩, bef⟩ := u
  simp only at hd hat hwin hbef HT0 hbu hT1 h1 ⊢
  have hD1 : ¬ (d : Int) < 1 := by omega
  have ha : a ≤ 8388608 := by omega
  have hz := hbu.lt
  simp only at h3 h4
  have hD2 : ¬ (d : Int) < 2 := by omega
  have HT2 := fun w' (hb : Below w.heap.size w w') m => (h.below hb).take m (a + 1) 1 1 h4.symm (by show a + 1 + 1 ≤ _; omega) (by decide)
  have hv1 : IntKind.i64.wrap ((a : Int) + 1) = (a : Int) + 1 := IntWalk.i64_in _ (by omega)
  simp only at h5 h6 h7 h8
  have hD3 : decide ((d : Int) < 14) = false := by simp; omega
  obtain ⟨L, hL⟩ : ∃ L, L = takeW (bo s) (a + 2) 6 := ⟨_, rfl⟩
  obtain ⟨S0, hS0⟩ : ∃ S0, S0 = takeW (bo s) (a + 8) 6 := ⟨_, rfl⟩
  have lt6 : ∀ b, takeW (bo s) b 6 < 64 := by
    intro b
    have e3 : takeW (bo s) b 6 < 2 ^ ((bo s).drop b |>.take 6).length := wv_lt (((bs_bo s).drop _).take _)
    have e4 : ((bo s).drop b |>.take 6).length ≤ 6 := by rw [List.length_take]; omega
    have e5 : 2 ^ ((bo s).drop b |>.take 6).length ≤ 2 ^ 6 := Nat.pow_le_pow_right (by decide) e4
    omega
  have hL64 : L < 64 := by rw [hL]; exact lt6 _
  have hS64 : S0 < 64 := by rw [hS0]; exact lt6 _
  have KT1 := fun W0 (hb : Below w.heap.size w W0) => (h.below hb).takeS (a + 2) 6 L hL (by show a + 2 + 6 ≤ _; omega) (by decide)
  have KT2 := fun W0 (hb : Below w.heap.size w W0) => (h.below hb).takeS (a + 8) 6 S0 hS0 (by show a + 8 + 6 ≤ _; omega) (by decide)
  have hx8 : ((a + 8 : Nat) : Int) = (a : Int) + 2 + 6 := by omega
  have hx2 : ((a + 2 : Nat) : Int) = (a : Int) + 2 := by omega
  have h66 : ((6 : Nat) : Int) = 6 := rfl
  rw [hx2, h66] at KT1
  rw [hx8, h66] at KT2
  have hv3 : IntKind.i64.wrap ((a : Int) + 2) = (a : Int) + 2 := IntWalk.i64_in _ (by omega)
  have hv4 : IntKind.i64.wrap ((a : Int) + 2 + 6) = (a : Int) + 2 + 6 := IntWalk.i64_in _ (by omega)
  have hv5 : IntKind.i64.wrap (L : Int) = (L : Int) := IntWalk.i64_in _ (by omega)
  have hv6 : IntKind.i64.wrap (S0 : Int) = (S0 : Int) := IntWalk.i64_in _ (by omega)
  obtain ⟨S2, hS2⟩ : ∃ S2, S2 = S0 + 1 := ⟨_, rfl⟩
  have hv7a : IntKind.i64.wrap ((S0 : Int) + 1) = (S2 : Int) := by rw [show (S0 : Int) + 1 = (S2 : Int) by omega]; exact IntWalk.i64_in _ (by omega)
  clear hx8 hx2 lt6 h66
  rw [← hS0] at h6 h7 h8
  rw [← hL] at h7
  rw [← hS2] at h6 h7 h8
  have hle : L + S2 ≤ W := by omega
  have hsz : S2 ≤ 64 := by omega
  have hsp : 0 < S2 := by omega
  have hv8 : IntKind.i64.wrap ((14 : Int) + (S2 : Int)) = (14 : Int) + (S2 : Int) := IntWalk.i64_in _ (by omega)
  have hD4 : decide ((d : Int) < (14 : Int) + (S2 : Int)) = false := by simp; omega
  have hs0 : ((S2 : Int) == 0) = false := by rw [beq_eq_false_iff_ne]; omega
  have hWd : decide ((W : Int) < (L : Int) + (S2 : Int)) = false := by simp; omega
  have hv9 : IntKind.i64.wrap ((L : Int) + (S2 : Int)) = (L : Int) + (S2 : Int) := IntWalk.i64_in _ (by omega)
  have hv10 : IntKind.i64.wrap ((a : Int) + 14) = (a : Int) + 14 := IntWalk.i64_in _ (by omega)
  obtain ⟨y, hy⟩ : ∃ y, y = takeW (bo s) (a + 14) S2 := ⟨_, rfl⟩
  have hylt : y < 2 ^ S2 := by
    have e3 : takeW (bo s) (a + 14) S2 < 2 ^ ((bo s).drop (a + 14) |>.take S2).length := wv_lt (((bs_bo s).drop _).take _)
    have e4 : ((bo s).drop (a + 14) |>.take S2).length ≤ S2 := by rw [List.length_take]; omega
    exact hy ▸ Nat.lt_of_lt_of_le e3 (Nat.pow_le_pow_right (by decide) e4)
  have HT3 := fun w' (hb : Below w.heap.size w w') m => (h.below hb).take m (a + 14) S2 y hy (by show a + 14 + S2 ≤ _; omega) hsz
  rw [← hy] at h8
  obtain ⟨W1, hW1⟩ : ∃ W1, W1 = W - L := ⟨_, rfl⟩
  obtain ⟨b0, hb0⟩ : ∃ b0, b0 = W1 - S2 := ⟨_, rfl⟩
  have hv5 : IntKind.i64.wrap ((W : Int) - (L : Int)) = (W1 : Int) := by rw [show (W : Int) - (L : Int) = (W1 : Int) by omega]; exact IntWalk.i64_in _ (by omega)
  have hv6 : IntKind.i64.wrap ((W1 : Int) - (S2 : Int)) = (b0 : Int) := by rw [show (W1 : Int) - (S2 : Int) = (b0 : Int) by omega]; exact IntWalk.i64_in _ (by omega)
  have hy64 : y < 18446744073709551616 := Nat.lt_of_lt_of_le hylt (Nat.pow_le_pow_right (n := 2) (j := 64) (by decide) hsz)
  obtain ⟨s1, hs1⟩ : ∃ s1, s1 = S2 - 1 := ⟨_, rfl⟩
  have hv7 : (S2 : Int) - 1 = (s1 : Int) := by omega
  have hs164 : s1 < 64 := by omega
  obtain ⟨r1, hr1⟩ : ∃ r1, r1 = y / 2 ^ 0 % 2 := ⟨_, rfl⟩
  obtain ⟨r2, hr2⟩ : ∃ r2, r2 = y / 2 ^ s1 % 2 := ⟨_, rfl⟩
  have ha1 := shr_bit y 0 r1 hy64 hr1
  have ha2 := shr_bit y s1 r2 hy64 hr2
  rw [Int.pow_zero, Int.ediv_one] at ha1
  obtain ⟨x, hx⟩ : ∃ x, x = y * 2 ^ b0 := ⟨_, rfl⟩
  have hxlt : x < 2 ^ W1 := by
    rw [hx, show W1 = S2 + b0 by omega, Nat.pow_add]
    exact Nat.mul_lt_mul_of_pos_right hylt (Nat.two_pow_pos _)
  have hx64 : x < 18446744073709551616 := Nat.lt_of_lt_of_le hxlt (Nat.pow_le_pow_right (n := 2) (j := 64) (by decide) (by omega))
  have hshl : IntKind.u64.wrap ((y : Int) * 2 ^ b0) = (x : Int) := by
    have e3 : ((y : Int) * 2 ^ b0) = (x : Int) := by rw [hx]; push_cast; rfl
    rw [e3, IntKind.wrap_u64]; omega
  have hb064 : b0 < 64 := by omega
  have hcc : (((r1 : Int) == 1) = false ∧ ((x : Int) == 0) = true) ∨ (((r1 : Int) == 1) = false ∧ ((x : Int) == 0) = false) ∨ (((r1 : Int) == 1) = true ∧ ((r2 : Int) == 1) = false ∧ ((x : Int) == 0) = false) := by
    rw [Nat.pow_zero, Nat.div_one] at hr1
    rw [show S0 = s1 by omega, ← hr1, ← hr2] at h8
    by_cases g : r1 = 1
    · have hyp : 0 < y := by
        rcases Nat.eq_zero_or_pos y with h9 | h9
        · rw [hr1, h9] at g; cases g
        · exact h9
      have hxp : 0 < x := by rw [hx]; exact Nat.mul_pos hyp (Nat.two_pow_pos _)
      refine .inr (.inr ⟨by rw [g]; rfl, ?_, by rw [beq_eq_false_iff_ne]; omega⟩)
      rcases h8 with h9 | h9
      · omega
      · rw [beq_eq_false_iff_ne]
        intro h10
        exact h9 ⟨g, by omega⟩
    · have g' : ((r1 : Int) == 1) = false := by rw [beq_eq_false_iff_ne]; omega
      cases hxx : ((x : Int) == 0)
      · exact .inr (.inl ⟨g', rfl⟩)
      · exact .inl ⟨g', rfl⟩
  clear h1 h2 h3 h4 h5 h6 h7 h8 hd h hat hlen hT1 hL hS0 hS2 hy hylt hx hxlt hW1 hb0 hr1 hr2 hs1 hle hbef
  go_enter Tryd.func41, Tryd.ntmps41
  go_wp2_with fail
  refine hl0.mono ?_
  rintro r w1 ⟨rfl, hw1⟩
  have hb1 : Below w.heap.size w w1 := by obtain ⟨z, rfl⟩ := hw1; exact bdn (Below.refl _ _) _
  have ht := HT0 w1 hb1
  have hb := hbu.below hb1 hz
  have k3 := hb.cell 3
  have kf := hb.frozen 3
  simp only [rdCells] at k3
  have hz1 := hb.lt
  clear hw1
  go_wp2
  go_quiet ((go_at_call 40; exact ht _))
  have hb2 : Below w.heap.size w (w1.drewN nq) := bdn hb1 nq
  generalize w1.drewN nq = w2 at *
  clear ht hb k3 kf hz1 hb1 HT0
  have hl2 := HL w2 hb2 0
  go_wp2_with fail
  refine hl2.mono ?_
  rintro r w3 ⟨rfl, hw3⟩
  have hb3 : Below w.heap.size w w3 := by obtain ⟨z, rfl⟩ := hw3; exact bdn hb2 _
  clear hl2 hw3 hb2
  have k5 := (hbu.below hb3 hz).cell 5
  have k6 := (hbu.below hb3 hz).cell 6
  simp only [rdCells] at k5 k6
  have hz3 := (hbu.below hb3 hz).lt
  go_wp2
  have hb4 : Below w.heap.size w (w3.alloc (.cells #[.int .i64 (lead : Int), .int .i64 (size : Int)] 57)) := hb3.alloc hb3.size _
  have hQ := Blk.new w3 57 #[.int .i64 (lead : Int), .int .i64 (size : Int)]
  have hQp : p < w3.heap.size := hz3
  generalize w3.alloc (.cells #[.int .i64 (lead : Int), .int .i64 (size : Int)] 57) = w4 at *
  have hQs : w.heap.size ≤ w3.heap.size := hb3.size
  generalize w3.heap.size = Q at *
  clear k5 k6 hz3 hb3
  have ht2 := HT2 w4 hb4
  have hk4 := hbu.below hb4 hz
  have k3 := hk4.cell 3
  simp only [rdCells] at k3
  have hz4 := hk4.lt
  go_quiet ((go_at_call 40; exact ht2 _))
  have hb6 := bdn hb4 nq
  have hQ6 := hQ.drewN nq
  generalize w4.drewN nq = w6 at *
  clear ht2 hk4 k3 hz4 hb4 hQ HT2
  have hl6 := HL w6 hb6 0
  go_wp2_with fail
  refine hl6.mono ?_
  rintro r w7 ⟨rfl, hw7⟩
  have hb7 : Below w.heap.size w w7 := by obtain ⟨z, rfl⟩ := hw7; exact bdn hb6 _
  have hQ7 : Blk w7 Q 57 #[.int .i64 (lead : Int), .int .i64 (size : Int)] := by obtain ⟨z, rfl⟩ := hw7; exact hQ6.drewN _
  clear hl6 hw7 hb6 hQ6
  have hk7 := hbu.below hb7 hz
  have k3 := hk7.cell 3
  simp only [rdCells] at k3
  have kz := hk7.lt
  go_wp2
  go_region_held3 (fun w' => w'.cell? ⟨p, 3, none⟩ = some (.int .i64 (a : Int))) (first | exact k3 | exact k38 | exact k39 | exact ((World.cell?_setCell_far _ _ _ _ (Nat.ne_of_gt hQp)).trans ((World.cell?_setCell_far _ _ _ _ (Nat.ne_of_gt hQp)).trans k39)) | go_keep)
    (first
    | (go_at_call 40; (with_reducible refine (KT1 _ ?_).mono ?_); (focus (exact Below.drew hb7)); rintro r w8 ⟨rfl, hx8⟩; have hb8 := (Below.drew hb7).trans (hx8.mono (Below.drew hb7).size); have hQ8 := (hQ7.drew).below hx8 (hQ7.drew).lt; have k38 := ((hbu.below hb8 hz).cell 3).trans rfl)
    | (go_at_call 40; (with_reducible refine (KT2 _ ?_).mono ?_); (focus (exact hb8)); rintro r w9 ⟨rfl, hx9⟩; have hb9 := hb8.trans (hx9.mono hb8.size); have hQ9 := hQ8.below hx9 hQ8.lt; have k39 := ((hbu.below hb9 hz).cell 3).trans rfl; have q0 := hQ9.cell 0; have q1 := hQ9.cell 1; have qf0 := hQ9.frozen 0; have qf1 := hQ9.frozen 1; have qz := hQ9.lt; have kz9 := (hbu.below hb9 hz).lt)
    | fail)
  have hQ10 := (hQ9.set_ 0 (.int .i64 (L : Int))).set_ 1 (.int .i64 (S2 : Int))
  have hb10 := (hb9.setCell (p := ⟨Q, 0, none⟩) hQs (.int .i64 (L : Int))).setCell (p := ⟨Q, 1, none⟩) hQs (.int .i64 (S2 : Int))
  generalize hW10 : (w9.setCell ⟨Q, 0, none⟩ (.int .i64 (L : Int))).setCell ⟨Q, 1, none⟩ (.int .i64 (S2 : Int)) = w10 at *
  have hQ11 : Blk w10 Q 57 #[.int .i64 (L : Int), .int .i64 (S2 : Int)] := hQ10
  have hb11 := hb10
  clear hQ10 hW10 hb9 hQ9 hb8 hQ8 hb7 hQ7 k3 k38 k39 q0 q1 qf0 qf1 qz hk7 kz kz9 hx8 hx9 KT1 KT2
  have q0 := hQ11.cell 0
  have q1 := hQ11.cell 1
  have qz := hQ11.lt
  have hl10 := HL w10 hb11
  go_wp2
  go_quiet ((go_at_call 39; exact hl10 _))
  have hb12 := bdn hb11 nq
  have hQ12 := hQ11.drewN nq
  generalize w10.drewN nq = w12 at *
  clear hb10 hb11 hQ11 q0 q1 qz hl10 HL
  have q0 := hQ12.cell 0
  have q1 := hQ12.cell 1
  have qz := hQ12.lt
  have hk12 := hbu.below hb12 hz
  have k4 := hk12.cell 4
  simp only [rdCells] at k4
  have kz := hk12.lt
  go_wp2
  go_quiet (fail)
  have hb8 := bdn hb12 nq
  have hQ8 := hQ12.drewN nq
  generalize w12.drewN nq = w8 at *
  clear hb12 hQ12 q0 q1 qz hk12 k4 kz
  have q0 := hQ8.cell 0
  have q1 := hQ8.cell 1
  have qz := hQ8.lt
  have hk8 := hbu.below hb8 hz
  have k3 := hk8.cell 3
  have k4 := hk8.cell 4
  simp only [rdCells] at k3 k4
  have kz := hk8.lt
  have ht3 := HT3 w8 hb8
  go_wp2
  go_quiet ((go_at_call 40; exact ht3 _))
  have hb9 := bdn hb8 nq
  have hQ9 := hQ8.drewN nq
  generalize w8.drewN nq = w9 at *
  clear hb8 hQ8 q0 q1 qz hk8 k3 k4 kz ht3 HT3
  have q0 := hQ9.cell 0
  have q1 := hQ9.cell 1
  have qz := hQ9.lt
  have hk9 := hbu.below hb9 hz
  have k4 := hk9.cell 4
  simp only [rdCells] at k4
  have kz := hk9.lt
  rcases hcc with ⟨g1, g2⟩ | ⟨g1, g2⟩ | ⟨g1, g2, g3⟩
  all_goals (
    go_wp2
    go_quiet (fail)
    have hb10 := bdn hb9 nq
    have hQ10 := hQ9.drewN nq
    generalize w9.drewN nq = w10 at *
    go_wp2
    go_quiet (fail)
    have hbf := bdn hb10 nq
    go_wp2
    go_returns
    exact ⟨rfl, hbf⟩)
end Go.Proofs.YtefhannaofknnaaDoor
