/- Walk: piece within the window, where nothing but noughts is told. -/
import Derived.Test.YtefhannaofknnaaDoorPkW
namespace Go.Proofs.YtefhannaofknnaaDoor
open Go.RowKit
set_option linter.unusedVariables false
set_option linter.unusedSimpArgs false
set_option maxHeartbeats 4000000
set_option maxRecDepth 100000

theorem piece_old_zero (w : World) (p W : Nat) (A : Option Addr) (c : Nat) (s : List Nat) (u : Ust) (h : Rdr w p W A c s u) (h1 : ¬ (bo s).length - u.at_ < 1) (h2 : ¬ takeW (bo s) u.at_ 1 = 0) (h3 : ¬ (bo s).length - u.at_ < 2) (h4 : ¬ takeW (bo s) (u.at_ + 1) 1 = 1) (h5 : ¬ (bo s).length - u.at_ < 2 + u.w.2) (hsize : u.w.2 ≠ 0) (hy0 : takeW (bo s) (u.at_ + 2) u.w.2 = 0) :
    Calls Tryd.prog 41 #[.pointer (some ⟨p, 0, none⟩)] w (PieAns w p W A c s u) := by
  have hWw : ¬ (u.w.2 = 0 ∨ W < u.w.1 + u.w.2) := by
    rcases h.win with h | h
    · exact absurd (by rw [h]) hsize
    · have := h.2; omega
  have e : PieAns w p W A c s u = fun en w' => en = .returned (.tuple #[.int .u64 0, .bool true, .bool false]) ∧ Below w.heap.size w w' := by
    funext en w'; unfold PieAns pieceU; rw [if_neg h1, if_neg h2, if_neg h3, if_neg h4, if_neg h5, if_neg hWw, if_pos hy0]
  rw [e]
  clear e hWw
  rw [bo_length] at h1 h3 h5
  obtain ⟨d, hd⟩ : ∃ d, d = 8 * s.length - u.at_ := ⟨_, rfl⟩
  have hat := h.at_
  have hlen := h.len
  have hW := h.width
  have hwin := h.win
  have hbef := h.bef
  have hT1 : takeW (bo s) u.at_ 1 = 1 := by
    have h3 : takeW (bo s) u.at_ 1 < 2 ^ ((bo s).drop u.at_ |>.take 1).length := wv_lt (((bs_bo s).drop _).take _)
    have h4 : ((bo s).drop u.at_ |>.take 1).length ≤ 1 := by rw [List.length_take]; omega
    have h5 : 2 ^ ((bo s).drop u.at_ |>.take 1).length ≤ 2 ^ 1 := Nat.pow_le_pow_right (by decide) h4
    omega
  have hl0 := h.left 0 d hd
  have HL := fun w' (hb : Below w.heap.size w w') m => (h.below hb).left m d hd
  have HT0 := fun w' (hb : Below w.heap.size w w') m => (h.below hb).take m u.at_ 1 1 hT1.symm (by omega) (by decide)
  have hbu := h.blk
  obtain ⟨a, ⟨lead, size⟩, bef⟩ := u
  simp only at hd hat hwin hbef HT0 hbu hT1 h1 ⊢
  have hD1 : ¬ (d : Int) < 1 := by omega
  have ha : a ≤ 8388608 := by omega
  have hz := hbu.lt
  simp only at h3 h4
  have hD2 : ¬ (d : Int) < 2 := by omega
  have hT2 : takeW (bo s) (a + 1) 1 = 0 := by
    have e3 : takeW (bo s) (a + 1) 1 < 2 ^ ((bo s).drop (a + 1) |>.take 1).length := wv_lt (((bs_bo s).drop _).take _)
    have e4 : ((bo s).drop (a + 1) |>.take 1).length ≤ 1 := by rw [List.length_take]; omega
    have e5 : 2 ^ ((bo s).drop (a + 1) |>.take 1).length ≤ 2 ^ 1 := Nat.pow_le_pow_right (by decide) e4
    omega
  have HT2 := fun w' (hb : Below w.heap.size w w') m => (h.below hb).take m (a + 1) 1 0 hT2.symm (by show a + 1 + 1 ≤ _; omega) (by decide)
  have hv1 : IntKind.i64.wrap ((a : Int) + 1) = (a : Int) + 1 := IntWalk.i64_in _ (by omega)
  simp only at h5 hsize hy0
  have hle : lead + size ≤ W := by
    rcases hwin with h | h
    · injection h with _ h; exact absurd h hsize
    · exact h.2
  have hsz : size ≤ 64 := by omega
  have hsp : 0 < size := by omega
  have hD3 : decide ((d : Int) < 2 + (size : Int)) = false := by simp; omega
  have hs0 : ((size : Int) == 0) = false := by rw [beq_eq_false_iff_ne]; omega
  have hWd : decide ((W : Int) < (lead : Int) + (size : Int)) = false := by simp; omega
  have hv3 : IntKind.i64.wrap ((lead : Int) + (size : Int)) = (lead : Int) + (size : Int) := IntWalk.i64_in _ (by omega)
  have hv4 : IntKind.i64.wrap ((a : Int) + 2) = (a : Int) + 2 := IntWalk.i64_in _ (by omega)
  obtain ⟨y, hy⟩ : ∃ y, y = takeW (bo s) (a + 2) size := ⟨_, rfl⟩
  have hylt : y < 2 ^ size := by
    have e3 : takeW (bo s) (a + 2) size < 2 ^ ((bo s).drop (a + 2) |>.take size).length := wv_lt (((bs_bo s).drop _).take _)
    have e4 : ((bo s).drop (a + 2) |>.take size).length ≤ size := by rw [List.length_take]; omega
    exact hy ▸ Nat.lt_of_lt_of_le e3 (Nat.pow_le_pow_right (by decide) e4)
  have HT3 := fun w' (hb : Below w.heap.size w w') m => (h.below hb).take m (a + 2) size y hy (by show a + 2 + size ≤ _; omega) hsz
  obtain ⟨W1, hW1⟩ : ∃ W1, W1 = W - lead := ⟨_, rfl⟩
  obtain ⟨b0, hb0⟩ : ∃ b0, b0 = W1 - size := ⟨_, rfl⟩
  have hv5 : IntKind.i64.wrap ((W : Int) - (lead : Int)) = (W1 : Int) := by rw [show (W : Int) - (lead : Int) = (W1 : Int) by omega]; exact IntWalk.i64_in _ (by omega)
  have hv6 : IntKind.i64.wrap ((W1 : Int) - (size : Int)) = (b0 : Int) := by rw [show (W1 : Int) - (size : Int) = (b0 : Int) by omega]; exact IntWalk.i64_in _ (by omega)
  have hy64 : y < 18446744073709551616 := Nat.lt_of_lt_of_le hylt (Nat.pow_le_pow_right (n := 2) (j := 64) (by decide) hsz)
  obtain ⟨s1, hs1⟩ : ∃ s1, s1 = size - 1 := ⟨_, rfl⟩
  have hv7 : (size : Int) - 1 = (s1 : Int) := by omega
  have hs164 : s1 < 64 := by omega
  obtain ⟨r1, hr1⟩ : ∃ r1, r1 = y / 2 ^ 0 % 2 := ⟨_, rfl⟩
  obtain ⟨r2, hr2⟩ : ∃ r2, r2 = y / 2 ^ s1 % 2 := ⟨_, rfl⟩
  have ha1 := shr_bit y 0 r1 hy64 hr1
  have ha2 := shr_bit y s1 r2 hy64 hr2
  rw [Int.pow_zero, Int.ediv_one] at ha1
  obtain ⟨x, hx⟩ : ∃ x, x = y * 2 ^ b0 := ⟨_, rfl⟩
  have hxlt : x < 2 ^ W1 := by
    rw [hx, show W1 = size + b0 by omega, Nat.pow_add]
    exact Nat.mul_lt_mul_of_pos_right hylt (Nat.two_pow_pos _)
  have hx64 : x < 18446744073709551616 := Nat.lt_of_lt_of_le hxlt (Nat.pow_le_pow_right (n := 2) (j := 64) (by decide) (by omega))
  have hshl : IntKind.u64.wrap ((y : Int) * 2 ^ b0) = (x : Int) := by
    have e3 : ((y : Int) * 2 ^ b0) = (x : Int) := by rw [hx]; push_cast; rfl
    rw [e3, IntKind.wrap_u64]; omega
  have hb064 : b0 < 64 := by omega
  have hxz : ((x : Int) == 0) = true := by rw [hx, hy, hy0, Nat.zero_mul]; rfl
  have hr1z : ((r1 : Int) == 1) = false := by rw [hr1, hy, hy0]; decide
  clear h1 h2 h3 h4 h5 hd h hat hlen hT1 hT2 hsize hy0 hy hylt hx hxlt hW1 hb0 hr1 hr2 hs1 hle hbef
  go_enter Tryd.func41, Tryd.ntmps41
  go_wp2_with fail
  refine hl0.mono ?_
  rintro r w1 ⟨rfl, hw1⟩
  have hb1 : Below w.heap.size w w1 := by obtain ⟨z, rfl⟩ := hw1; exact bdn (Below.refl _ _) _
  have ht := HT0 w1 hb1
  have hb := hbu.below hb1 hz
  have k3 := hb.cell 3
  have kf := hb.frozen 3
  simp only [rdCells] at k3
  have hz1 := hb.lt
  clear hw1
  go_wp2
  go_quiet ((go_at_call 40; exact ht _))
  have hb2 : Below w.heap.size w (w1.drewN nq) := bdn hb1 nq
  generalize w1.drewN nq = w2 at *
  clear ht hb k3 kf hz1 hb1 HT0
  have hl2 := HL w2 hb2 0
  go_wp2_with fail
  refine hl2.mono ?_
  rintro r w3 ⟨rfl, hw3⟩
  have hb3 : Below w.heap.size w w3 := by obtain ⟨z, rfl⟩ := hw3; exact bdn hb2 _
  clear hl2 hw3 hb2
  have k5 := (hbu.below hb3 hz).cell 5
  have k6 := (hbu.below hb3 hz).cell 6
  simp only [rdCells] at k5 k6
  have hz3 := (hbu.below hb3 hz).lt
  go_wp2
  have hb4 : Below w.heap.size w (w3.alloc (.cells #[.int .i64 (lead : Int), .int .i64 (size : Int)] 57)) := hb3.alloc hb3.size _
  have hQ := Blk.new w3 57 #[.int .i64 (lead : Int), .int .i64 (size : Int)]
  have hQp : p < w3.heap.size := hz3
  generalize w3.alloc (.cells #[.int .i64 (lead : Int), .int .i64 (size : Int)] 57) = w4 at *
  have hQs : w.heap.size ≤ w3.heap.size := hb3.size
  generalize w3.heap.size = Q at *
  clear k5 k6 hz3 hb3
  have ht2 := HT2 w4 hb4
  have hk4 := hbu.below hb4 hz
  have k3 := hk4.cell 3
  simp only [rdCells] at k3
  have hz4 := hk4.lt
  go_quiet ((go_at_call 40; exact ht2 _))
  have hb6 := bdn hb4 nq
  have hQ6 := hQ.drewN nq
  generalize w4.drewN nq = w6 at *
  clear ht2 hk4 k3 hz4 hb4 hQ HT2
  have q0 := hQ6.cell 0
  have q1 := hQ6.cell 1
  have qz := hQ6.lt
  have hl6 := HL w6 hb6
  have hv2 : IntKind.i64.wrap ((2 : Int) + (size : Int)) = 2 + (size : Int) := IntWalk.i64_in _ (by omega)
  go_wp2
  go_quiet ((go_at_call 39; exact hl6 _))
  have hb7 := bdn hb6 nq
  have hQ7 := hQ6.drewN nq
  generalize w6.drewN nq = w7 at *
  clear hb6 hQ6 q0 q1 qz hl6
  have q0 := hQ7.cell 0
  have q1 := hQ7.cell 1
  have qz := hQ7.lt
  have hk7 := hbu.below hb7 hz
  have k4 := hk7.cell 4
  simp only [rdCells] at k4
  have kz := hk7.lt
  go_wp2
  go_quiet (fail)
  have hb8 := bdn hb7 nq
  have hQ8 := hQ7.drewN nq
  generalize w7.drewN nq = w8 at *
  clear hb7 hQ7 q0 q1 qz hk7 k4 kz
  have q0 := hQ8.cell 0
  have q1 := hQ8.cell 1
  have qz := hQ8.lt
  have hk8 := hbu.below hb8 hz
  have k3 := hk8.cell 3
  have k4 := hk8.cell 4
  simp only [rdCells] at k3 k4
  have kz := hk8.lt
  have ht3 := HT3 w8 hb8
  go_wp2
  go_quiet ((go_at_call 40; exact ht3 _))
  have hb9 := bdn hb8 nq
  have hQ9 := hQ8.drewN nq
  generalize w8.drewN nq = w9 at *
  clear hb8 hQ8 q0 q1 qz hk8 k3 k4 kz ht3 HT3 HL
  have q0 := hQ9.cell 0
  have q1 := hQ9.cell 1
  have qz := hQ9.lt
  have hk9 := hbu.below hb9 hz
  have k4 := hk9.cell 4
  simp only [rdCells] at k4
  have kz := hk9.lt
  go_wp2
  go_quiet (fail)
  have hb10 := bdn hb9 nq
  have hQ10 := hQ9.drewN nq
  generalize w9.drewN nq = w10 at *
  go_wp2
  go_quiet (fail)
  have hbf := bdn hb10 nq
  go_wp2
  go_returns
  exact ⟨rfl, hbf⟩
end Go.Proofs.YtefhannaofknnaaDoor
