/- Walk: piece, where it ends behind one bit. -/
import Derived.Test.YtefhannaofknnaaDoorPkT
namespace Go.Proofs.YtefhannaofknnaaDoor
open Go.RowKit
set_option linter.unusedVariables false
set_option linter.unusedSimpArgs false
set_option maxHeartbeats 4000000
set_option maxRecDepth 100000

theorem piece_one (w : World) (p W : Nat) (A : Option Addr) (c : Nat) (s : List Nat) (u : Ust) (h : Rdr w p W A c s u) (h1 : ¬ (bo s).length - u.at_ < 1) (h2 : ¬ takeW (bo s) u.at_ 1 = 0) (h3 : (bo s).length - u.at_ < 2) :
    Calls Tryd.prog 41 #[.pointer (some ⟨p, 0, none⟩)] w (PieAns w p W A c s u) := by
  have e : PieAns w p W A c s u = fun en w' => en = .returned (.tuple #[.int .u64 0, .bool false, .bool false]) ∧ Below w.heap.size w w' := by
    funext en w'; unfold PieAns pieceU; rw [if_neg h1, if_neg h2, if_pos h3]
  rw [e]
  clear e
  rw [bo_length] at h1 h3
  obtain ⟨d, hd⟩ : ∃ d, d = 8 * s.length - u.at_ := ⟨_, rfl⟩
  have hat := h.at_
  have hlen := h.len
  have hW := h.width
  have hwin := h.win
  have hbef := h.bef
  have hT1 : takeW (bo s) u.at_ 1 = 1 := by
    have h3 : takeW (bo s) u.at_ 1 < 2 ^ ((bo s).drop u.at_ |>.take 1).length := wv_lt (((bs_bo s).drop _).take _)
    have h4 : ((bo s).drop u.at_ |>.take 1).length ≤ 1 := by rw [List.length_take]; omega
    have h5 : 2 ^ ((bo s).drop u.at_ |>.take 1).length ≤ 2 ^ 1 := Nat.pow_le_pow_right (by decide) h4
    omega
  have hl0 := h.left 0 d hd
  have HL := fun w' (hb : Below w.heap.size w w') m => (h.below hb).left m d hd
  have HT0 := fun w' (hb : Below w.heap.size w w') m => (h.below hb).take m u.at_ 1 1 hT1.symm (by omega) (by decide)
  have hbu := h.blk
  obtain ⟨a, ⟨lead, size⟩, bef⟩ := u
  simp only at hd hat hwin hbef HT0 hbu hT1 h1 ⊢
  have hD1 : ¬ (d : Int) < 1 := by omega
  have ha : a ≤ 8388608 := by omega
  have hz := hbu.lt
  simp only at h3
  have hD2 : (d : Int) < 2 := by omega
  clear h1 h2 h3 hd h hat hlen hT1
  go_enter Tryd.func41, Tryd.ntmps41
  go_wp2_with fail
  refine hl0.mono ?_
  rintro r w1 ⟨rfl, hw1⟩
  have hb1 : Below w.heap.size w w1 := by obtain ⟨z, rfl⟩ := hw1; exact bdn (Below.refl _ _) _
  have ht := HT0 w1 hb1
  have hb := hbu.below hb1 hz
  have k3 := hb.cell 3
  have kf := hb.frozen 3
  simp only [rdCells] at k3
  have hz1 := hb.lt
  clear hw1
  go_wp2
  go_quiet ((go_at_call 40; exact ht _))
  have hb2 : Below w.heap.size w (w1.drewN nq) := bdn hb1 nq
  generalize w1.drewN nq = w2 at *
  clear ht hb k3 kf hz1 hb1 HT0
  have hl2 := HL w2 hb2 0
  go_wp2_with fail
  refine hl2.mono ?_
  rintro r w3 ⟨rfl, hw3⟩
  have hb3 : Below w.heap.size w w3 := by obtain ⟨z, rfl⟩ := hw3; exact bdn hb2 _
  clear hl2 hw3 hb2
  go_wp2
  go_returns
  exact ⟨rfl, hb3⟩
end Go.Proofs.YtefhannaofknnaaDoor
