/- Walk: piece, whole. -/
import Derived.Test.YtefhannaofknnaaDoorPkZE
import Derived.Test.YtefhannaofknnaaDoorPkY
namespace Go.Proofs.YtefhannaofknnaaDoor
open Go.RowKit
set_option linter.unusedVariables false
set_option linter.unusedSimpArgs false
set_option maxHeartbeats 4000000
set_option maxRecDepth 100000

theorem reader_piece (w : World) (p W : Nat) (A : Option Addr) (c : Nat) (s : List Nat) (u : Ust) (h : Rdr w p W A c s u) :
    Calls Tryd.prog 41 #[.pointer (some ⟨p, 0, none⟩)] w (PieAns w p W A c s u) := by
  by_cases h1 : (bo s).length - u.at_ < 1
  · exact piece_end w p W A c s u h h1
  by_cases h2 : takeW (bo s) u.at_ 1 = 0
  · exact piece_same w p W A c s u h h1 h2
  by_cases h3 : (bo s).length - u.at_ < 2
  · exact piece_one w p W A c s u h h1 h2 h3
  by_cases h4 : takeW (bo s) (u.at_ + 1) 1 = 1
  · by_cases h5 : (bo s).length - u.at_ < 14
    · exact piece_new_end w p W A c s u h h1 h2 h3 h4 h5
    by_cases h6 : (bo s).length - u.at_ < 14 + (takeW (bo s) (u.at_ + 8) 6 + 1)
    · exact piece_new_short w p W A c s u h h1 h2 h3 h4 h5 h6
    by_cases h7 : W < takeW (bo s) (u.at_ + 2) 6 + (takeW (bo s) (u.at_ + 8) 6 + 1)
    · exact piece_new_far w p W A c s u h h1 h2 h3 h4 h5 h6 h7
    by_cases h8 : takeW (bo s) (u.at_ + 14) (takeW (bo s) (u.at_ + 8) 6 + 1) = 0 ∨ ¬ (takeW (bo s) (u.at_ + 14) (takeW (bo s) (u.at_ + 8) 6 + 1) % 2 = 1 ∧ takeW (bo s) (u.at_ + 14) (takeW (bo s) (u.at_ + 8) 6 + 1) / 2 ^ takeW (bo s) (u.at_ + 8) 6 % 2 = 1)
    · exact piece_new_bad w p W A c s u h h1 h2 h3 h4 h5 h6 h7 h8
    by_cases h9 : holdsS W u.w (takeW (bo s) (u.at_ + 14) (takeW (bo s) (u.at_ + 8) 6 + 1) * 2 ^ (W - takeW (bo s) (u.at_ + 2) 6 - (takeW (bo s) (u.at_ + 8) 6 + 1)))
    · exact piece_new_held w p W A c s u h h1 h2 h3 h4 h5 h6 h7 h8 h9
    · exact piece_new_ok w p W A c s u h h1 h2 h3 h4 h5 h6 h7 h8 h9
  · by_cases h5 : (bo s).length - u.at_ < 2 + u.w.2
    · exact piece_old_end w p W A c s u h h1 h2 h3 h4 h5
    by_cases h6 : u.w.2 = 0
    · exact piece_old_none w p W A c s u h h1 h2 h3 h4 h5 h6
    by_cases h7 : takeW (bo s) (u.at_ + 2) u.w.2 = 0
    · exact piece_old_zero w p W A c s u h h1 h2 h3 h4 h5 h6 h7
    · exact piece_old_ok w p W A c s u h h1 h2 h3 h4 h5 h6 h7
theorem takeW_lt (s : List Nat) (b k : Nat) : takeW (bo s) b k < 2 ^ k := by
  have e3 : takeW (bo s) b k < 2 ^ ((bo s).drop b |>.take k).length := wv_lt (((bs_bo s).drop _).take _)
  have e4 : ((bo s).drop b |>.take k).length ≤ k := by rw [List.length_take]; omega
  exact Nat.lt_of_lt_of_le e3 (Nat.pow_le_pow_right (by decide) e4)
/-- A piece that is right leaves a reader. -/
theorem piece_keeps {W : Nat} {s : List Nat} {u u' : Ust} (hat : u.at_ ≤ 8 * s.length) (hW : W ≤ 64) (hwin : Win W u.w) (hbef : u.before < 2 ^ W) (h : pieceU W (bo s) u = some (some u')) : u.at_ < u'.at_ ∧ u'.at_ ≤ 8 * s.length ∧ Win W u'.w ∧ u'.before < 2 ^ W := by
  have pw : ∀ (y l k : Nat), l + k ≤ W → y < 2 ^ k → y * 2 ^ (W - l - k) < 2 ^ W := by
    intro y l k hlk hy
    have h1 : y * 2 ^ (W - l - k) < 2 ^ k * 2 ^ (W - l - k) := Nat.mul_lt_mul_of_pos_right hy (Nat.two_pow_pos _)
    rw [← Nat.pow_add] at h1
    exact Nat.lt_of_lt_of_le h1 (Nat.pow_le_pow_right (by decide) (by omega))
  unfold pieceU at h
  rw [bo_length] at h
  split at h
  · cases h
  · split at h
    · injection h with h; injection h with h; subst h
      exact ⟨Nat.lt_succ_self _, by show u.at_ + 1 ≤ _; omega, hwin, hbef⟩
    · split at h
      · cases h
      · split at h
        · split at h
          · cases h
          · split at h
            · cases h
            · split at h
              · cases h
              · split at h
                · cases h
                · injection h with h; injection h with h; subst h
                  exact ⟨by show u.at_ < u.at_ + _; omega, by show u.at_ + _ ≤ _; omega, .inr ⟨Nat.succ_pos _, by simp only; omega⟩, xor_lt hbef (pw _ _ _ (by omega) (takeW_lt _ _ _))⟩
        · split at h
          · cases h
          · split at h
            · cases h
            · rename_i hn
              split at h
              · cases h
              · injection h with h; injection h with h; subst h
                exact ⟨by show u.at_ < u.at_ + _; omega, by show u.at_ + _ ≤ _; omega, hwin, xor_lt hbef (pw _ _ _ (by omega) (takeW_lt _ _ _))⟩
end Go.Proofs.YtefhannaofknnaaDoor
