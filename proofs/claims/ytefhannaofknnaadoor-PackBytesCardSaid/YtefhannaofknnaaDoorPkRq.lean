/- Plain: the document's way to read a piece. No program here. -/
import Derived.Test.YtefhannaofknnaaDoorPkRp
namespace Go.Proofs.YtefhannaofknnaaDoor
open Go.RowKit
set_option linter.unusedVariables false
set_option linter.unusedSimpArgs false
set_option maxHeartbeats 4000000
set_option maxRecDepth 100000

theorem pu_end {W : Nat} {B : List Nat} {u : Ust} (h : B.length - u.at_ < 1) : pieceU W B u = none := by unfold pieceU; rw [if_pos h]
theorem pu_one {W : Nat} {B : List Nat} {u : Ust} (h0 : ¬ B.length - u.at_ < 1) (h1 : takeW B u.at_ 1 ≠ 0) (h : B.length - u.at_ < 2) : pieceU W B u = none := by
  unfold pieceU; rw [if_neg h0, if_neg h1, if_pos h]
theorem pu_short0 {W : Nat} {B : List Nat} {u : Ust} (h0 : ¬ B.length - u.at_ < 2) (h1 : takeW B u.at_ 1 ≠ 0) (h2 : takeW B (u.at_ + 1) 1 ≠ 1) (h : B.length - u.at_ < 2 + u.w.2) : pieceU W B u = none := by
  unfold pieceU; rw [if_neg (by omega), if_neg h1, if_neg h0, if_neg h2, if_pos h]
theorem pu_short1 {W : Nat} {B : List Nat} {u : Ust} (h0 : ¬ B.length - u.at_ < 2) (h1 : takeW B u.at_ 1 ≠ 0) (h2 : takeW B (u.at_ + 1) 1 = 1) (h : B.length - u.at_ < 14) : pieceU W B u = none := by
  unfold pieceU; rw [if_neg (by omega), if_neg h1, if_neg h0, if_pos h2, if_pos h]
theorem pu_short2 {W : Nat} {B : List Nat} {u : Ust} (h0 : ¬ B.length - u.at_ < 14) (h1 : takeW B u.at_ 1 ≠ 0) (h2 : takeW B (u.at_ + 1) 1 = 1) (h : B.length - u.at_ < 14 + (takeW B (u.at_ + 8) 6 + 1)) : pieceU W B u = none := by
  unfold pieceU; rw [if_neg (by omega), if_neg h1, if_neg (by omega), if_pos h2, if_neg h0, if_pos h]
theorem pu_wide {W : Nat} {B : List Nat} {u : Ust} (h1 : takeW B u.at_ 1 ≠ 0) (h2 : takeW B (u.at_ + 1) 1 = 1) (h0 : ¬ B.length - u.at_ < 14 + (takeW B (u.at_ + 8) 6 + 1)) (h : W < takeW B (u.at_ + 2) 6 + (takeW B (u.at_ + 8) 6 + 1)) : pieceU W B u = some none := by
  unfold pieceU; rw [if_neg (by omega), if_neg h1, if_neg (by omega), if_pos h2, if_neg (by omega), if_neg h0, if_pos h]
/-- What a piece may be, whole. -/
def Shape (W : Nat) (B : List Nat) (u : Ust) (x size : Nat) : Prop :=
  x < 2 ^ W ∧ u.at_ + size ≤ B.length ∧ (pieceU W B u = some none ∨ ∃ w', pieceU W B u = some (some ⟨u.at_ + size, w', u.before ^^^ x⟩))
theorem shape0 {W : Nat} {B : List Nat} {u : Ust} (h0 : ¬ B.length - u.at_ < 1) (h1 : takeW B u.at_ 1 = 0) : Shape W B u 0 1 := by
  refine ⟨Nat.two_pow_pos _, by omega, .inr ⟨u.w, ?_⟩⟩
  unfold pieceU; rw [if_neg h0, if_pos h1, Nat.xor_zero]
theorem shape1 {W : Nat} {B : List Nat} {u : Ust} (hB : Bs B) (hw : Win W u.w) (h0 : ¬ B.length - u.at_ < 2) (h1 : takeW B u.at_ 1 ≠ 0) (h2 : takeW B (u.at_ + 1) 1 ≠ 1) (h : ¬ B.length - u.at_ < 2 + u.w.2) :
    u.w.1 + u.w.2 ≤ W ∧ Shape W B u (takeW B (u.at_ + 2) u.w.2 * 2 ^ (W - u.w.1 - u.w.2)) (2 + u.w.2) := by
  have hwl : u.w.1 + u.w.2 ≤ W := by
    rcases hw with e | e
    · rw [e]; simp
    · exact e.2
  refine ⟨hwl, ?_, by omega, ?_⟩
  · have hy := takeW_lt2 hB (u.at_ + 2) u.w.2 (by omega)
    have h3 := Nat.mul_lt_mul_of_pos_right hy (Nat.two_pow_pos (W - u.w.1 - u.w.2))
    rw [← Nat.pow_add] at h3
    exact Nat.lt_of_lt_of_le h3 (Nat.pow_le_pow_right (by decide) (by omega))
  · unfold pieceU
    rw [if_neg (by omega), if_neg h1, if_neg h0, if_neg h2, if_neg h]
    by_cases c1 : u.w.2 = 0 ∨ W < u.w.1 + u.w.2
    · rw [if_pos c1]; exact .inl rfl
    · rw [if_neg c1]
      by_cases c2 : takeW B (u.at_ + 2) u.w.2 = 0
      · rw [if_pos c2]; exact .inl rfl
      · rw [if_neg c2]; exact .inr ⟨_, rfl⟩
theorem shape2 {W : Nat} {B : List Nat} {u : Ust} (hB : Bs B) (h1 : takeW B u.at_ 1 ≠ 0) (h2 : takeW B (u.at_ + 1) 1 = 1) (h0 : ¬ B.length - u.at_ < 14 + (takeW B (u.at_ + 8) 6 + 1)) (h : ¬ W < takeW B (u.at_ + 2) 6 + (takeW B (u.at_ + 8) 6 + 1)) :
    Shape W B u (takeW B (u.at_ + 14) (takeW B (u.at_ + 8) 6 + 1) * 2 ^ (W - takeW B (u.at_ + 2) 6 - (takeW B (u.at_ + 8) 6 + 1))) (14 + (takeW B (u.at_ + 8) 6 + 1)) := by
  refine ⟨?_, by omega, ?_⟩
  · have hy := takeW_lt2 hB (u.at_ + 14) (takeW B (u.at_ + 8) 6 + 1) (by omega)
    have h3 := Nat.mul_lt_mul_of_pos_right hy (Nat.two_pow_pos (W - takeW B (u.at_ + 2) 6 - (takeW B (u.at_ + 8) 6 + 1)))
    rw [← Nat.pow_add] at h3
    exact Nat.lt_of_lt_of_le h3 (Nat.pow_le_pow_right (by decide) (by omega))
  · unfold pieceU
    rw [if_neg (by omega), if_neg h1, if_neg (by omega), if_pos h2, if_neg (by omega), if_neg h0, if_neg h]
    split
    · exact .inl rfl
    · exact .inr ⟨_, rfl⟩
/-- Whether it is a piece: by its bits. -/
theorem pu_full {W x size : Nat} {B : List Nat} {u : Ust} (hW : W ≤ 64) (hB : Bs B) (hw : Win W u.w) (ha : u.at_ ≤ B.length) (hbf : u.before < 2 ^ W) (h : Shape W B u x size) :
    pieceU W B u = if (pieceS W x u.w).1 = (B.drop u.at_).take size then some (some ⟨u.at_ + size, (pieceS W x u.w).2, u.before ^^^ x⟩) else some none := by
  obtain ⟨hx, hle, hs⟩ := h
  have hsl : ((B.drop u.at_).take size).length = size := by rw [List.length_take, List.length_drop]; omega
  by_cases he : (pieceS W x u.w).1 = (B.drop u.at_).take size
  · rw [if_pos he]
    have hd : B.drop u.at_ = (pieceS W x u.w).1 ++ B.drop (u.at_ + size) := by
      rw [he, ← List.drop_drop, List.take_append_drop]
    rw [pieceU_piece hW hx hw hd, he, hsl]
  · rw [if_neg he]
    rcases hs with h1 | ⟨w', h1⟩
    · exact h1
    · exfalso
      obtain ⟨_, h2, _⟩ := pieceU_inv hW hB hw ha hbf h1
      simp only at h2
      rw [← Nat.xor_assoc, Nat.xor_self, Nat.zero_xor] at h2
      apply he
      have hl : (pieceS W x u.w).1.length = size := by
        have := congrArg List.length h2
        rw [List.length_append, List.length_drop, List.length_drop] at this
        omega
      rw [h2, take_app _ _ _ hl]
/-- What is told, laid at its place. -/
theorem wv_laid (L n : Nat) (b : List Nat) (W : Nat) (hb : b.length = n) (h : L + n ≤ W) : wv (List.replicate L 0 ++ b ++ List.replicate (W - L - n) 0) = wv b * 2 ^ (W - L - n) := by
  rw [wv_append, wv_append, wv_zeros, wv_zeros, List.length_replicate]
  simp
/-- What lies behind the floats. -/
theorem rest_ok {B : List Nat} (hB : Bs B) {n at_ : Nat} (hl : B.length = 8 * n) (ha : at_ ≤ B.length) : (7 < 8 * n - at_ ∨ takeW B at_ (8 * n - at_) ≠ 0) ↔ ∃ i, at_ ≤ i ∧ i < B.length ∧ (nth B i ≠ 0 ∨ (at_ + 7) / 8 * 8 ≤ i) := by
  have htk : (B.drop at_).take (8 * n - at_) = B.drop at_ := List.take_of_length_le (by rw [List.length_drop]; omega)
  constructor
  · intro h
    by_cases h7 : 7 < 8 * n - at_
    · exact ⟨8 * n - 1, by omega, by omega, .inr (by omega)⟩
    · have h2 : takeW B at_ (8 * n - at_) ≠ 0 := h.resolve_left h7
      apply Classical.byContradiction
      intro hno
      apply h2
      unfold takeW
      rw [htk]
      refine all_zero (fun j hj => ?_)
      rw [List.length_drop] at hj
      rw [nth_drop]
      apply Classical.byContradiction
      intro hnz
      exact hno ⟨at_ + j, by omega, by omega, .inl hnz⟩
  · rintro ⟨i, h1, h2, h3⟩
    by_cases h7 : 7 < 8 * n - at_
    · exact .inl h7
    · right
      intro hz
      unfold takeW at hz
      rw [htk] at hz
      have hr := bs_zero (hB.drop at_) hz
      rcases h3 with h3 | h3
      · apply h3
        have e : nth (B.drop at_) (i - at_) = nth B i := by rw [nth_drop]; congr 1; omega
        rw [← e, hr, nth_lt _ (by rw [List.length_replicate, List.length_drop]; omega)]
        simp
      · omega
theorem takeW_one {B : List Nat} {a : Nat} (h : a < B.length) : takeW B a 1 = nth B a := by
  unfold takeW
  exact one_bit a h
end Go.Proofs.YtefhannaofknnaaDoor
