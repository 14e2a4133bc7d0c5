/- Plain: what a row of floats packs to: windows, pieces. No program here. -/
import Derived.Test.YtefhannaofknnaaDoorPkP
import Derived.Lib.BitFns
import Derived.Lib.TrailingZeros
namespace Go.Proofs.YtefhannaofknnaaDoor
open Go.RowKit
set_option linter.unusedVariables false
set_option linter.unusedSimpArgs false
set_option maxHeartbeats 4000000
set_option maxRecDepth 100000

/-- Does a number of W bits lie in a window (how many bits lie ahead, how many are told)? -/
def holdsS (W : Nat) (w : Nat × Nat) (x : Nat) : Prop := 0 < w.2 ∧ x % 2 ^ (W - w.1 - w.2) = 0 ∧ x < 2 ^ (W - w.1)
instance (W : Nat) (w : Nat × Nat) (x : Nat) : Decidable (holdsS W w x) := by unfold holdsS; infer_instance
/-- A float's piece (x: the float against the one before), and the window behind it. -/
def pieceS (W x : Nat) (w : Nat × Nat) : List Nat × (Nat × Nat) :=
  if x = 0 then ([0], w)
  else if holdsS W w x then ([1, 0] ++ nb (x / 2 ^ (W - w.1 - w.2)) w.2, w)
  else ([1, 1] ++ (nb (W - Lib.bitLen x) 6 ++ nb (Lib.bitLen x - Lib.ctz 64 x - 1) 6 ++ nb (x / 2 ^ Lib.ctz 64 x) (Lib.bitLen x - Lib.ctz 64 x)), (W - Lib.bitLen x, Lib.bitLen x - Lib.ctz 64 x))
/-- What a writer has: its pieces' bits, the float before, the window. -/
structure Wst where
  bs : List Nat
  before : Nat
  w : Nat × Nat
def Wst.step (W : Nat) (s : Wst) (v : Nat) : Wst := ⟨s.bs ++ (pieceS W (s.before ^^^ v) s.w).1, v, (pieceS W (s.before ^^^ v) s.w).2⟩
def wst (W : Nat) (l : List Nat) : Wst := l.foldl (Wst.step W) ⟨[], 0, (0, 0)⟩
theorem wst_snoc (W : Nat) (l : List Nat) (v : Nat) : wst W (l ++ [v]) = (wst W l).step W v := by simp [wst]
/-- A row's bits. -/
def packB (W : Nat) (l : List Nat) : List Nat := nb l.length 17 ++ (wst W l).bs

theorem libBit_le (x k : Nat) (hk : k ≤ 64) (hx : x < 18446744073709551616) : Lib.bitLen x ≤ k ↔ x < 2 ^ k := by
  constructor
  · intro h
    rcases Nat.lt_or_ge x (2 ^ k) with h1 | h1
    · exact h1
    · rcases Nat.lt_or_ge k 64 with hk | hk
      · have h2 := Lib.bitLen_shift k x h1 hx
        have h3 : x / 2 ^ k ≠ 0 := by
          have := Nat.div_pos h1 (Nat.two_pow_pos k)
          omega
        have h4 := Lib.bitLen_half (x / 2 ^ k) h3 (Nat.lt_of_le_of_lt (Nat.div_le_self _ _) hx)
        omega
      · have : k = 64 := by omega
        subst this; omega
  · exact Lib.bitLen_le x k (by omega)
/-- The highest bit. -/
theorem top_bit {x : Nat} (h0 : x ≠ 0) (hx : x < 18446744073709551616) : 0 < Lib.bitLen x ∧ Lib.bitLen x ≤ 64 ∧ 2 ^ (Lib.bitLen x - 1) ≤ x ∧ x < 2 ^ Lib.bitLen x := by
  have h1 := libBit_le x (Lib.bitLen x) ((libBit_le x 64 (Nat.le_refl _) hx).2 (by omega)) hx
  have h64 := (libBit_le x 64 (Nat.le_refl _) hx).2 (by omega)
  have hp : 0 < Lib.bitLen x := by
    rcases Nat.eq_zero_or_pos (Lib.bitLen x) with h | h
    · have := (libBit_le x 0 (by decide) hx).1 (by omega)
      simp at this; omega
    · exact h
  refine ⟨hp, h64, ?_, h1.1 (Nat.le_refl _)⟩
  rcases Nat.lt_or_ge x (2 ^ (Lib.bitLen x - 1)) with h | h
  · have := (libBit_le x (Lib.bitLen x - 1) (by omega) hx).2 h
    omega
  · exact h
/-- The lowest bit. -/
theorem low_bit {x : Nat} (h0 : x ≠ 0) (hx : x < 18446744073709551616) : Lib.ctz 64 x < Lib.bitLen x ∧ x % 2 ^ Lib.ctz 64 x = 0 ∧ x / 2 ^ Lib.ctz 64 x % 2 = 1 := by
  have e : Lib.ctz 64 x = Lib.ctzFrom 64 x := by unfold Lib.ctz; rw [if_neg h0]
  obtain ⟨m, hm, hlt⟩ := Lib.ctzFrom_spec 64 x (by omega) (by omega)
  rw [← e] at hm hlt
  generalize Lib.ctz 64 x = k at *
  have hp := Nat.two_pow_pos k
  refine ⟨?_, by rw [hm]; simp, by rw [hm, Nat.mul_div_cancel_left _ hp]; omega⟩
  rcases Nat.lt_or_ge k (Lib.bitLen x) with h | h
  · exact h
  · exfalso
    have h1 := (libBit_le x k (by omega) hx).1 h
    rw [hm] at h1
    have : 2 ^ k * 1 ≤ 2 ^ k * (2 * m + 1) := Nat.mul_le_mul_left _ (by omega)
    omega
theorem bs_piece (W x : Nat) (w : Nat × Nat) : Bs (pieceS W x w).1 := by
  unfold pieceS
  split
  · exact Bs.one (by decide)
  · split
    · exact Bs.append (Bs.cons (by decide) (Bs.one (by decide))) (bs_nb _ _)
    · exact Bs.append (Bs.cons (by decide) (Bs.one (by decide))) (((bs_nb _ _).append (bs_nb _ _)).append (bs_nb _ _))
theorem bs_wst (W : Nat) (l : List Nat) : Bs (wst W l).bs := by
  have : ∀ (l : List Nat) (s : Wst), Bs s.bs → Bs (l.foldl (Wst.step W) s).bs := by
    intro l
    induction l with
    | nil => intro s h; exact h
    | cons v l ih => intro s h; exact ih _ (h.append (bs_piece _ _ _))
  exact this l _ Bs.nil
/-- May a window be: what it tells lies in the width; or it tells nothing yet. -/
def Win (W : Nat) (w : Nat × Nat) : Prop := w = (0, 0) ∨ (0 < w.2 ∧ w.1 + w.2 ≤ W)
theorem win_piece {W x : Nat} {w : Nat × Nat} (hW : W ≤ 64) (hx : x < 2 ^ W) (hw : Win W w) : Win W (pieceS W x w).2 := by
  have hx64 : x < 18446744073709551616 := Nat.lt_of_lt_of_le hx (Nat.pow_le_pow_right (n := 2) (j := 64) (by decide) hW)
  unfold pieceS
  split
  · exact hw
  · rename_i h0
    split
    · exact hw
    · obtain ⟨h1, h2, h3, h4⟩ := top_bit h0 hx64
      obtain ⟨h5, _, _⟩ := low_bit h0 hx64
      have h6 := (libBit_le x W hW hx64).2 hx
      exact .inr ⟨by simp only; omega, by simp only; omega⟩
theorem piece_len {W x : Nat} {w : Nat × Nat} (hW : W ≤ 64) (hx : x < 2 ^ W) (hw : Win W w) : 1 ≤ (pieceS W x w).1.length ∧ (pieceS W x w).1.length ≤ 14 + W := by
  have hx64 : x < 18446744073709551616 := Nat.lt_of_lt_of_le hx (Nat.pow_le_pow_right (n := 2) (j := 64) (by decide) hW)
  unfold pieceS
  split
  · simp; omega
  · rename_i h0
    split
    · rename_i hh
      have : w.2 ≤ W := by
        rcases hw with h | h
        · rw [h] at hh; exact absurd hh.1 (by simp)
        · omega
      simp; omega
    · have h6 := (libBit_le x W hW hx64).2 hx
      simp; omega
theorem xor_lt {a b W : Nat} (ha : a < 2 ^ W) (hb : b < 2 ^ W) : a ^^^ b < 2 ^ W := Nat.xor_lt_two_pow ha hb
/-- What is known of a writer that has packed a row whose floats fit. -/
theorem wst_ok {W : Nat} (hW : W ≤ 64) : ∀ (l : List Nat), (∀ v ∈ l, v < 2 ^ W) → Win W (wst W l).w ∧ (wst W l).before < 2 ^ W ∧ l.length ≤ (wst W l).bs.length ∧ (wst W l).bs.length ≤ l.length * (14 + W) := by
  have key : ∀ (l : List Nat) (s : Wst), (∀ v ∈ l, v < 2 ^ W) → Win W s.w → s.before < 2 ^ W → Win W (l.foldl (Wst.step W) s).w ∧ (l.foldl (Wst.step W) s).before < 2 ^ W ∧ s.bs.length + l.length ≤ (l.foldl (Wst.step W) s).bs.length ∧ (l.foldl (Wst.step W) s).bs.length ≤ s.bs.length + l.length * (14 + W) := by
    intro l
    induction l with
    | nil => intro s _ h1 h2; exact ⟨h1, h2, by simp, by simp⟩
    | cons v l ih =>
      intro s hl h1 h2
      have hv := hl v List.mem_cons_self
      have hx := xor_lt h2 hv
      have hp := piece_len hW hx h1
      obtain ⟨a, b, c, d⟩ := ih (s.step W v) (fun y hy => hl y (List.mem_cons_of_mem _ hy)) (win_piece hW hx h1) hv
      have e : (s.step W v).bs.length = s.bs.length + (pieceS W (s.before ^^^ v) s.w).1.length := by simp [Wst.step]
      rw [e] at c d
      refine ⟨a, b, by simp only [List.length_cons, List.foldl_cons]; omega, ?_⟩
      simp only [List.length_cons, List.foldl_cons, Nat.succ_mul]
      omega
  intro l hl
  have := key l ⟨[], 0, (0, 0)⟩ hl (.inl rfl) (Nat.two_pow_pos W)
  simpa [wst] using this
end Go.Proofs.YtefhannaofknnaaDoor
