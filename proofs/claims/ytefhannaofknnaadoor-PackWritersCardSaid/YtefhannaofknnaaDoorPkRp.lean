/- Plain: a float's piece by its bits' list. No program here. -/
import Derived.Test.YtefhannaofknnaaDoorPkQB
namespace Go.Proofs.YtefhannaofknnaaDoor
open Go.RowKit
set_option linter.unusedVariables false
set_option linter.unusedSimpArgs false
set_option maxHeartbeats 4000000
set_option maxRecDepth 100000

/-- Where a list's first and last 1 lie. -/
structure Ones (x : List Nat) (f t : Nat) : Prop where
  ft : f ≤ t
  tl : t < x.length
  hf : nth x f = 1
  bf : ∀ j, j < f → nth x j = 0
  ht : nth x t = 1
  bt_ : ∀ j, t < j → j < x.length → nth x j = 0
theorem wv_take_drop (x : List Nat) (m : Nat) : wv x = wv (x.take m) * 2 ^ (x.drop m).length + wv (x.drop m) := by
  rw [← wv_append, List.take_append_drop]
theorem all_zero {l : List Nat} (h : ∀ j, j < l.length → nth l j = 0) : wv l = 0 := by
  have e : l = List.replicate l.length 0 := ext_nth (by simp) (fun i hi => by rw [h i hi, nth_lt _ (by simpa using hi)]; simp)
  rw [e, wv_zeros]
theorem nth_drop (x : List Nat) (m j : Nat) : nth (x.drop m) j = nth x (m + j) := by
  rcases Nat.lt_or_ge (m + j) x.length with h | h
  · rw [nth_lt _ (by rw [List.length_drop]; omega), nth_lt _ h, List.getElem_drop]
  · rw [nth_ge _ (by rw [List.length_drop]; omega), nth_ge _ h]
theorem nth_wv {x : List Nat} (hx : Bs x) {j : Nat} (hj : j < x.length) : nth x j = wv x / 2 ^ (x.length - 1 - j) % 2 := by
  have := nth_nb x.length (wv x) j hj
  rw [nb_wv hx] at this
  exact this
theorem low_bits {x : List Nat} (hx : Bs x) (m : Nat) : wv x % 2 ^ (x.length - m) = wv (x.drop m) := by
  have h := wv_lt (hx.drop m)
  rw [List.length_drop] at h
  rw [wv_take_drop x m, List.length_drop, Nat.mul_comm, Nat.mul_add_mod, Nat.mod_eq_of_lt h]
theorem sub_bits {x : List Nat} (hx : Bs x) (a b : Nat) (h : a + b ≤ x.length) : (x.drop a).take b = nb (wv x / 2 ^ (x.length - a - b)) b := by
  have hl : ((x.drop a).take b).length = b := by rw [List.length_take, List.length_drop]; omega
  have e := nb_wv ((hx.drop a).take b)
  rw [hl] at e
  rw [← e, ← nb_mod (wv x / 2 ^ (x.length - a - b)) b]
  congr 1
  have h1 := low_bits hx a
  have h2 := wv_take_drop (x.drop a) b
  have h3 := wv_lt ((hx.drop a).drop b)
  rw [List.length_drop, List.length_drop] at h2 h3
  rw [← h1] at h2
  have h4 : wv x % 2 ^ (x.length - a) / 2 ^ (x.length - a - b) = wv ((x.drop a).take b) := by
    rw [h2, Nat.mul_comm, Nat.mul_add_div (Nat.two_pow_pos _), Nat.div_eq_of_lt h3, Nat.add_zero]
  rw [← h4]
  have h5 : 2 ^ (x.length - a) = 2 ^ (x.length - a - b) * 2 ^ b := by rw [← Nat.pow_add]; congr 1; omega
  rw [h5, Nat.mod_mul_right_div_self]
theorem ones_bits {x : List Nat} (hx : Bs x) (hl : x.length ≤ 64) {f t : Nat} (h : Ones x f t) : wv x ≠ 0 ∧ Lib.bitLen (wv x) = x.length - f ∧ Lib.ctz 64 (wv x) = x.length - 1 - t := by
  obtain ⟨ft, tl, hf, bf, ht, hbt⟩ := h
  have hk : x.length - f - (t - f + 1) = x.length - 1 - t := by omega
  have hz : wv (x.drop (t + 1)) = 0 := all_zero (fun j hj => by
    rw [nth_drop]
    rw [List.length_drop] at hj
    exact hbt _ (by omega) (by omega))
  have hlow := low_bits hx (t + 1)
  rw [hz, show x.length - (t + 1) = x.length - 1 - t by omega] at hlow
  have hod := nth_wv hx tl
  rw [ht] at hod
  have htop := nth_wv hx (show f < x.length by omega)
  rw [hf] at htop
  have hzt : wv (x.take f) = 0 := all_zero (fun j hj => by
    rw [List.length_take] at hj
    rw [nth_tk (by omega)]
    exact bf j (by omega))
  have hup : wv x < 2 ^ (x.length - f) := by
    have := wv_lt (hx.drop f)
    rw [wv_take_drop x f, hzt, Nat.zero_mul, Nat.zero_add]
    rwa [List.length_drop] at this
  obtain ⟨k, hkk⟩ : ∃ k, k = x.length - 1 - t := ⟨_, rfl⟩
  rw [← hkk] at hlow hod hk
  have hxy : wv x = wv x / 2 ^ k * 2 ^ k := by
    have := Nat.div_add_mod (wv x) (2 ^ k)
    rw [hlow, Nat.mul_comm] at this
    omega
  have hy : wv x / 2 ^ k < 2 ^ (t - f + 1) := by
    rw [Nat.div_lt_iff_lt_mul (Nat.two_pow_pos _), ← Nat.pow_add, show t - f + 1 + k = x.length - f by omega]
    exact hup
  have htop2 : wv x / 2 ^ k / 2 ^ (t - f) % 2 = 1 := by
    rw [Nat.div_div_eq_div_mul, ← Nat.pow_add, show k + (t - f) = x.length - 1 - f by omega]
    exact htop.symm
  obtain ⟨a1, a2⟩ := anew_bits (W := x.length) (y := wv x / 2 ^ k) (L := f) (S := t - f) hl (by omega) hy hod.symm htop2
  rw [hk, ← hxy] at a1 a2
  refine ⟨?_, a1, by rw [a2, hkk]⟩
  intro h0
  rw [h0] at htop
  simp at htop
theorem ones_holds {x : List Nat} (hx : Bs x) (hl : x.length ≤ 64) {f t : Nat} (h : Ones x f t) {w : Nat × Nat} (hw : Win x.length w) : holdsS x.length w (wv x) ↔ 0 < w.2 ∧ w.1 ≤ f ∧ t < w.1 + w.2 := by
  obtain ⟨h0, hb, hc⟩ := ones_bits hx hl h
  obtain ⟨ft, tl, hf, bf, ht, hbt⟩ := h
  unfold holdsS
  by_cases h2 : 0 < w.2
  · have hwl : w.1 + w.2 ≤ x.length := by
      rcases hw with e | e
      · rw [e] at h2; cases h2
      · exact e.2
    have h64 : wv x < 18446744073709551616 := Nat.lt_of_lt_of_le (wv_lt hx) (Nat.pow_le_pow_right (n := 2) (j := 64) (by decide) hl)
    have e1 : wv x < 2 ^ (x.length - w.1) ↔ w.1 ≤ f := by
      rw [← libBit_le _ _ (by omega) h64, hb]; omega
    have e2 : wv x % 2 ^ (x.length - w.1 - w.2) = 0 ↔ t < w.1 + w.2 := by
      rw [show x.length - w.1 - w.2 = x.length - (w.1 + w.2) by omega, low_bits hx]
      constructor
      · intro hz
        rcases Nat.lt_or_ge t (w.1 + w.2) with g | g
        · exact g
        · exfalso
          have hr := bs_zero (hx.drop (w.1 + w.2)) hz
          have : nth (x.drop (w.1 + w.2)) (t - (w.1 + w.2)) = 0 := by
            rw [hr, nth_lt _ (by simp; omega)]; simp
          rw [nth_drop, show w.1 + w.2 + (t - (w.1 + w.2)) = t by omega, ht] at this
          cases this
      · intro g
        exact all_zero (fun j hj => by
          rw [nth_drop]
          rw [List.length_drop] at hj
          exact hbt _ (by omega) (by omega))
    rw [e1, e2]
    exact ⟨fun ⟨a, b, c⟩ => ⟨a, c, b⟩, fun ⟨a, b, c⟩ => ⟨a, c, b⟩⟩
  · exact ⟨fun h => absurd h.1 h2, fun h => absurd h.1 h2⟩
theorem piece_zero {x : List Nat} {w : Nat × Nat} (h : ∀ j, j < x.length → nth x j = 0) : pieceS x.length (wv x) w = ([0], w) := by
  unfold pieceS; rw [if_pos (all_zero h)]
theorem piece_within {x : List Nat} (hx : Bs x) (hl : x.length ≤ 64) {f t : Nat} (h : Ones x f t) {w : Nat × Nat} (hw : Win x.length w) (h1 : 0 < w.2 ∧ w.1 ≤ f ∧ t < w.1 + w.2) : pieceS x.length (wv x) w = ([1, 0] ++ (x.drop w.1).take w.2, w) ∧ w.1 + w.2 ≤ x.length := by
  have hwl : w.1 + w.2 ≤ x.length := by
    rcases hw with e | e
    · rw [e] at h1; exact absurd h1.1 (by decide)
    · exact e.2
  unfold pieceS
  rw [if_neg (ones_bits hx hl h).1, if_pos ((ones_holds hx hl h hw).2 h1), sub_bits hx _ _ hwl]
  exact ⟨rfl, hwl⟩
theorem piece_anew {x : List Nat} (hx : Bs x) (hl : x.length ≤ 64) {f t : Nat} (h : Ones x f t) {w : Nat × Nat} (hw : Win x.length w) (h1 : ¬ (0 < w.2 ∧ w.1 ≤ f ∧ t < w.1 + w.2)) : pieceS x.length (wv x) w = ([1, 1] ++ nb f 6 ++ nb (t - f) 6 ++ (x.drop f).take (t - f + 1), (f, t - f + 1)) := by
  obtain ⟨h0, hb, hc⟩ := ones_bits hx hl h
  have hn : ¬ holdsS x.length w (wv x) := fun hh => h1 ((ones_holds hx hl h hw).1 hh)
  obtain ⟨ft, tl, _⟩ := h
  unfold pieceS
  rw [if_neg h0, if_neg hn, hb, hc, sub_bits hx f (t - f + 1) (by omega), show x.length - (x.length - f) = f by omega, show x.length - f - (x.length - 1 - t) = t - f + 1 by omega, show t - f + 1 - 1 = t - f by omega, show x.length - f - (t - f + 1) = x.length - 1 - t by omega]
  simp only [List.append_assoc]
end Go.Proofs.YtefhannaofknnaaDoor
