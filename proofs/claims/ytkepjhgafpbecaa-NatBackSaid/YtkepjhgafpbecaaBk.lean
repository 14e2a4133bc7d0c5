/- Plain: a number's text, read; what is read of a text, written. No program here. -/
import Derived.Test.YtkepjhgafpbecaaPs
import Derived.Test.YtkepjhgafpbecaaG
namespace Go.Proofs.Ytkepjhgafpbecaa
open Go.RowKit
set_option linter.unusedVariables false
set_option linter.unusedSimpArgs false
set_option maxHeartbeats 4000000
set_option maxRecDepth 100000

theorem dv_cons (x : Nat) (l : List Nat) : dv (x :: l) = (x - 48) * 10 ^ l.length + dv l := by
  have := dv_append [x] l
  simpa [dv] using this
theorem dv_rev (ds : List Nat) : dv ((ds.map (48 + ·)).reverse) = dval ds := by
  induction ds with
  | nil => rfl
  | cons x ds ih =>
    simp only [List.map_cons, List.reverse_cons]
    rw [dv_snoc, ih]
    simp only [dval]
    omega
theorem dv_text (n : Nat) : dv (textL n) = n := by
  by_cases h : n = 0
  · subst h; rfl
  · rw [textL_pos h, dv_rev, dval_digs]
theorem dgt_text (n : Nat) : ∀ x ∈ textL n, Dgt x := by
  by_cases h : n = 0
  · subst h
    intro x hx
    rw [textL_zero] at hx
    simp at hx
    subst hx
    exact ⟨by decide, by decide⟩
  · intro x hx
    rw [textL_pos h] at hx
    simp only [List.mem_reverse, List.mem_map] at hx
    obtain ⟨d, hd, rfl⟩ := hx
    have := dg_digs n d hd
    exact ⟨by omega, by omega⟩
theorem text_len_digs {n : Nat} (h : n ≠ 0) : (textL n).length = (digs n).length := by rw [textL_pos h]; simp
theorem text_pos (n : Nat) : 0 < (textL n).length := by
  by_cases h : n = 0
  · subst h; decide
  · rw [text_len_digs h]
    rcases hd : digs n with _ | ⟨x, l⟩
    · exact absurd (digs_nil.1 hd) h
    · simp
theorem text_head (n : Nat) (h : nth (textL n) 0 = 48) : (textL n).length = 1 := by
  by_cases h0 : n = 0
  · subst h0; rfl
  · exfalso
    have hl := digs_low h0
    rw [← text_len_digs h0] at hl
    have hv := dv_text n
    have hd := dgt_text n
    rcases ht : textL n with _ | ⟨x, r⟩
    · have := text_pos n; rw [ht] at this; simp at this
    · rw [ht] at h hl hv hd
      have hx : x = 48 := by simpa [nth] using h
      subst hx
      rw [dv_cons] at hv
      have := dv_lt r (fun y hy => hd y (List.mem_cons_of_mem _ hy))
      simp only [List.length_cons, Nat.add_sub_cancel] at hl
      omega
theorem text_len {n b : Nat} (h : n < 2 ^ b) : (textL n).length ≤ b + 1 := by
  by_cases h0 : n = 0
  · subst h0; have : (textL 0).length = 1 := rfl; omega
  · rw [text_len_digs h0]; exact digs_bound h
/-- With fewer digits than bits: three bits to a digit at least. -/
theorem digs_three {n k : Nat} (h : n < 2 ^ (3 * k)) : (digs n).length ≤ k + 1 := by
  by_cases h0 : n = 0
  · subst h0; have : (digs 0).length = 0 := rfl; omega
  · have hl := digs_low h0
    rcases Nat.lt_or_ge k ((digs n).length - 1) with h1 | h1
    · exfalso
      have h2 : 10 ^ (k + 1) ≤ 10 ^ ((digs n).length - 1) := Nat.pow_le_pow_right (by decide) h1
      have h3 : 2 ^ (3 * k) ≤ 10 ^ k := by
        rw [Nat.pow_mul]
        exact Nat.pow_le_pow_left (by decide) k
      have h4 : 10 ^ k ≤ 10 ^ (k + 1) := Nat.pow_le_pow_right (by decide) (by omega)
      omega
    · omega
theorem text_short {a : List Nat} (hs : Sm a) (hl : a.length ≤ 4000) : (textL (val a)).length ≤ 65536 := by
  by_cases h0 : val a = 0
  · rw [h0]; decide
  · rw [text_len_digs h0]
    have h1 := val_lt hs
    obtain ⟨k, hk⟩ : ∃ k : Nat, k = 43000 := ⟨_, rfl⟩
    have h2 : 4294967296 ^ a.length ≤ 2 ^ (3 * k) := by
      rw [show 4294967296 = 2 ^ 32 from rfl, ← Nat.pow_mul]
      exact Nat.pow_le_pow_right (by decide) (by omega)
    have := digs_three (Nat.lt_of_lt_of_le h1 h2)
    omega
theorem mem_nth {l : List Nat} {P : Nat → Prop} (h : ∀ x ∈ l, P x) (j : Nat) (hj : j < l.length) : P (nth l j) := by
  rw [nth_lt _ hj]; exact h _ (List.getElem_mem hj)
theorem nth_mem {l : List Nat} {P : Nat → Prop} (h : ∀ j, j < l.length → P (nth l j)) : ∀ x ∈ l, P x := by
  intro x hx
  obtain ⟨i, hi, rfl⟩ := List.mem_iff_getElem.1 hx
  have := h i hi
  rwa [nth_lt _ hi] at this
theorem parse_text {a : List Nat} (hs : Sm a) (hc : chk a = 0) (hl : a.length ≤ 4000) : parseL (textL (val a)) = (a, 0, 0) := by
  have hp := text_pos (val a)
  rw [parseL_ok (text_short hs hl) (by intro e; rw [e] at hp; simp at hp) (mem_nth (dgt_text _)), dv_text]
  have : limbs (val a) = a := limbs_of hs (chk_zero hc).2
  rw [this]
theorem text_of {l : List Nat} (hd : ∀ x ∈ l, Dgt x) (hn : 0 < l.length) (h : nth l 0 ≠ 48 ∨ l.length = 1) : textL (dv l) = l := by
  have e : ((l.reverse.map (· - 48)).map (48 + ·)).reverse = l := by
    rw [List.map_map, ← List.map_reverse, List.reverse_reverse]
    have : ∀ x ∈ l, ((48 + ·) ∘ (· - 48)) x = id x := by
      intro x hx
      have := (hd x hx).1
      simp; omega
    rw [List.map_congr_left this, List.map_id]
  have hds : Dg (l.reverse.map (· - 48)) := by
    intro x hx
    simp only [List.mem_map, List.mem_reverse] at hx
    obtain ⟨y, hy, rfl⟩ := hx
    have := hd y hy
    omega
  have hv : dv l = dval (l.reverse.map (· - 48)) := by rw [← dv_rev, e]
  have hlen : (l.reverse.map (· - 48)).length = l.length := by simp
  by_cases h0 : dv l = 0
  · rw [h0, textL_zero]
    rcases l with _ | ⟨x, r⟩
    · simp at hn
    · have hx := hd x List.mem_cons_self
      have e0 : nth (x :: r) 0 = x := by simp [nth]
      rw [e0] at h
      rw [dv_cons] at h0
      have hpos : 0 < 10 ^ r.length := Nat.pow_pos (by decide)
      rcases h with h | h
      · exfalso
        have : 1 * 10 ^ r.length ≤ (x - 48) * 10 ^ r.length := Nat.mul_le_mul_right _ (by omega)
        omega
      · have hr : r = [] := List.eq_nil_of_length_eq_zero (by simpa using h)
        subst hr
        simp [dv] at h0
        have : x = 48 := by omega
        rw [this]
  · have hcan : 10 ^ (l.length - 1) ≤ dv l := by
      rcases l with _ | ⟨x, r⟩
      · simp at hn
      · have hx := hd x List.mem_cons_self
        have e0 : nth (x :: r) 0 = x := by simp [nth]
        rw [e0] at h
        rcases h with h | h
        · rw [dv_cons]
          have : 1 * 10 ^ r.length ≤ (x - 48) * 10 ^ r.length := Nat.mul_le_mul_right _ (by omega)
          simp only [List.length_cons, Nat.add_sub_cancel]
          omega
        · rw [h]; show 1 ≤ _; omega
    rw [textL_pos h0, hv, digs_of hds (.inr (by rw [hlen, ← hv]; exact hcan)), e]
theorem dv_drop0 {l : List Nat} {i : Nat} (hi : i ≤ l.length) (hz : ∀ j, j < i → nth l j = 48) : dv (l.drop i) = dv l := by
  induction i with
  | zero => rfl
  | succ i ih =>
    have h1 := ih (by omega) (fun j hj => hz j (by omega))
    rw [← h1]
    have e : l.drop i = nth l i :: l.drop (i + 1) := by
      rw [nth_lt _ (by omega)]; exact List.drop_eq_getElem_cons (by omega)
    rw [e, dv_cons, hz i (by omega)]
    simp
theorem dv_limbs {l : List Nat} (hd : ∀ x ∈ l, Dgt x) (hl : l.length ≤ 65536) : (limbs (dv l)).length ≤ 16384 := by
  rw [length_limbs_le]
  refine Nat.lt_of_lt_of_le (dv_lt l hd) ?_
  have h1 : 10 ^ l.length ≤ 16 ^ l.length := Nat.pow_le_pow_left (by decide) _
  have h2 : 16 ^ l.length = 2 ^ (4 * l.length) := by rw [Nat.pow_mul]
  obtain ⟨k, hk⟩ : ∃ k : Nat, k = 16384 := ⟨_, rfl⟩
  rw [← hk]
  have h3 : (4294967296 : Nat) ^ k = 2 ^ (32 * k) := by rw [Nat.pow_mul]
  rw [h3]
  rw [h2] at h1
  exact Nat.le_trans h1 (Nat.pow_le_pow_right (by decide) (by omega))
/-- What is not read has no limbs, and its place lies in the text. -/
theorem parse_fault (l : List Nat) : (parseL l).2.2 = 0 ∨ (parseL l).2.2 ≠ 0 ∧ (parseL l).1 = [] ∧ 0 ≤ (parseL l).2.1 ∧ (parseL l).2.1 ≤ (l.length : Int) := by
  unfold parseL
  split
  · exact .inr ⟨by simp, rfl, by simp, by simp⟩
  · split
    · rename_i h1 h2
      exact .inr ⟨by simp, rfl, Int.natCast_nonneg _, Int.ofNat_le.2 (Nat.le_of_lt h2)⟩
    · split
      · exact .inr ⟨by simp, rfl, by simp, by simp⟩
      · exact .inl rfl
theorem parse_good {l : List Nat} (h : (parseL l).2.2 = 0) : l.length ≤ 65536 ∧ 0 < l.length ∧ (∀ x ∈ l, Dgt x) ∧ parseL l = (limbs (dv l), 0, 0) := by
  unfold parseL at h
  split at h
  · simp at h
  · rename_i h1
    split at h
    · simp at h
    · rename_i h2
      split at h
      · simp at h
      · rename_i h3
        have hd : ∀ x ∈ l, Dgt x := by
          intro x hx
          rcases Classical.em (Dgt x) with hp | hp
          · exact hp
          · exact absurd (List.findIdx_lt_length_of_exists ⟨x, hx, by simp only [Bool.not_eq_true', decide_eq_false_iff_not]; exact hp⟩) h2
        refine ⟨by omega, List.length_pos_iff.2 h3, hd, parseL_ok (by omega) h3 (mem_nth hd)⟩
end Go.Proofs.Ytkepjhgafpbecaa
