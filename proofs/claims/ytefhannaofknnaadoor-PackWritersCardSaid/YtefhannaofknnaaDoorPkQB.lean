/- Plain: what is unpacked of any bytes is packed as they. No program here. -/
import Derived.Test.YtefhannaofknnaaDoorPkQ
namespace Go.Proofs.YtefhannaofknnaaDoor
open Go.RowKit
set_option linter.unusedVariables false
set_option linter.unusedSimpArgs false
set_option maxHeartbeats 4000000
set_option maxRecDepth 100000

theorem cutB {B : List Nat} (hB : Bs B) (a c : Nat) (h : c ≤ B.length - a) : B.drop a = nb (takeW B a c) c ++ B.drop (a + c) := by
  have hl : ((B.drop a).take c).length = c := by rw [List.length_take, List.length_drop]; omega
  have e := nb_wv ((hB.drop a).take c)
  rw [hl] at e
  unfold takeW
  rw [e, ← List.drop_drop, List.take_append_drop]
theorem takeW_lt2 {B : List Nat} (hB : Bs B) (a c : Nat) (h : c ≤ B.length - a) : takeW B a c < 2 ^ c := by
  have hl : ((B.drop a).take c).length = c := by rw [List.length_take, List.length_drop]; omega
  have e := wv_lt ((hB.drop a).take c)
  rw [hl] at e
  exact e
theorem nb_one {x : Nat} (h : x < 2) : nb x 1 = [x] := by
  simp only [nb, List.nil_append]
  rw [Nat.mod_eq_of_lt h]
/-- The bits of a number anew: its highest and its lowest. -/
theorem anew_bits {W y L S : Nat} (hW : W ≤ 64) (hle : L + (S + 1) ≤ W) (hlt : y < 2 ^ (S + 1)) (hod : y % 2 = 1) (htop : y / 2 ^ S % 2 = 1) :
    Lib.bitLen (y * 2 ^ (W - L - (S + 1))) = W - L ∧ Lib.ctz 64 (y * 2 ^ (W - L - (S + 1))) = W - L - (S + 1) := by
  obtain ⟨k, hk⟩ : ∃ k, k = W - L - (S + 1) := ⟨_, rfl⟩
  rw [← hk]
  have hWL : W - L = k + (S + 1) := by omega
  rw [hWL]
  have hp := Nat.two_pow_pos k
  have hlt2 : y * 2 ^ k < 2 ^ (k + (S + 1)) := by
    rw [Nat.pow_add, Nat.mul_comm]
    exact Nat.mul_lt_mul_of_pos_left hlt hp
  have h64 : y * 2 ^ k < 18446744073709551616 := Nat.lt_of_lt_of_le hlt2 (Nat.pow_le_pow_right (n := 2) (j := 64) (by decide) (by omega))
  have hS : 2 ^ S ≤ y := by
    rcases Nat.lt_or_ge y (2 ^ S) with h | h
    · rw [Nat.div_eq_of_lt h] at htop; cases htop
    · exact h
  have hx0 : y * 2 ^ k ≠ 0 := by
    have : 0 < y * 2 ^ k := Nat.mul_pos (by omega) hp
    omega
  constructor
  · have h1 := (libBit_le (y * 2 ^ k) (k + (S + 1)) (by omega) h64).2 hlt2
    have h2 : ¬ Lib.bitLen (y * 2 ^ k) ≤ k + S := by
      rw [libBit_le _ _ (by omega) h64, Nat.pow_add, Nat.mul_comm (2 ^ k)]
      have := Nat.mul_le_mul_right (2 ^ k) hS
      omega
    omega
  · obtain ⟨_, h5, h6⟩ := low_bit hx0 h64
    generalize Lib.ctz 64 (y * 2 ^ k) = c at *
    rcases Nat.lt_trichotomy c k with h | h | h
    · exfalso
      have e : y * 2 ^ k = 2 ^ c * (2 * (y * 2 ^ (k - c - 1))) := by
        rw [show k = c + 1 + (k - c - 1) by omega, Nat.pow_add, Nat.pow_add, show c + 1 + (k - c - 1) - c - 1 = k - c - 1 by omega]
        simp only [Nat.pow_one]
        ac_rfl
      rw [e, Nat.mul_div_cancel_left _ (Nat.two_pow_pos c)] at h6
      omega
    · exact h
    · exfalso
      have e : 2 ^ c = 2 ^ k * (2 * 2 ^ (c - k - 1)) := by
        rw [show c = k + (1 + (c - k - 1)) by omega, Nat.pow_add, Nat.pow_add, show k + (1 + (c - k - 1)) - k - 1 = c - k - 1 by omega]
      obtain ⟨q, hq⟩ := Nat.dvd_of_mod_eq_zero h5
      rw [e, Nat.mul_comm y, Nat.mul_assoc] at hq
      have := Nat.eq_of_mul_eq_mul_left hp hq
      rw [Nat.mul_assoc] at this
      omega
/-- What is read as a piece is the piece of what was read. -/
theorem pieceU_inv {W : Nat} {B : List Nat} {u u' : Ust} (hW : W ≤ 64) (hB : Bs B) (hw : Win W u.w) (ha : u.at_ ≤ B.length) (hbf : u.before < 2 ^ W) (h : pieceU W B u = some (some u')) :
    u'.before < 2 ^ W ∧ B.drop u.at_ = (pieceS W (u.before ^^^ u'.before) u.w).1 ++ B.drop u'.at_ ∧ (pieceS W (u.before ^^^ u'.before) u.w).2 = u'.w ∧ u'.at_ ≤ B.length ∧ Win W u'.w := by
  obtain ⟨a, ⟨L0, S0⟩, bef⟩ := u
  simp only at hw ha hbf ⊢
  have hxx : ∀ x, bef ^^^ (bef ^^^ x) = x := fun x => by rw [← Nat.xor_assoc, Nat.xor_self, Nat.zero_xor]
  unfold pieceU at h
  simp only at h
  by_cases c0 : B.length - a < 1
  · rw [if_pos c0] at h; cases h
  rw [if_neg c0] at h
  have hf := takeW_lt2 hB a 1 (by omega)
  by_cases c1 : takeW B a 1 = 0
  · rw [if_pos c1] at h
    cases h
    simp only [Nat.xor_self]
    have hp : pieceS W 0 (L0, S0) = ([0], (L0, S0)) := by unfold pieceS; rw [if_pos rfl]
    rw [hp]
    refine ⟨hbf, ?_, rfl, by omega, hw⟩
    have := cutB hB a 1 (by omega)
    rw [c1, nb_one (by decide)] at this
    exact this
  rw [if_neg c1] at h
  have c1' : takeW B a 1 = 1 := by omega
  by_cases c2 : B.length - a < 2
  · rw [if_pos c2] at h; cases h
  rw [if_neg c2] at h
  have hf2 := takeW_lt2 hB (a + 1) 1 (by omega)
  have e1 := cutB hB a 1 (by omega)
  have e2 := cutB hB (a + 1) 1 (by omega)
  rw [c1', nb_one (by decide)] at e1
  by_cases c3 : takeW B (a + 1) 1 = 1
  · rw [if_pos c3] at h
    rw [c3, nb_one (by decide)] at e2
    by_cases c4 : B.length - a < 14
    · rw [if_pos c4] at h; cases h
    rw [if_neg c4] at h
    have e3 := cutB hB (a + 2) 6 (by omega)
    have e4 := cutB hB (a + 8) 6 (by omega)
    generalize takeW B (a + 2) 6 = L at h e3
    generalize takeW B (a + 8) 6 = S at h e4
    by_cases c5 : B.length - a < 14 + (S + 1)
    · rw [if_pos c5] at h; cases h
    rw [if_neg c5] at h
    have e5 := cutB hB (a + 14) (S + 1) (by omega)
    have hy := takeW_lt2 hB (a + 14) (S + 1) (by omega)
    generalize takeW B (a + 14) (S + 1) = y at h e5 hy
    by_cases c6 : W < L + (S + 1)
    · rw [if_pos c6] at h; cases h
    rw [if_neg c6] at h
    split at h
    · cases h
    · rename_i c7
      simp only [not_or, Decidable.not_not] at c7
      obtain ⟨hy0, ⟨hod, htop⟩, hh⟩ := c7
      cases h
      simp only
      rw [hxx]
      obtain ⟨hb, hc⟩ := anew_bits (L := L) (S := S) hW (by omega) hy hod htop
      have hx : y * 2 ^ (W - L - (S + 1)) < 2 ^ W := by
        have h1 : y * 2 ^ (W - L - (S + 1)) < 2 ^ (S + 1) * 2 ^ (W - L - (S + 1)) := Nat.mul_lt_mul_of_pos_right hy (Nat.two_pow_pos _)
        rw [← Nat.pow_add] at h1
        exact Nat.lt_of_lt_of_le h1 (Nat.pow_le_pow_right (by decide) (by omega))
      have hx0 : y * 2 ^ (W - L - (S + 1)) ≠ 0 := by
        have : 0 < y * 2 ^ (W - L - (S + 1)) := Nat.mul_pos (by omega) (Nat.two_pow_pos _)
        omega
      have hp : pieceS W (y * 2 ^ (W - L - (S + 1))) (L0, S0) = ([1, 1] ++ (nb L 6 ++ nb S 6 ++ nb y (S + 1)), (L, S + 1)) := by
        unfold pieceS
        rw [if_neg hx0, if_neg hh, hb, hc, Nat.mul_div_cancel _ (Nat.two_pow_pos _), show W - (W - L) = L by omega, show W - L - (W - L - (S + 1)) - 1 = S by omega, show W - L - (W - L - (S + 1)) = S + 1 by omega]
      rw [hp]
      refine ⟨Nat.xor_lt_two_pow hbf hx, ?_, rfl, by omega, .inr ⟨by simp, by simp only; omega⟩⟩
      simp only
      rw [e1, e2, show a + 1 + 1 = a + 2 from rfl, e3, show a + 2 + 6 = a + 8 from rfl, e4, show a + 8 + 6 = a + 14 from rfl, e5, show a + 14 + (S + 1) = a + (14 + (S + 1)) by omega]
      simp only [List.append_assoc, List.cons_append, List.nil_append]
  rw [if_neg c3] at h
  have c3' : takeW B (a + 1) 1 = 0 := by omega
  rw [c3', nb_one (by decide)] at e2
  by_cases c4 : B.length - a < 2 + S0
  · rw [if_pos c4] at h; cases h
  rw [if_neg c4] at h
  by_cases c5 : S0 = 0 ∨ W < L0 + S0
  · rw [if_pos c5] at h; cases h
  rw [if_neg c5] at h
  have e5 := cutB hB (a + 2) S0 (by omega)
  have hy := takeW_lt2 hB (a + 2) S0 (by omega)
  generalize takeW B (a + 2) S0 = y at h e5 hy
  by_cases c6 : y = 0
  · rw [if_pos c6] at h; cases h
  rw [if_neg c6] at h
  cases h
  simp only
  rw [hxx]
  have hx : y * 2 ^ (W - L0 - S0) < 2 ^ (W - L0) := by
    have h1 : y * 2 ^ (W - L0 - S0) < 2 ^ S0 * 2 ^ (W - L0 - S0) := Nat.mul_lt_mul_of_pos_right hy (Nat.two_pow_pos _)
    rw [← Nat.pow_add] at h1
    exact Nat.lt_of_lt_of_le h1 (Nat.pow_le_pow_right (by decide) (by omega))
  have hx0 : y * 2 ^ (W - L0 - S0) ≠ 0 := by
    have : 0 < y * 2 ^ (W - L0 - S0) := Nat.mul_pos (by omega) (Nat.two_pow_pos _)
    omega
  have hh : holdsS W (L0, S0) (y * 2 ^ (W - L0 - S0)) := ⟨by simp only; omega, by simp only; exact Nat.mul_mod_left _ _, hx⟩
  have hp : pieceS W (y * 2 ^ (W - L0 - S0)) (L0, S0) = ([1, 0] ++ nb y S0, (L0, S0)) := by
    unfold pieceS
    rw [if_neg hx0, if_pos hh]
    simp only
    rw [Nat.mul_div_cancel _ (Nat.two_pow_pos _)]
  rw [hp]
  refine ⟨Nat.xor_lt_two_pow hbf (Nat.lt_of_lt_of_le hx (Nat.pow_le_pow_right (by decide) (by omega))), ?_, rfl, by omega, hw⟩
  simp only
  rw [e1, e2, show a + 1 + 1 = a + 2 from rfl, e5, show a + 2 + S0 = a + (2 + S0) by omega]
  simp only [List.append_assoc, List.cons_append, List.nil_append]
/-- The floats that are read are those whose pieces the bits are. -/
theorem unF_inv {W : Nat} (hW : W ≤ 64) {B : List Nat} (hB : Bs B) : ∀ (k : Nat) (u : Ust) (out : List Nat), Win W u.w → u.at_ ≤ B.length → u.before < 2 ^ W →
    (∀ a, unF W B k u out = some (.inl a) → a ≤ B.length) ∧
    ∀ u' out', unF W B k u out = some (.inr (u', out')) → ∃ l, out' = out ++ l ∧ l.length = k ∧ (∀ v ∈ l, v < 2 ^ W) ∧ B.drop u.at_ = pcs W u.before u.w l ++ B.drop u'.at_ ∧ u'.at_ ≤ B.length
  | 0, u, out, _, ha, _ => by
    refine ⟨fun a h => by simp [unF] at h, fun u' out' h => ?_⟩
    simp only [unF, Option.some.injEq, Sum.inr.injEq, Prod.mk.injEq] at h
    obtain ⟨rfl, rfl⟩ := h
    exact ⟨[], by simp, rfl, by simp, by simp [pcs], ha⟩
  | k + 1, u, out, hw, ha, hbf => by
    unfold unF
    cases hp : pieceU W B u with
    | none => exact ⟨fun a h => by simp at h, fun u' out' h => by simp at h⟩
    | some r =>
      cases r with
      | none =>
        refine ⟨fun a h => ?_, fun u' out' h => by simp at h⟩
        simp at h; omega
      | some u1 =>
        obtain ⟨i1, i2, i3, i4, i5⟩ := pieceU_inv hW hB hw ha hbf hp
        obtain ⟨r1, r2⟩ := unF_inv hW hB k u1 (out ++ [u1.before]) i5 i4 i1
        refine ⟨fun a h => r1 a h, fun u' out' h => ?_⟩
        obtain ⟨l, rfl, hl, hv, hd, hle⟩ := r2 u' out' h
        refine ⟨u1.before :: l, by simp, by simp [hl], ?_, ?_, hle⟩
        · intro v hv1
          rcases List.mem_cons.1 hv1 with rfl | h1
          · exact i1
          · exact hv v h1
        · rw [pcs, i2, hd, i3, List.append_assoc]
theorem bs_zero {l : List Nat} (h : Bs l) (hz : wv l = 0) : l = List.replicate l.length 0 := by
  refine wv_inj (by simp) h ?_ (by rw [hz, wv_zeros])
  intro x hx
  rw [List.eq_of_mem_replicate hx]; decide
/-- PackForth, plain. -/
theorem unp_forth {e f : Int} {s : List Nat} (hs : Bts s) :
    (unpS e f s).2.2 = 0 ∧ rowErr e f (unpS e f s).1 = 0 ∧ by8 (packB (1 + e.toNat + f.toNat) (unpS e f s).1) = s ∧ (unpS e f s).2.1 = 0 ∨
    (unpS e f s).2.2 ≠ 0 ∧ (unpS e f s).1 = [] ∧ 0 ≤ (unpS e f s).2.1 ∧ (unpS e f s).2.1 ≤ ((s.length : Nat) : Int) := by
  unfold unpS
  by_cases hcn : chkF e f ≠ 0
  · rw [if_pos hcn]; exact .inr ⟨by simp, rfl, by simp, by simp⟩
  rw [if_neg hcn]
  have hc : chkF e f = 0 := by simpa using hcn
  clear hcn
  obtain ⟨E, F, rfl, rfl, hE1, hE2, hF1, hF2⟩ := chk_ok hc
  rw [Int.toNat_natCast, Int.toNat_natCast]
  by_cases c1 : 1048576 < s.length
  · rw [if_pos c1]; exact .inr ⟨by simp, rfl, by simp, by simp⟩
  rw [if_neg c1]
  by_cases c2 : 8 * s.length < 17
  · rw [if_pos c2]; exact .inr ⟨by simp, rfl, by simp, by simp⟩
  rw [if_neg c2]
  by_cases c3 : 65536 < takeW (bo s) 0 17
  · rw [if_pos c3]; exact .inr ⟨by simp, rfl, by simp, by simp⟩
  rw [if_neg c3]
  have hW : 1 + E + F ≤ 64 := by omega
  have hbo := bs_bo s
  have hbl := bo_length s
  obtain ⟨r1, r2⟩ := unF_inv hW hbo (takeW (bo s) 0 17) ⟨17, (0, 0), 0⟩ [] (.inl rfl) (by simp only; omega) (Nat.two_pow_pos _)
  cases hu : unF (1 + E + F) (bo s) (takeW (bo s) 0 17) ⟨17, (0, 0), 0⟩ [] with
  | none => exact .inr ⟨by simp, rfl, by simp, by simp⟩
  | some r =>
    cases r with
    | inl a =>
      have := r1 a hu
      refine .inr ⟨by simp, rfl, by simp; omega, ?_⟩
      simp only
      omega
    | inr q =>
      obtain ⟨u', out'⟩ := q
      obtain ⟨l, hl, hlen, hv, hd, hle⟩ := r2 u' out' hu
      rw [List.nil_append] at hl
      subst hl
      simp only at hd ⊢
      by_cases c4 : 7 < 8 * s.length - u'.at_ ∨ takeW (bo s) u'.at_ (8 * s.length - u'.at_) ≠ 0
      · rw [if_pos c4]
        refine .inr ⟨by simp, rfl, by simp; omega, ?_⟩
        simp only
        omega
      · rw [if_neg c4]
        simp only [not_or, Decidable.not_not] at c4
        refine .inl ⟨rfl, ?_, ?_, rfl⟩
        · unfold rowErr
          rw [if_neg (by simpa using hc), if_neg (show ¬ 65536 < out'.length by omega)]
          simp only [Int.toNat_natCast]
          rw [if_pos hv]
        · have htk : ((bo s).drop u'.at_).take (8 * s.length - u'.at_) = (bo s).drop u'.at_ := List.take_of_length_le (by rw [List.length_drop]; omega)
          have hz := bs_zero (hbo.drop u'.at_) (by have := c4.2; unfold takeW at this; rwa [htk] at this)
          rw [List.length_drop, hbl] at hz
          have hB : bo s = packB (1 + E + F) out' ++ List.replicate (8 * s.length - u'.at_) 0 := by
            have e1 := cutB hbo 0 17 (by omega)
            rw [List.drop_zero] at e1
            unfold packB
            rw [wst_pcs, hlen, List.append_assoc, ← hz, ← hd]
            exact e1
          have hB2 := bo_by8 (bs_pack (1 + E + F) out')
          have hln := congrArg List.length hB
          rw [hbl, List.length_append, List.length_replicate] at hln
          have hr : 8 * (((packB (1 + E + F) out').length + 7) / 8) - (packB (1 + E + F) out').length = 8 * s.length - u'.at_ := by omega
          rw [hr, ← hB] at hB2
          have h8 := congrArg by8 hB2
          rw [by8_bo hs, by8_bo (by8_byte (bs_pack _ _))] at h8
          exact h8
theorem unp_fits {e f : Int} {s : List Nat} (hs : Bts s) (h : (unpS e f s).2.2 = 0) : rowErr e f (unpS e f s).1 = 0 := by
  rcases unp_forth (e := e) (f := f) hs with h1 | h1
  · exact h1.2.1
  · exact absurd h h1.1
end Go.Proofs.YtefhannaofknnaaDoor
