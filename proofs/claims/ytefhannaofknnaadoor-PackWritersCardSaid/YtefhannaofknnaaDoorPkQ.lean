/- Plain: what is packed is unpacked as it was; cut anywhere it ends too early. No program here. -/
import Derived.Test.YtefhannaofknnaaDoorPkZG
namespace Go.Proofs.YtefhannaofknnaaDoor
open Go.RowKit
set_option linter.unusedVariables false
set_option linter.unusedSimpArgs false
set_option maxHeartbeats 4000000
set_option maxRecDepth 100000

theorem chkF_of {E F : Nat} (hE1 : 2 ≤ E) (hE2 : E ≤ 11) (hF1 : 1 ≤ F) (hF2 : F ≤ 52) : chkF (E : Int) (F : Int) = 0 := by unfold chkF; rw [if_neg (by omega)]
theorem nth_tk {l : List Nat} {n i : Nat} (h : i < n) : nth (l.take n) i = nth l i := by
  rcases Nat.lt_or_ge i l.length with h1 | h1
  · rw [nth_lt _ (by rw [List.length_take]; omega), nth_lt _ h1, List.getElem_take]
  · rw [nth_ge _ (by rw [List.length_take]; omega), nth_ge _ h1]
/-- The pieces of a row, from a float before and a window on. -/
def pcs (W : Nat) : Nat → Nat × Nat → List Nat → List Nat
  | _, _, [] => []
  | b, w, v :: l => (pieceS W (b ^^^ v) w).1 ++ pcs W v (pieceS W (b ^^^ v) w).2 l
theorem fold_pcs (W : Nat) : ∀ (l : List Nat) (s : Wst), (l.foldl (Wst.step W) s).bs = s.bs ++ pcs W s.before s.w l
  | [], s => by simp [pcs]
  | v :: l, s => by
    rw [List.foldl_cons, fold_pcs W l]
    simp [Wst.step, pcs]
theorem wst_pcs (W : Nat) (l : List Nat) : (wst W l).bs = pcs W 0 (0, 0) l := by
  unfold wst; rw [fold_pcs]; simp
theorem takeW_drop (B : List Nat) (a k c : Nat) : takeW B (a + k) c = wv (((B.drop a).drop k).take c) := by
  unfold takeW; rw [List.drop_drop]
theorem take_app (x y : List Nat) (c : Nat) (h : x.length = c) : (x ++ y).take c = x := by
  rw [List.take_append_of_le_length (by omega), List.take_of_length_le (by omega)]
theorem drop_app (x y : List Nat) (c : Nat) (h : x.length = c) : (x ++ y).drop c = y := by subst h; exact List.drop_left
theorem wv_nbs (n c : Nat) (y : List Nat) (h : n < 2 ^ c) : wv ((nb n c ++ y).take c) = n := by
  rw [take_app _ _ _ (nb_length _ _), wv_nb, Nat.mod_eq_of_lt h]
/-- The three kinds of a piece. -/
theorem piece_kinds {W x : Nat} {w : Nat × Nat} (hW : W ≤ 64) (hx : x < 2 ^ W) (hw : Win W w) :
    (x = 0 ∧ pieceS W x w = ([0], w)) ∨
    (∃ y, x ≠ 0 ∧ y ≠ 0 ∧ 0 < w.2 ∧ w.1 + w.2 ≤ W ∧ y < 2 ^ w.2 ∧ x = y * 2 ^ (W - w.1 - w.2) ∧ pieceS W x w = ([1, 0] ++ nb y w.2, w)) ∨
    (∃ y L S, x ≠ 0 ∧ y ≠ 0 ∧ L + (S + 1) ≤ W ∧ y < 2 ^ (S + 1) ∧ y % 2 = 1 ∧ y / 2 ^ S % 2 = 1 ∧ x = y * 2 ^ (W - L - (S + 1)) ∧ ¬ holdsS W w x ∧ pieceS W x w = ([1, 1] ++ (nb L 6 ++ nb S 6 ++ nb y (S + 1)), (L, S + 1))) := by
  have hx64 : x < 18446744073709551616 := Nat.lt_of_lt_of_le hx (Nat.pow_le_pow_right (n := 2) (j := 64) (by decide) hW)
  by_cases h0 : x = 0
  · exact .inl ⟨h0, by unfold pieceS; rw [if_pos h0]⟩
  by_cases hh : holdsS W w x
  · refine .inr (.inl ⟨x / 2 ^ (W - w.1 - w.2), h0, ?_, hh.1, ?_, ?_, ?_, by unfold pieceS; rw [if_neg h0, if_pos hh]⟩)
    · intro h
      have := Nat.div_add_mod x (2 ^ (W - w.1 - w.2))
      rw [h, hh.2.1] at this
      simp at this; exact h0 this.symm
    · rcases hw with h | h
      · rw [h] at hh; exact absurd hh.1 (by simp)
      · exact h.2
    · have hle : w.1 + w.2 ≤ W := by
        rcases hw with h | h
        · rw [h] at hh; exact absurd hh.1 (by simp)
        · exact h.2
      rw [Nat.div_lt_iff_lt_mul (Nat.two_pow_pos _), ← Nat.pow_add, show w.2 + (W - w.1 - w.2) = W - w.1 by omega]
      exact hh.2.2
    · have := Nat.div_add_mod x (2 ^ (W - w.1 - w.2))
      rw [hh.2.1, Nat.mul_comm] at this
      omega
  · obtain ⟨h1, h2, h3, h4⟩ := top_bit h0 hx64
    obtain ⟨h5, h5a, h5b⟩ := low_bit h0 hx64
    have h6 := (libBit_le x W hW hx64).2 hx
    refine .inr (.inr ⟨x / 2 ^ Lib.ctz 64 x, W - Lib.bitLen x, Lib.bitLen x - Lib.ctz 64 x - 1, h0, ?_, ?_, ?_, h5b, ?_, ?_, hh, ?_⟩)
    · intro h; rw [h] at h5b; simp at h5b
    · omega
    · rw [Nat.div_lt_iff_lt_mul (Nat.two_pow_pos _), ← Nat.pow_add, show Lib.bitLen x - Lib.ctz 64 x - 1 + 1 + Lib.ctz 64 x = Lib.bitLen x by omega]
      exact h4
    · rw [Nat.div_div_eq_div_mul, ← Nat.pow_add, show Lib.ctz 64 x + (Lib.bitLen x - Lib.ctz 64 x - 1) = Lib.bitLen x - 1 by omega]
      have : x / 2 ^ (Lib.bitLen x - 1) = 1 := by
        refine Nat.div_eq_of_lt_le (by omega) ?_
        have e : 2 ^ Lib.bitLen x = 2 ^ (Lib.bitLen x - 1) * 2 := by rw [← Nat.pow_succ, show (Lib.bitLen x - 1).succ = Lib.bitLen x by omega]
        omega
      rw [this]
    · have := Nat.div_add_mod x (2 ^ Lib.ctz 64 x)
      rw [h5a, Nat.mul_comm] at this
      rw [show W - (W - Lib.bitLen x) - (Lib.bitLen x - Lib.ctz 64 x - 1 + 1) = Lib.ctz 64 x by omega]
      omega
    · unfold pieceS
      rw [if_neg h0, if_neg hh, show Lib.bitLen x - Lib.ctz 64 x - 1 + 1 = Lib.bitLen x - Lib.ctz 64 x by omega]
/-- A piece is read as it was written. -/
theorem pieceU_piece {W x : Nat} {B : List Nat} {u : Ust} {T : List Nat} (hW : W ≤ 64) (hx : x < 2 ^ W) (hw : Win W u.w) (hB : B.drop u.at_ = (pieceS W x u.w).1 ++ T) :
    pieceU W B u = some (some ⟨u.at_ + (pieceS W x u.w).1.length, (pieceS W x u.w).2, u.before ^^^ x⟩) := by
  obtain ⟨a, ⟨L0, S0⟩, bef⟩ := u
  simp only at hw hB ⊢
  have hlen : B.length - a = (pieceS W x (L0, S0)).1.length + T.length := by rw [← List.length_append, ← hB, List.length_drop]
  have tk := takeW_drop B a
  have t0 : ∀ c, takeW B a c = wv ((B.drop a).take c) := fun c => rfl
  rcases piece_kinds hW hx hw with ⟨rfl, e⟩ | ⟨y, h0, hy, hs, hle, hlt, hxy, e⟩ | ⟨y, L, S, h0, hy, hle, hlt, hod, htop, hxy, hh, e⟩
  · rw [e] at hB hlen ⊢
    unfold pieceU
    simp only at hlen ⊢
    have h1 : takeW B a 1 = 0 := by rw [t0, hB]; rfl
    rw [if_neg (by simp at hlen; omega), if_pos h1]
    simp
  · rw [e] at hB hlen ⊢
    simp only at hs hle hlt hxy hlen hB
    have h1 : takeW B a 1 = 1 := by rw [t0, hB]; rfl
    have h2 : takeW B (a + 1) 1 = 0 := by rw [tk, hB]; rfl
    have h3 : takeW B (a + 2) S0 = y := by
      rw [tk, hB]
      show wv ((nb y S0 ++ T).take S0) = y
      exact wv_nbs _ _ _ hlt
    simp only [List.length_append, nb_length, List.length_cons, List.length_nil] at hlen
    unfold pieceU
    simp only
    rw [if_neg (by omega), if_neg (by omega), if_neg (by omega), if_neg (by omega), if_neg (by omega), if_neg (by omega), h3, if_neg hy, ← hxy]
    simp
    omega
  · rw [e] at hB hlen ⊢
    have hL6 : L < 2 ^ 6 := by omega
    have hS6 : S < 2 ^ 6 := by omega
    have h1 : takeW B a 1 = 1 := by rw [t0, hB]; rfl
    have h2 : takeW B (a + 1) 1 = 1 := by rw [tk, hB]; rfl
    have h3 : takeW B (a + 2) 6 = L := by
      rw [tk, hB]
      show wv (((nb L 6 ++ nb S 6 ++ nb y (S + 1)) ++ T).take 6) = L
      rw [List.append_assoc, List.append_assoc]
      exact wv_nbs _ _ _ hL6
    have h4 : takeW B (a + 8) 6 = S := by
      rw [tk, hB]
      have : (([1, 1] ++ (nb L 6 ++ nb S 6 ++ nb y (S + 1))) ++ T).drop 8 = nb S 6 ++ (nb y (S + 1) ++ T) := by
        rw [show (8 : Nat) = ([1, 1] ++ nb L 6).length by simp]
        rw [show (([1, 1] ++ (nb L 6 ++ nb S 6 ++ nb y (S + 1))) ++ T) = ([1, 1] ++ nb L 6) ++ (nb S 6 ++ (nb y (S + 1) ++ T)) by simp only [List.append_assoc]]
        rw [List.drop_left]
      rw [this]
      exact wv_nbs _ _ _ hS6
    have h5 : takeW B (a + 14) (S + 1) = y := by
      rw [tk, hB]
      have : (([1, 1] ++ (nb L 6 ++ nb S 6 ++ nb y (S + 1))) ++ T).drop 14 = nb y (S + 1) ++ T := by
        rw [show (14 : Nat) = ([1, 1] ++ nb L 6 ++ nb S 6).length by simp]
        rw [show (([1, 1] ++ (nb L 6 ++ nb S 6 ++ nb y (S + 1))) ++ T) = ([1, 1] ++ nb L 6 ++ nb S 6) ++ (nb y (S + 1) ++ T) by simp only [List.append_assoc]]
        rw [List.drop_left]
      rw [this]
      exact wv_nbs _ _ _ hlt
    simp only [List.length_append, nb_length, List.length_cons, List.length_nil] at hlen
    unfold pieceU
    simp only
    rw [h3, h4, h5, if_neg (by omega), if_neg (by omega), if_neg (by omega), if_pos h2, if_neg (by omega), if_neg (by omega), if_neg (by omega), ← hxy, if_neg]
    · simp
      omega
    · rintro (h | h | h)
      · exact hy h
      · exact h ⟨hod, htop⟩
      · exact hh h
/-- A piece that is cut ends too early. -/
theorem pieceU_cut {W x : Nat} {B : List Nat} {u : Ust} {T : List Nat} (hW : W ≤ 64) (hx : x < 2 ^ W) (hw : Win W u.w) (hB : (B.drop u.at_) ++ T = (pieceS W x u.w).1) (hT : 0 < T.length) :
    pieceU W B u = none := by
  obtain ⟨a, ⟨L0, S0⟩, bef⟩ := u
  simp only at hw hB ⊢
  have hlen : B.length - a + T.length = (pieceS W x (L0, S0)).1.length := by rw [← hB, List.length_append, List.length_drop]
  have tk := takeW_drop B a
  have t0 : ∀ c, takeW B a c = wv ((B.drop a).take c) := fun c => rfl
  have ht : ∀ c, c ≤ B.length - a → (B.drop a).take c = (pieceS W x (L0, S0)).1.take c := fun c hc => by
    rw [← hB, List.take_append_of_le_length (by simpa using hc)]
  have hd : ∀ k c, k + c ≤ B.length - a → ((B.drop a).drop k).take c = ((pieceS W x (L0, S0)).1.drop k).take c := fun k c hc => by
    rw [← hB, List.drop_append_of_le_length (by simp; omega), List.take_append_of_le_length (by simp; omega)]
  unfold pieceU
  simp only
  by_cases r0 : B.length - a < 1
  · rw [if_pos r0]
  rw [if_neg r0]
  rcases piece_kinds hW hx hw with ⟨rfl, e⟩ | ⟨y, h0, hy, hs, hle, hlt, hxy, e⟩ | ⟨y, L, S, h0, hy, hle, hlt, hod, htop, hxy, hh, e⟩
  · rw [e] at hlen
    simp at hlen
    omega
  · rw [e] at hlen ht hd
    simp only at hs hle hlt hxy hlen ht hd
    simp only [List.length_append, nb_length, List.length_cons, List.length_nil] at hlen
    have h1 : takeW B a 1 = 1 := by rw [t0, ht 1 (by omega)]; rfl
    rw [if_neg (by omega)]
    by_cases r1 : B.length - a < 2
    · rw [if_pos r1]
    have h2 : takeW B (a + 1) 1 = 0 := by rw [tk, hd 1 1 (by omega)]; rfl
    rw [if_neg r1, if_neg (by omega), if_pos (by omega)]
  · rw [e] at hlen ht hd
    simp only at hlen ht hd
    simp only [List.length_append, nb_length, List.length_cons, List.length_nil] at hlen
    have hS6 : S < 2 ^ 6 := by omega
    have h1 : takeW B a 1 = 1 := by rw [t0, ht 1 (by omega)]; rfl
    rw [if_neg (by omega)]
    by_cases r1 : B.length - a < 2
    · rw [if_pos r1]
    have h2 : takeW B (a + 1) 1 = 1 := by rw [tk, hd 1 1 (by omega)]; rfl
    rw [if_neg r1, if_pos h2]
    by_cases r2 : B.length - a < 14
    · rw [if_pos r2]
    have h4 : takeW B (a + 8) 6 = S := by
      rw [tk, hd 8 6 (by omega)]
      have : (([1, 1] ++ (nb L 6 ++ nb S 6 ++ nb y (S + 1)))).drop 8 = nb S 6 ++ nb y (S + 1) := by
        rw [show (8 : Nat) = ([1, 1] ++ nb L 6).length by simp]
        rw [show (([1, 1] ++ (nb L 6 ++ nb S 6 ++ nb y (S + 1)))) = ([1, 1] ++ nb L 6) ++ (nb S 6 ++ nb y (S + 1)) by simp only [List.append_assoc]]
        rw [List.drop_left]
      rw [this]
      exact wv_nbs _ _ _ hS6
    rw [if_neg r2, h4, if_pos (by omega)]
/-- A row's pieces are read as it. -/
theorem unF_pcs {W : Nat} (hW : W ≤ 64) {B : List Nat} : ∀ (l : List Nat) (u : Ust) (out : List Nat) (T : List Nat), (∀ v ∈ l, v < 2 ^ W) → Win W u.w → u.before < 2 ^ W → B.drop u.at_ = pcs W u.before u.w l ++ T →
    ∃ u', unF W B l.length u out = some (.inr (u', out ++ l)) ∧ u'.at_ = u.at_ + (pcs W u.before u.w l).length
  | [], u, out, T, _, _, _, _ => ⟨u, by simp [unF, pcs]⟩
  | v :: l, u, out, T, hl, hw, hb, hB => by
    have hv := hl v List.mem_cons_self
    have hx := xor_lt hb hv
    rw [pcs, List.append_assoc] at hB
    have h1 := pieceU_piece hW hx hw hB
    have hv2 : u.before ^^^ (u.before ^^^ v) = v := by rw [← Nat.xor_assoc, Nat.xor_self, Nat.zero_xor]
    rw [hv2] at h1
    obtain ⟨u', h2, h3⟩ := unF_pcs hW l ⟨u.at_ + (pieceS W (u.before ^^^ v) u.w).1.length, (pieceS W (u.before ^^^ v) u.w).2, v⟩ (out ++ [v]) T (fun y hy => hl y (List.mem_cons_of_mem _ hy)) (win_piece hW hx hw) hv (by
      show B.drop (u.at_ + _) = pcs W v _ l ++ T
      rw [← List.drop_drop, hB, List.drop_left])
    refine ⟨u', ?_, ?_⟩
    · rw [List.length_cons, unF, h1]
      simp only
      rw [h2]
      simp
    · rw [h3, pcs, List.length_append]
      simp only
      omega
/-- Cut anywhere they end too early. -/
theorem unF_cut {W : Nat} (hW : W ≤ 64) {B : List Nat} : ∀ (l : List Nat) (u : Ust) (out : List Nat) (T : List Nat), (∀ v ∈ l, v < 2 ^ W) → Win W u.w → u.before < 2 ^ W → B.drop u.at_ ++ T = pcs W u.before u.w l → 0 < T.length → u.at_ ≤ B.length →
    unF W B l.length u out = none
  | [], u, out, T, _, _, _, hB, hT, _ => by
    have := congrArg List.length hB
    rw [List.length_append, pcs, List.length_nil] at this
    omega
  | v :: l, u, out, T, hl, hw, hb, hB, hT, hat => by
    have hv := hl v List.mem_cons_self
    have hx := xor_lt hb hv
    rw [pcs] at hB
    rw [List.length_cons, unF]
    have hl2 := congrArg List.length hB
    rw [List.length_append, List.length_append, List.length_drop] at hl2
    by_cases hc : B.length - u.at_ < (pieceS W (u.before ^^^ v) u.w).1.length
    · have e := congrArg (List.take (pieceS W (u.before ^^^ v) u.w).1.length) hB
      rw [List.take_left, List.take_append, List.take_of_length_le (by simp; omega)] at e
      rw [pieceU_cut hW hx hw e (by rw [List.length_take, List.length_drop]; omega)]
    · have hdrop : B.drop u.at_ = (pieceS W (u.before ^^^ v) u.w).1 ++ (B.drop u.at_).drop (pieceS W (u.before ^^^ v) u.w).1.length := by
        have e := congrArg (List.take (pieceS W (u.before ^^^ v) u.w).1.length) hB
        rw [List.take_left, List.take_append_of_le_length (by simp; omega)] at e
        conv => lhs; rw [← List.take_append_drop (pieceS W (u.before ^^^ v) u.w).1.length (B.drop u.at_)]
        rw [e]
      have h1 := pieceU_piece hW hx hw hdrop
      have hv2 : u.before ^^^ (u.before ^^^ v) = v := by rw [← Nat.xor_assoc, Nat.xor_self, Nat.zero_xor]
      rw [hv2] at h1
      rw [h1]
      refine unF_cut hW l ⟨u.at_ + (pieceS W (u.before ^^^ v) u.w).1.length, (pieceS W (u.before ^^^ v) u.w).2, v⟩ (out ++ [v]) T (fun y hy => hl y (List.mem_cons_of_mem _ hy)) (win_piece hW hx hw) hv ?_ hT (by show u.at_ + _ ≤ _; omega)
      show B.drop (u.at_ + _) ++ T = pcs W v _ l
      have e := congrArg (List.drop (pieceS W (u.before ^^^ v) u.w).1.length) hB
      rw [List.drop_left, List.drop_append_of_le_length (by simp; omega), List.drop_drop] at e
      exact e
theorem bo_by8 {bs : List Nat} (h : Bs bs) : bo (by8 bs) = bs ++ List.replicate (8 * ((bs.length + 7) / 8) - bs.length) 0 := by
  refine ext_nth (by simp; omega) fun i hi => ?_
  simp only [bo_length, by8_length] at hi
  rw [nth_bo _ _ (by simpa using hi)]
  by_cases hlt : i < bs.length
  · rw [bt_by8 h i hlt, nth_append_lo _ _ _ hlt]
  · have e : nth (bs ++ List.replicate (8 * ((bs.length + 7) / 8) - bs.length) 0) i = 0 := by
      rw [nth_append_hi _ _ _ (by omega), nth_lt _ (by simp; omega)]; simp
    rw [e]
    unfold bt
    rw [nth_by8 _ _ (by omega)]
    have hq := Nat.div_add_mod i 8
    have hr := Nat.mod_lt i (show 8 > 0 by decide)
    generalize i / 8 = q at *
    generalize i % 8 = r at *
    have h0 := h.nth (8 * q); have h1 := h.nth (8 * q + 1); have h2 := h.nth (8 * q + 2); have h3 := h.nth (8 * q + 3)
    have h4 := h.nth (8 * q + 4); have h5 := h.nth (8 * q + 5); have h6 := h.nth (8 * q + 6); have h7 := h.nth (8 * q + 7)
    have z : nth bs (8 * q + r) = 0 := nth_ge _ (by omega)
    unfold byteAt
    rcases (show r = 0 ∨ r = 1 ∨ r = 2 ∨ r = 3 ∨ r = 4 ∨ r = 5 ∨ r = 6 ∨ r = 7 by omega) with rfl | rfl | rfl | rfl | rfl | rfl | rfl | rfl <;> simp at z ⊢ <;> omega
theorem wv_zeros (n : Nat) : wv (List.replicate n 0) = 0 := by
  induction n with
  | zero => rfl
  | succ n ih => rw [List.replicate_succ, wv_cons, ih]; simp
theorem pack_len {W : Nat} (hW : W ≤ 64) {l : List Nat} (hl : ∀ v ∈ l, v < 2 ^ W) : 17 + l.length ≤ (packB W l).length ∧ (packB W l).length ≤ 17 + l.length * (14 + W) := by
  obtain ⟨_, _, h1, h2⟩ := wst_ok hW l hl
  unfold packB
  rw [List.length_append, nb_length]
  omega
theorem bs_pack (W : Nat) (l : List Nat) : Bs (packB W l) := (bs_nb _ _).append (bs_wst _ _)
/-- What begins with a row's bits is read as it, if what is behind is nought and short. -/
theorem unpS_pack {E F : Nat} (hE1 : 2 ≤ E) (hE2 : E ≤ 11) (hF1 : 1 ≤ F) (hF2 : F ≤ 52) {l : List Nat} (hl : ∀ v ∈ l, v < 2 ^ (1 + E + F)) (hlen : l.length ≤ 65536) {s T : List Nat} (hs : s.length ≤ 1048576) (hB : bo s = packB (1 + E + F) l ++ T) :
    unpS (E : Int) (F : Int) s = if 7 < T.length ∨ wv T ≠ 0 then ([], (((packB (1 + E + F) l).length / 8 : Nat) : Int), 270) else (l, 0, 0) := by
  have hc : chkF (E : Int) (F : Int) = 0 := chkF_of hE1 hE2 hF1 hF2
  have hW : 1 + E + F ≤ 64 := by omega
  have hpl := pack_len hW hl
  have hbl : 8 * s.length = (packB (1 + E + F) l).length + T.length := by rw [← bo_length, hB, List.length_append]
  have ht : takeW (bo s) 0 17 = l.length := by
    rw [hB]
    show wv ((packB (1 + E + F) l ++ T).take 17) = l.length
    unfold packB
    rw [List.append_assoc]
    exact wv_nbs _ _ _ (by omega)
  have hd : (bo s).drop 17 = pcs (1 + E + F) 0 (0, 0) l ++ T := by
    rw [hB]; unfold packB
    rw [List.append_assoc, drop_app _ _ _ (nb_length _ _), wst_pcs]
  obtain ⟨u', h1, h2⟩ := unF_pcs hW (B := bo s) l ⟨17, (0, 0), 0⟩ [] T hl (.inl rfl) (Nat.two_pow_pos _) hd
  have hat : u'.at_ = (packB (1 + E + F) l).length := by rw [h2]; unfold packB; rw [List.length_append, nb_length, wst_pcs]
  have hTk : takeW (bo s) u'.at_ (8 * s.length - u'.at_) = wv T := by
    unfold takeW
    rw [hat, hB, List.drop_left, List.take_of_length_le (by omega)]
  have hTl : 8 * s.length - u'.at_ = T.length := by omega
  unfold unpS
  rw [if_neg (by simpa using hc), if_neg (by omega), if_neg (by omega), ht, if_neg (by omega), Int.toNat_natCast, Int.toNat_natCast, h1]
  simp only
  rw [hTk, hTl, hat]
  simp
/-- Every bit comes back. -/
theorem unp_back {E F : Nat} (hE1 : 2 ≤ E) (hE2 : E ≤ 11) (hF1 : 1 ≤ F) (hF2 : F ≤ 52) {l : List Nat} (hl : ∀ v ∈ l, v < 2 ^ (1 + E + F)) (hlen : l.length ≤ 65536) :
    unpS (E : Int) (F : Int) (by8 (packB (1 + E + F) l)) = (l, 0, 0) := by
  have hW : 1 + E + F ≤ 64 := by omega
  have hpl := pack_len hW hl
  have h3 : l.length * (14 + (1 + E + F)) ≤ 65536 * 78 := Nat.mul_le_mul hlen (by omega)
  have e := unpS_pack hE1 hE2 hF1 hF2 hl hlen (s := by8 (packB (1 + E + F) l)) (by rw [by8_length]; omega) (bo_by8 (bs_pack _ _))
  rw [e, if_neg]
  rw [wv_zeros, List.length_replicate]
  omega
/-- With a byte behind it is refused. -/
theorem unp_longer {E F : Nat} (hE1 : 2 ≤ E) (hE2 : E ≤ 11) (hF1 : 1 ≤ F) (hF2 : F ≤ 52) {l : List Nat} (hl : ∀ v ∈ l, v < 2 ^ (1 + E + F)) (hlen : l.length ≤ 65536) :
    unpS (E : Int) (F : Int) (by8 (packB (1 + E + F) l) ++ [0]) = ([], (((packB (1 + E + F) l).length / 8 : Nat) : Int), 270) := by
  have hW : 1 + E + F ≤ 64 := by omega
  have hpl := pack_len hW hl
  have h3 : l.length * (14 + (1 + E + F)) ≤ 65536 * 78 := Nat.mul_le_mul hlen (by omega)
  have e := unpS_pack hE1 hE2 hF1 hF2 hl hlen (s := by8 (packB (1 + E + F) l) ++ [0]) (T := List.replicate (8 * (((packB (1 + E + F) l).length + 7) / 8) - (packB (1 + E + F) l).length) 0 ++ nb 0 8) (by rw [List.length_append, by8_length, List.length_singleton]; omega) (by rw [bo_snoc, bo_by8 (bs_pack _ _), List.append_assoc])
  rw [e, if_pos]
  left
  rw [List.length_append, nb_length]
  omega
theorem bo_take (s : List Nat) (c : Nat) : bo (s.take c) = (bo s).take (8 * c) := by
  refine ext_nth (by rw [bo_length, List.length_take, List.length_take, bo_length]; omega) fun i hi => ?_
  simp only [bo_length, List.length_take] at hi
  rw [nth_bo _ _ (by simpa using hi), nth_tk (by omega), nth_bo _ _ (by omega)]
  unfold bt
  rw [nth_tk (by omega)]
/-- Cut anywhere it is refused. -/
theorem unp_cut {E F : Nat} (hE1 : 2 ≤ E) (hE2 : E ≤ 11) (hF1 : 1 ≤ F) (hF2 : F ≤ 52) {l : List Nat} (hl : ∀ v ∈ l, v < 2 ^ (1 + E + F)) (hlen : l.length ≤ 65536) (c : Nat) (hc8 : c < (by8 (packB (1 + E + F) l)).length) :
    unpS (E : Int) (F : Int) ((by8 (packB (1 + E + F) l)).take c) = ([], (c : Int), 270) := by
  have hc : chkF (E : Int) (F : Int) = 0 := chkF_of hE1 hE2 hF1 hF2
  have hW : 1 + E + F ≤ 64 := by omega
  have hpl := pack_len hW hl
  have h3 : l.length * (14 + (1 + E + F)) ≤ 65536 * 78 := Nat.mul_le_mul hlen (by omega)
  rw [by8_length] at hc8
  have hsl : ((by8 (packB (1 + E + F) l)).take c).length = c := by rw [List.length_take, by8_length]; omega
  have hbo : bo ((by8 (packB (1 + E + F) l)).take c) = (packB (1 + E + F) l).take (8 * c) := by
    rw [bo_take, bo_by8 (bs_pack _ _), List.take_append_of_le_length (by omega)]
  unfold unpS
  rw [if_neg (by simpa using hc), if_neg (by rw [hsl]; omega), hsl]
  by_cases h17 : 8 * c < 17
  · rw [if_pos h17]
  rw [if_neg h17, hbo]
  have ht : takeW ((packB (1 + E + F) l).take (8 * c)) 0 17 = l.length := by
    show wv (((packB (1 + E + F) l).take (8 * c)).take 17) = l.length
    rw [List.take_take, Nat.min_eq_left (by omega)]
    unfold packB
    exact wv_nbs _ _ _ (by omega)
  rw [ht, if_neg (by omega), Int.toNat_natCast, Int.toNat_natCast]
  have hd : ((packB (1 + E + F) l).take (8 * c)).drop 17 ++ (packB (1 + E + F) l).drop (8 * c) = pcs (1 + E + F) 0 (0, 0) l := by
    have e : (packB (1 + E + F) l).drop 17 = pcs (1 + E + F) 0 (0, 0) l := by
      unfold packB
      rw [drop_app _ _ _ (nb_length _ _), wst_pcs]
    rw [← e]
    conv => rhs; rw [← List.take_append_drop (8 * c) (packB (1 + E + F) l)]
    rw [List.drop_append_of_le_length (by rw [List.length_take]; omega)]
  rw [unF_cut hW (B := (packB (1 + E + F) l).take (8 * c)) l ⟨17, (0, 0), 0⟩ [] _ hl (.inl rfl) (Nat.two_pow_pos _) hd (by rw [List.length_drop]; omega) (by show 17 ≤ _; rw [List.length_take]; omega)]
end Go.Proofs.YtefhannaofknnaaDoor
