/- Plain: long division of lists of limbs, one digit. No program here. -/
import Derived.Test.YtenekbfnlbipiaaDoorPlain
namespace Go.Proofs.YtenekbfnlbipiaaDoor
set_option linter.unusedVariables false
set_option linter.unusedSimpArgs false

theorem dv_high {vl M P3 g Y2 yl : Nat} (h1 : vl < M) (h2 : P3 < g * Y2) : vl + M * P3 < g * (yl + M * Y2) := by
  have h3 : M * (P3 + 1) ≤ M * (g * Y2) := Nat.mul_le_mul_left _ h2
  have e : g * (yl + M * Y2) = g * yl + M * (g * Y2) := by rw [Nat.mul_add, Nat.mul_left_comm]
  rw [e]
  rw [Nat.mul_add] at h3
  omega
theorem dv_low {vl M P3 g Y2 yl : Nat} (h1 : g * Y2 ≤ P3) (h2 : yl < M) (h3 : g ≤ Y2 + 1) (h0 : 0 < g) : (g - 1) * (yl + M * Y2) ≤ vl + M * P3 := by
  obtain ⟨k, rfl⟩ : ∃ k, g = k + 1 := ⟨g - 1, by omega⟩
  rw [Nat.add_sub_cancel]
  have e : k * (yl + M * Y2) = k * yl + M * (k * Y2) := by rw [Nat.mul_add, Nat.mul_left_comm]
  have h4 : M * ((k + 1) * Y2) ≤ M * P3 := Nat.mul_le_mul_left _ h1
  have h5 : k * yl ≤ Y2 * M := Nat.mul_le_mul (by omega) (by omega)
  rw [Nat.add_mul, Nat.one_mul, Nat.mul_add, Nat.mul_comm M Y2] at h4
  omega
theorem dv_test {g yt r top p2 y2 : Nat} (h : g * yt + r = top) : p2 + 4294967296 * top < g * (y2 + 4294967296 * yt) ↔ r * 4294967296 + p2 < g * y2 := by
  have e : g * (y2 + 4294967296 * yt) = g * y2 + 4294967296 * (g * yt) := by rw [Nat.mul_add, Nat.mul_left_comm]
  rw [e]
  omega
theorem dv_top {vl M p2 top yl y2 yt : Nat} (h2 : yl < M) (h : vl + M * (p2 + 4294967296 * top) < 4294967296 * (yl + M * (y2 + 4294967296 * yt))) : top ≤ y2 + 4294967296 * yt := by
  rcases Nat.lt_or_ge (y2 + 4294967296 * yt) top with hlt | hge
  · exfalso
    have h3 : M * (4294967296 * (y2 + 4294967296 * yt + 1)) ≤ M * (p2 + 4294967296 * top) := Nat.mul_le_mul_left _ (by omega)
    have e1 : M * (4294967296 * (y2 + 4294967296 * yt + 1)) = 4294967296 * (M * (y2 + 4294967296 * yt) + M) := by
      rw [Nat.mul_left_comm, Nat.mul_add, Nat.mul_one]
    rw [e1] at h3
    omega
  · exact hge

/-- What the long division's digit at a place works on. -/
structure DvAt (P Y vl yl M p2 top y2 yt : Nat) : Prop where
  hP : P = vl + M * (p2 + 4294967296 * top)
  hY : Y = yl + M * (y2 + 4294967296 * yt)
  hvl : vl < M
  hyl : yl < M
  hPY : P < 4294967296 * Y
  hyt : 2147483648 ≤ yt
  hyt2 : yt < 4294967296
  hy2 : y2 < 4294967296
  hp2 : p2 < 4294967296

theorem DvAt.topLe {P Y vl yl M p2 top y2 yt : Nat} (D : DvAt P Y vl yl M p2 top y2 yt) : top ≤ y2 + 4294967296 * yt := by
  have h := D.hPY
  rw [D.hP, D.hY] at h
  exact dv_top D.hyl h
theorem DvAt.start {P Y vl yl M p2 top y2 yt : Nat} (D : DvAt P Y vl yl M p2 top y2 yt) : top / yt * yt + top % yt = top ∧ P < (top / yt + 1) * Y ∧ top % yt < 4294967296 ∧ top / yt < 8589934592 := by
  have h0 : 0 < yt := by have := D.hyt; omega
  have hm := Nat.div_add_mod top yt
  have hr := Nat.mod_lt top h0
  have htop := D.topLe
  have hyt := D.hyt
  have hyt2 := D.hyt2
  have hy2 := D.hy2
  refine ⟨by rw [Nat.mul_comm]; exact hm, ?_, by omega, ?_⟩
  · rw [D.hP, D.hY]
    refine dv_high D.hvl ?_
    have e : (top / yt + 1) * (y2 + 4294967296 * yt) = (top / yt + 1) * y2 + 4294967296 * (yt * (top / yt) + yt) := by
      rw [Nat.mul_add, Nat.mul_left_comm, Nat.add_mul (top / yt) 1 yt, Nat.one_mul, Nat.mul_comm (top / yt) yt]
    rw [e]
    have := D.hp2
    omega
  · rw [Nat.div_lt_iff_lt_mul h0]
    have : 8589934592 * 2147483648 ≤ 8589934592 * yt := Nat.mul_le_mul_left _ hyt
    omega
theorem DvAt.more {P Y vl yl M p2 top y2 yt g r : Nat} (D : DvAt P Y vl yl M p2 top y2 yt) (hg : g * yt + r = top) (hb : 4294967296 ≤ g ∨ r * 4294967296 + p2 < g * y2) : P < g * Y ∧ 0 < g := by
  have h1 : P < g * Y := by
    rcases hb with h | h
    · exact Nat.lt_of_lt_of_le D.hPY (Nat.mul_le_mul_right _ h)
    · rw [D.hP, D.hY]
      exact dv_high D.hvl ((dv_test hg).2 h)
  refine ⟨h1, ?_⟩
  rcases Nat.eq_zero_or_pos g with rfl | h
  · rw [Nat.zero_mul] at h1; omega
  · exact h
/-- One guess less. -/
theorem DvAt.less {P Y vl yl M p2 top y2 yt g r : Nat} (D : DvAt P Y vl yl M p2 top y2 yt) (hg : g * yt + r = top) (hb : 4294967296 ≤ g ∨ r * 4294967296 + p2 < g * y2) : (g - 1) * yt + (r + yt) = top ∧ P < (g - 1 + 1) * Y ∧ 0 < g := by
  obtain ⟨h1, h0⟩ := D.more hg hb
  obtain ⟨k, rfl⟩ : ∃ k, g = k + 1 := ⟨g - 1, by omega⟩
  rw [Nat.add_sub_cancel]
  refine ⟨?_, h1, h0⟩
  rw [Nat.add_mul, Nat.one_mul] at hg
  omega
theorem DvAt.big {P Y vl yl M p2 top y2 yt : Nat} (D : DvAt P Y vl yl M p2 top y2 yt) : 4294967296 ≤ y2 + 4294967296 * yt := by have := D.hyt; omega
/-- The guess is at most one too great: the test says so. -/
theorem DvAt.exit {P Y vl yl M p2 top y2 yt g r : Nat} (D : DvAt P Y vl yl M p2 top y2 yt) (hg : g * yt + r = top) (h1 : g < 4294967296) (h2 : ¬ r * 4294967296 + p2 < g * y2) (h0 : 0 < g) : (g - 1) * Y ≤ P := by
  have h3 : g * (y2 + 4294967296 * yt) ≤ p2 + 4294967296 * top := Nat.le_of_not_lt fun h => h2 ((dv_test hg).1 h)
  rw [D.hP, D.hY]
  exact dv_low h3 D.hyl (by have := D.big; omega) h0
/-- .. or what is left says so. -/
theorem DvAt.broke {P Y vl yl M p2 top y2 yt g r : Nat} (D : DvAt P Y vl yl M p2 top y2 yt) (hg : g * yt + r = top) (hr : 4294967296 ≤ r) : g < 4294967296 ∧ (0 < g → (g - 1) * Y ≤ P) := by
  have htop := D.topLe
  have hy2 := D.hy2
  have hyt := D.hyt
  have h1 : g < 4294967296 := by
    rcases Nat.lt_or_ge g 4294967296 with h | h
    · exact h
    · have := Nat.mul_le_mul_right yt h
      omega
  refine ⟨h1, fun h0 => ?_⟩
  have h4 : g * y2 ≤ 4294967295 * 4294967295 := Nat.mul_le_mul (by omega) (by omega)
  exact D.exit hg h1 (by omega) h0

theorem ms_step {x x0 y : List Nat} {g k i c l : Nat} (hk : k + i < x.length) (hx : nth x (k + i) < 4294967296) (hl : l ≤ 1)
    (hv : val x + 4294967296 ^ k * (g * val (y.take i)) = val x0 + 4294967296 ^ (k + i) * (c + l)) :
    val (x.set (k + i) ((nth x (k + i) + 4294967296 - (c + g * nth y i) % 4294967296 - l) % 4294967296)) + 4294967296 ^ k * (g * val (y.take (i + 1))) =
      val x0 + 4294967296 ^ (k + (i + 1)) * ((c + g * nth y i) / 4294967296 + (1 - (nth x (k + i) + 4294967296 - (c + g * nth y i) % 4294967296 - l) / 4294967296)) := by
  obtain ⟨t, ht⟩ : ∃ t, t = (nth x (k + i) + 4294967296 - (c + g * nth y i) % 4294967296 - l) % 4294967296 := ⟨_, rfl⟩
  obtain ⟨l', hl'⟩ : ∃ l', l' = 1 - (nth x (k + i) + 4294967296 - (c + g * nth y i) % 4294967296 - l) / 4294967296 := ⟨_, rfl⟩
  obtain ⟨hi, hhi⟩ : ∃ hi, hi = (c + g * nth y i) / 4294967296 := ⟨_, rfl⟩
  rw [← ht, ← hl', ← hhi, val_take_succ']
  have hs := val_set x (k + i) t hk
  have e : t + (c + g * nth y i) + l = nth x (k + i) + 4294967296 * (hi + l') := by omega
  obtain ⟨M, hM⟩ : ∃ M, M = 4294967296 ^ (k + i) := ⟨_, rfl⟩
  have hM2 : 4294967296 ^ (k + (i + 1)) = 4294967296 * M := by rw [hM, ← Nat.add_assoc, Nat.pow_succ, Nat.mul_comm]
  have hM3 : 4294967296 ^ k * (g * (val (y.take i) + 4294967296 ^ i * nth y i)) = 4294967296 ^ k * (g * val (y.take i)) + M * (g * nth y i) := by
    rw [hM, Nat.pow_add, Nat.mul_add, Nat.mul_add]
    congr 1
    simp only [Nat.mul_assoc, Nat.mul_left_comm]
  rw [hM2, hM3]
  rw [← hM] at hs hv
  have e2 := congrArg (M * ·) e
  simp only [Nat.mul_add] at e2 hv ⊢
  have e3 : 4294967296 * M * hi = M * (4294967296 * hi) := by rw [Nat.mul_comm 4294967296 M, Nat.mul_assoc]
  have e4 : 4294967296 * M * l' = M * (4294967296 * l') := by rw [Nat.mul_comm 4294967296 M, Nat.mul_assoc]
  rw [e3, e4]
  omega
theorem ab_step {x x1 y : List Nat} {k i c : Nat} (hk : k + i < x.length)
    (hv : val x + 4294967296 ^ (k + i) * c = val x1 + 4294967296 ^ k * val (y.take i)) :
    val (x.set (k + i) ((nth x (k + i) + nth y i + c) % 4294967296)) + 4294967296 ^ (k + (i + 1)) * ((nth x (k + i) + nth y i + c) / 4294967296) = val x1 + 4294967296 ^ k * val (y.take (i + 1)) := by
  obtain ⟨t, ht⟩ : ∃ t, t = (nth x (k + i) + nth y i + c) % 4294967296 := ⟨_, rfl⟩
  obtain ⟨c', hc'⟩ : ∃ c', c' = (nth x (k + i) + nth y i + c) / 4294967296 := ⟨_, rfl⟩
  rw [← ht, ← hc', val_take_succ']
  have hs := val_set x (k + i) t hk
  have e : t + 4294967296 * c' = nth x (k + i) + nth y i + c := by omega
  obtain ⟨M, hM⟩ : ∃ M, M = 4294967296 ^ (k + i) := ⟨_, rfl⟩
  have hM2 : 4294967296 ^ (k + (i + 1)) = M * 4294967296 := by rw [hM, ← Nat.add_assoc, Nat.pow_succ]
  have hM3 : 4294967296 ^ k * (val (y.take i) + 4294967296 ^ i * nth y i) = 4294967296 ^ k * val (y.take i) + M * nth y i := by
    rw [hM, Nat.pow_add, Nat.mul_add, Nat.mul_assoc]
  rw [hM2, hM3]
  rw [← hM] at hs hv
  have e2 := congrArg (M * ·) e
  simp only [Nat.mul_add] at e2
  rw [Nat.mul_assoc]
  omega

theorem dig_A {X V0 D g Y P : Nat} (h : X + D * (g * Y) = V0) (hP : V0 < D * (P + 1)) (hg : P < (g + 1) * Y) : X < D * Y := by
  have h1 : D * (P + 1) ≤ D * ((g + 1) * Y) := Nat.mul_le_mul_left _ hg
  rw [Nat.add_mul g 1 Y, Nat.one_mul, Nat.mul_add D (g * Y) Y] at h1
  omega
theorem dig_B {X1 X2 V0 D g Y P N d : Nat} (h1 : X1 + D * (g * Y) = V0 + N) (hg : 0 < g) (hlow : (g - 1) * Y ≤ P) (hPV : D * P ≤ V0) (hX1 : X1 < N) (h2 : X2 + N * d = X1 + D * Y) (hX2 : X2 < N) (hP : V0 < D * (P + 1)) (hYN : D * Y ≤ N) :
    X2 + D * ((g - 1) * Y) = V0 ∧ X2 < D * Y := by
  obtain ⟨k, rfl⟩ : ∃ k, g = k + 1 := ⟨g - 1, by omega⟩
  rw [Nat.add_sub_cancel] at *
  rw [Nat.add_mul, Nat.one_mul, Nat.mul_add] at h1
  have h3 : D * (k * Y) ≤ D * P := Nat.mul_le_mul_left _ hlow
  have hd : d = 1 := by
    rcases Nat.lt_or_ge d 1 with h | h
    · have : d = 0 := by omega
      subst this; omega
    · rcases Nat.lt_or_ge 1 d with h' | h'
      · exfalso
        have := Nat.mul_le_mul_left N (show 2 ≤ d from h')
        omega
      · omega
  subst hd
  omega
/-- A list's worth, its highest limbs apart. -/
theorem val_high2 (y : List Nat) (n : Nat) (hn : y.length = n) (h2 : 2 ≤ n) : val y = val (y.take (n - 2)) + 4294967296 ^ (n - 2) * (nth y (n - 2) + 4294967296 * nth y (n - 1)) := by
  rw [val_split y (n - 2) (by omega)]
  congr 2
  rw [val_drop_nth, val_drop_nth, show n - 2 + 1 = n - 1 from by omega, show n - 1 + 1 = n from by omega, List.drop_of_length_le (by omega)]
  simp [val]
theorem val_high3 (x : List Nat) (k n : Nat) (hk : k + n < x.length) (h2 : 2 ≤ n) (hV : val (x.drop k) < 4294967296 ^ (n + 1)) :
    val (x.drop k) = val ((x.drop k).take (n - 2)) + 4294967296 ^ (n - 2) * (nth x (k + n - 2) + 4294967296 * (nth x (k + n - 1) + 4294967296 * nth x (k + n))) := by
  have h := val_split (x.drop k) (n - 2) (by simp; omega)
  rw [List.drop_drop, show k + (n - 2) = k + n - 2 from by omega] at h
  have h' := val_drop_nth x (k + n - 2)
  rw [show k + n - 2 + 1 = k + n - 1 from by omega, val_drop_nth x (k + n - 1), show k + n - 1 + 1 = k + n from by omega, val_drop_nth x (k + n)] at h'
  rw [h'] at h
  have hz : val (x.drop (k + n + 1)) = 0 := by
    rcases Nat.eq_zero_or_pos (val (x.drop (k + n + 1))) with h0 | h0
    · exact h0
    · exfalso
      have h3 : 4294967296 ^ (n - 2) * 79228162514264337593543950336 ≤ 4294967296 ^ (n - 2) * (nth x (k + n - 2) + 4294967296 * (nth x (k + n - 1) + 4294967296 * (nth x (k + n) + 4294967296 * val (x.drop (k + n + 1))))) := Nat.mul_le_mul_left _ (by omega)
      have h4 : 4294967296 ^ (n - 2) * 79228162514264337593543950336 = 4294967296 ^ (n + 1) := by
        rw [show (79228162514264337593543950336 : Nat) = 4294967296 ^ 3 from by decide, ← Nat.pow_add]; congr 1; omega
      omega
  rw [hz, Nat.mul_zero, Nat.add_zero] at h
  exact h
/-- Nothing above: the worth is bounded. -/
theorem val_lt_of (x : List Nat) (h : Sm x) (k : Nat) (hz : ∀ j, k ≤ j → nth x j = 0) : val x < 4294967296 ^ k := by
  rcases Nat.lt_or_ge k x.length with hk | hk
  · have h1 := val_split x k (by omega)
    have h2 := val_lt (h.take k)
    rw [List.length_take, Nat.min_eq_left (by omega)] at h2
    have h3 : val (x.drop k) = 0 := by
      have : x.drop k = List.replicate (x.length - k) 0 := by
        refine List.ext_getElem (by simp) fun i hi1 hi2 => ?_
        rw [List.getElem_drop, List.getElem_replicate, ← nth_lt x (by simp at hi1; omega)]
        exact hz _ (by omega)
      rw [this, val_replicate]
    rw [h3] at h1
    omega
  · exact Nat.lt_of_lt_of_le (val_lt h) (Nat.pow_le_pow_right (by decide) hk)
theorem nth_zero_of (x : List Nat) (h : Sm x) (k j : Nat) (hv : val x < 4294967296 ^ k) (hj : k ≤ j) : nth x j = 0 := by
  have h1 : nth x j = val x / 4294967296 ^ j % 4294967296 := getD_val x h j
  rw [h1, Nat.div_eq_of_lt (Nat.lt_of_lt_of_le hv (Nat.pow_le_pow_right (by decide) hj))]
end Go.Proofs.YtenekbfnlbipiaaDoor
