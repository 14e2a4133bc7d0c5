/- Plain: a float's scale: what is cut has less than 60 bits; the cut lies between the 64th and the 192nd bit. -/
import Derived.Test.YtenekbfnlbipiaaGreatDoorSuN
import Derived.Test.YtenekbfnlbipiaaGreatDoorSuJ
import Derived.Test.YtenekbfnlbipiaaGreatDoorBgAA
namespace Go.Proofs.YtenekbfnlbipiaaGreatDoor
open Go.RowKit
set_option linter.unusedVariables false
set_option linter.unusedSimpArgs false
set_option maxHeartbeats 4000000
set_option maxRecDepth 100000
theorem ten_up {p q : Int} {a : Nat} (h : p + q = (a : Int)) : p.toNat + q.toNat = (-p).toNat + (-q).toNat + a := by omega
theorem scale_hi {m : Nat} {q p k : Int} {n c1 c2 : Nat} (hf : farB k = false) (hu : underB m q p = true) (hn : k + p = (n : Int)) (h1 : 0 ≤ tenE k + (c1 : Int)) (h2 : 0 ≤ q + (c2 : Int)) :
    tenN k * m * 2 ^ (tenE k + q + (c1 + c2)).toNat < 10 ^ n * 2 ^ (c1 + c2) := by
  have ha := (ends_at hf c1 h1).1
  rw [under_at m q p c2 h2, decide_eq_true_eq] at hu
  have he : (tenE k + q + ((c1 : Int) + (c2 : Int))).toNat = (tenE k + c1).toNat + (q + c2).toNat := by omega
  rw [he, Nat.pow_add, Nat.pow_add]
  have hx := ten_up (p := k) (q := p) hn
  have hten : 10 ^ k.toNat * 10 ^ p.toNat = 10 ^ (-k).toNat * 10 ^ (-p).toNat * 10 ^ n := by rw [← Nat.pow_add, ← Nat.pow_add, ← Nat.pow_add, hx]
  have hm1 : tenN k * 2 ^ (tenE k + (c1 : Int)).toNat * 10 ^ (-k).toNat * (m * 2 ^ (q + (c2 : Int)).toNat * 10 ^ (-p).toNat) < 10 ^ k.toNat * 2 ^ c1 * (10 ^ p.toNat * 2 ^ c2) := by
    have hb : 0 < 10 ^ k.toNat * 2 ^ c1 := Nat.mul_pos (ten_pos _) (Nat.two_pow_pos _)
    exact Nat.lt_of_le_of_lt (Nat.mul_le_mul_right _ ha) ((Nat.mul_lt_mul_left hb).2 hu)
  have e1 : tenN k * 2 ^ (tenE k + (c1 : Int)).toNat * 10 ^ (-k).toNat * (m * 2 ^ (q + (c2 : Int)).toNat * 10 ^ (-p).toNat) = 10 ^ (-k).toNat * 10 ^ (-p).toNat * (tenN k * m * (2 ^ (tenE k + (c1 : Int)).toNat * 2 ^ (q + (c2 : Int)).toNat)) := by ac_rfl
  have e2 : 10 ^ k.toNat * 2 ^ c1 * (10 ^ p.toNat * 2 ^ c2) = 10 ^ (-k).toNat * 10 ^ (-p).toNat * (10 ^ n * (2 ^ c1 * 2 ^ c2)) := by
    rw [show 10 ^ k.toNat * 2 ^ c1 * (10 ^ p.toNat * 2 ^ c2) = 10 ^ k.toNat * 10 ^ p.toNat * (2 ^ c1 * 2 ^ c2) by ac_rfl, hten]; ac_rfl
  rw [e1, e2] at hm1
  exact Nat.lt_of_mul_lt_mul_left hm1
theorem scale_lo {m : Nat} {q p k : Int} {n c1 c2 : Nat} (h0 : 0 < m) (hf : farB k = false) (hu : underB m q p = false) (hn : k + p = (n : Int)) (h1 : 0 ≤ tenE k + (c1 : Int)) (h2 : 0 ≤ q + (c2 : Int)) :
    10 ^ n * 2 ^ (c1 + c2) < (tenN k + 1) * m * 2 ^ (tenE k + q + (c1 + c2)).toNat := by
  have ha := (ends_at hf c1 h1).2.1
  rw [under_at m q p c2 h2, decide_eq_false_iff_not, Nat.not_lt] at hu
  have he : (tenE k + q + ((c1 : Int) + (c2 : Int))).toNat = (tenE k + c1).toNat + (q + c2).toNat := by omega
  rw [he, Nat.pow_add, Nat.pow_add]
  have hx := ten_up (p := k) (q := p) hn
  have hten : 10 ^ k.toNat * 10 ^ p.toNat = 10 ^ (-k).toNat * 10 ^ (-p).toNat * 10 ^ n := by rw [← Nat.pow_add, ← Nat.pow_add, ← Nat.pow_add, hx]
  have hm1 : 10 ^ k.toNat * 2 ^ c1 * (10 ^ p.toNat * 2 ^ c2) < (tenN k + 1) * 2 ^ (tenE k + (c1 : Int)).toNat * 10 ^ (-k).toNat * (m * 2 ^ (q + (c2 : Int)).toNat * 10 ^ (-p).toNat) := by
    have hb : 0 < m * 2 ^ (q + (c2 : Int)).toNat * 10 ^ (-p).toNat := Nat.mul_pos (Nat.mul_pos h0 (Nat.two_pow_pos _)) (ten_pos _)
    exact Nat.lt_of_le_of_lt (Nat.mul_le_mul_left _ hu) ((Nat.mul_lt_mul_right hb).2 ha)
  have e1 : (tenN k + 1) * 2 ^ (tenE k + (c1 : Int)).toNat * 10 ^ (-k).toNat * (m * 2 ^ (q + (c2 : Int)).toNat * 10 ^ (-p).toNat) = 10 ^ (-k).toNat * 10 ^ (-p).toNat * ((tenN k + 1) * m * (2 ^ (tenE k + (c1 : Int)).toNat * 2 ^ (q + (c2 : Int)).toNat)) := by ac_rfl
  have e2 : 10 ^ k.toNat * 2 ^ c1 * (10 ^ p.toNat * 2 ^ c2) = 10 ^ (-k).toNat * 10 ^ (-p).toNat * (10 ^ n * (2 ^ c1 * 2 ^ c2)) := by
    rw [show 10 ^ k.toNat * 2 ^ c1 * (10 ^ p.toNat * 2 ^ c2) = 10 ^ k.toNat * 10 ^ p.toNat * (2 ^ c1 * 2 ^ c2) by ac_rfl, hten]; ac_rfl
  rw [e1, e2] at hm1
  exact Nat.lt_of_mul_lt_mul_left hm1
theorem pow17 {n : Nat} (h : n ≤ 17) : 10 ^ n ≤ 10 ^ 17 := Nat.pow_le_pow_right (by decide) h
theorem scale_ok {m : Nat} {q P : Int} (h0 : m ≠ 0) (hm : m < 9007199254740992) (hP : IsFirst m q P) {n : Nat} (hn1 : 1 ≤ n) (hn2 : n ≤ 17) {k : Int} (hk : k = n - 1 - P) (hf : farB k = false) :
    ∃ N : Nat, -(tenE k + q - 2) = (N : Int) ∧ 64 ≤ N ∧ N < 192 ∧ ∀ m', 2 * m ≤ m' → m' ≤ 6 * m →
      tenN k * m' < 2 ^ 192 ∧ kB k * m' < 2 ^ 192 ∧ tenN k * m' / 2 ^ N < 2 ^ 60 ∧ kB k * m' / 2 ^ N < 2 ^ 60 ∧ tenN k * m' ≠ 0 ∧ kB k * m' ≠ 0 := by
  obtain ⟨t1, t2⟩ := tenN_bd hf
  obtain ⟨c1, hc1⟩ : ∃ c1 : Nat, c1 = (-(tenE k)).toNat := ⟨_, rfl⟩
  obtain ⟨c2, hc2⟩ : ∃ c2 : Nat, c2 = (-q).toNat := ⟨_, rfl⟩
  have hA := scale_hi (n := n) (c1 := c1) (c2 := c2) hf hP.2 (by omega) (by omega) (by omega)
  have hB := scale_lo (n := n - 1) (c1 := c1) (c2 := c2) (Nat.pos_of_ne_zero h0) hf hP.1 (by omega) (by omega) (by omega)
  have hU : kB k = tenN k ∨ kB k = tenN k + 1 := by unfold kB; cases tenX k <;> simp
  have hd0 : 0 ≤ tenE k + q + ((c1 : Int) + (c2 : Int)) := by omega
  obtain ⟨d, hd⟩ : ∃ d : Nat, d = (tenE k + q + ((c1 : Int) + (c2 : Int))).toNat := ⟨_, rfl⟩
  rw [← hd] at hA hB
  have hdi : tenE k + q + ((c1 : Int) + (c2 : Int)) = (d : Int) := by omega
  obtain ⟨c, hc⟩ : ∃ c, c = c1 + c2 := ⟨_, rfl⟩
  rw [← hc] at hA hB
  have hci : tenE k + q + (c : Int) = (d : Int) := by omega
  clear hc1 hc2 hd hdi hd0
  generalize tenN k = T at *
  generalize kB k = U at *
  have hpn := pow17 hn2
  have e17 : (10 : Nat) ^ 17 = 100000000000000000 := rfl
  rw [e17] at hpn
  -- d + 70 < c
  have hcd : d + 70 < c := by
    apply Nat.lt_of_not_le
    intro hle
    have h1 : 2 ^ c ≤ 2 ^ (d + 70) := Nat.pow_le_pow_right (by decide) hle
    have h2 : 2 ^ 127 * 1 * 2 ^ d ≤ T * m * 2 ^ d := Nat.mul_le_mul_right _ (Nat.mul_le_mul t1 (by omega))
    have h3 : 10 ^ n * 2 ^ c ≤ 100000000000000000 * 2 ^ (d + 70) := Nat.mul_le_mul hpn h1
    rw [Nat.pow_add] at h3
    have hp := Nat.two_pow_pos d
    generalize 2 ^ d = D at *
    have e127 : (2 : Nat) ^ 127 = 170141183460469231731687303715884105728 := rfl
    have e70 : (2 : Nat) ^ 70 = 1180591620717411303424 := rfl
    rw [e127] at h2
    rw [e70] at h3
    omega
  have hdc : c < d + 182 := by
    apply Nat.lt_of_not_le
    intro hle
    have h1 : 2 ^ (d + 182) ≤ 2 ^ c := Nat.pow_le_pow_right (by decide) hle
    have h2 : (T + 1) * m * 2 ^ d ≤ 2 ^ 128 * 9007199254740992 * 2 ^ d := Nat.mul_le_mul_right _ (Nat.mul_le_mul t2 (by omega))
    have h3 : 1 * 2 ^ c ≤ 10 ^ (n - 1) * 2 ^ c := Nat.mul_le_mul_right _ (ten_pos _)
    rw [Nat.pow_add] at h1
    have hp := Nat.two_pow_pos d
    generalize 2 ^ d = D at *
    have e128 : (2 : Nat) ^ 128 = 340282366920938463463374607431768211456 := rfl
    have e182 : (2 : Nat) ^ 182 = 6129982163463555433433388108601236734474956488734408704 := rfl
    rw [e128] at h2
    rw [e182] at h1
    omega
  refine ⟨c - d + 2, by omega, by omega, by omega, fun m' hm1 hm2 => ?_⟩
  have hb : ∀ V, V = T ∨ V = T + 1 → V * m' < 2 ^ 192 ∧ V * m' / 2 ^ (c - d + 2) < 2 ^ 60 ∧ V * m' ≠ 0 := by
    intro V hV
    have hV2 : V ≤ 2 ^ 128 := by omega
    refine ⟨?_, ?_, ?_⟩
    · have h1 : V * m' ≤ 2 ^ 128 * 54043195528445952 := Nat.mul_le_mul hV2 (by omega)
      exact Nat.lt_of_le_of_lt h1 (by decide)
    · rw [Nat.div_lt_iff_lt_mul (Nat.two_pow_pos _)]
      have hV3 : V ≤ 2 * T := by omega
      have h1 : V * m' ≤ 2 * T * (6 * m) := Nat.mul_le_mul hV3 hm2
      have e1 : 2 * T * (6 * m) = 12 * (T * m) := by
        rw [show 2 * T * (6 * m) = 2 * 6 * (T * m) by ac_rfl]
      rw [e1] at h1
      have hcc : 2 ^ c = 2 ^ (c - d) * 2 ^ d := by rw [← Nat.pow_add]; congr 1; omega
      rw [hcc, ← Nat.mul_assoc] at hA
      have hA2 : T * m < 10 ^ n * 2 ^ (c - d) := Nat.lt_of_mul_lt_mul_right hA
      have hA3 : 10 ^ n * 2 ^ (c - d) ≤ 100000000000000000 * 2 ^ (c - d) := Nat.mul_le_mul_right _ hpn
      rw [Nat.pow_add]
      generalize 2 ^ (c - d) = D at *
      have e60 : (2 : Nat) ^ 60 = 1152921504606846976 := rfl
      have e2 : (2 : Nat) ^ 2 = 4 := rfl
      rw [e60, e2]
      omega
    · have : 0 < V := by omega
      exact Nat.pos_iff_ne_zero.1 (Nat.mul_pos this (by omega))
  have hT := hb T (.inl rfl)
  have hU2 := hb U hU
  exact ⟨hT.1, hU2.1, hT.2.1, hU2.2.1, hT.2.2, hU2.2.2⟩
def kS (P : Int) (n : Nat) : Int := (n : Int) - 1 - P
def NS (q P : Int) (n : Nat) : Nat := (-(tenE (kS P n) + q - 2)).toNat
def loE (P : Int) (n m' : Nat) : Nat := tenN (kS P n) * m'
def hiE (P : Int) (n m' : Nat) : Nat := kB (kS P n) * m'
def someS (m : Nat) (q P : Int) (n : Nat) : Option Nat :=
  if nearS (loE P n (4 * m)) (NS q P n) = nearS (hiE P n (4 * m)) (NS q P n) then some (nearS (loE P n (4 * m)) (NS q P n)) else none
theorem near_lt {v n : Nat} (h : v / 2 ^ n < 2 ^ 60) : nearS v n < 1152921504606846978 := by
  have e60 : (2 : Nat) ^ 60 = 1152921504606846976 := rfl
  rw [e60] at h
  unfold nearS; split <;> omega
namespace Bg
theorem pow2_dvd {d k : Nat} (h : d ∣ 2 ^ k) : d = 2 ^ tz d := by
  have h0 : d ≠ 0 := by
    rintro rfl
    exact Nat.ne_of_gt (Nat.two_pow_pos k) (Nat.eq_zero_of_zero_dvd h)
  obtain ⟨m, hm⟩ := tz_spec h0
  have h1 : (2 * m + 1) ∣ d := ⟨2 ^ tz d, by rw [Nat.mul_comm]; exact hm⟩
  have h2 := odd_gcd m k
  rw [Nat.gcd_eq_left (Nat.dvd_trans h1 h)] at h2
  rw [h2, Nat.mul_one] at hm
  exact hm
theorem two_len (k : Nat) : (limbs (2 ^ k)).length ≤ k / 32 + 1 := by
  rw [length_limbs_le, B_pow]
  exact Nat.pow_lt_pow_right (by decide) (by omega)
theorem len_of_dvd {a b k : Nat} (hb : b ≠ 0) (h : a ∣ b) (hk : (limbs b).length ≤ k) : (limbs a).length ≤ k :=
  Nat.le_trans (limbs_mono (Nat.le_of_dvd (Nat.pos_of_ne_zero hb) h)) hk
structure Frac (n d m : Nat) (q : Int) : Prop where
  eq : n * 2 ^ (-q).toNat = m * 2 ^ q.toNat * d
  n0 : n ≠ 0
  d2 : d = 2 ^ tz d
  ln : (limbs n).length ≤ 34
  ld : (limbs d).length < 40
theorem Frac.pos {n d m : Nat} {q : Int} (h : Frac n d m q) : 0 < d := by rw [h.d2]; exact Nat.two_pow_pos _
theorem Frac.under {n d m : Nat} {q : Int} (h : Frac n d m q) (p : Int) : n * 10 ^ (-p).toNat < 10 ^ p.toNat * d ↔ underB m q p = true := by
  have hd := h.pos
  have hq := Nat.two_pow_pos (-q).toNat
  unfold underB
  rw [decide_eq_true_eq]
  have e1 : n * 10 ^ (-p).toNat * 2 ^ (-q).toNat = m * 2 ^ q.toNat * 10 ^ (-p).toNat * d := by
    rw [show n * 10 ^ (-p).toNat * 2 ^ (-q).toNat = n * 2 ^ (-q).toNat * 10 ^ (-p).toNat by ac_rfl, h.eq]; ac_rfl
  have e2 : 10 ^ p.toNat * d * 2 ^ (-q).toNat = 10 ^ p.toNat * 2 ^ (-q).toNat * d := by ac_rfl
  constructor
  · intro hh
    have := (Nat.mul_lt_mul_right hq).2 hh
    rw [e1, e2] at this
    exact Nat.lt_of_mul_lt_mul_right this
  · intro hh
    have := (Nat.mul_lt_mul_right hd).2 hh
    rw [← e1, ← e2] at this
    exact Nat.lt_of_mul_lt_mul_right this
theorem frac_pos {m k : Nat} (h0 : m ≠ 0) (hm : m < 9007199254740992) (hk : k ≤ 1022) : Frac (prodN m 1 (2 ^ k) 1) (prodD m 1 (2 ^ k) 1) m (k : Int) ∧ Fit m 1 (2 ^ k) 1 := by
  obtain ⟨e, hd, hn, hd0⟩ := mul_ratio (u1 := m) (u2 := 2 ^ k) (v1 := 1) (v2 := 1) (by decide) (by decide)
  have l2 := two_len k
  have lm : (limbs m).length ≤ 2 := limbs_two (by omega)
  have hp := Nat.two_pow_pos k
  have hmk : m * 2 ^ k ≠ 0 := Nat.ne_of_gt (Nat.mul_pos (Nat.pos_of_ne_zero h0) hp)
  have lmk : (limbs (m * 2 ^ k)).length ≤ 34 := by have := limbs_mul_le m (2 ^ k); omega
  have hD : prodD m 1 (2 ^ k) 1 = 1 := Nat.eq_one_of_dvd_one (by simpa using hd)
  refine ⟨⟨?_, ?_, by rw [hD]; exact tz_one, len_of_dvd hmk hn lmk, by rw [hD]; decide⟩, ⟨by decide, by decide, .inr tz_one, .inr tz_one, by omega, by omega, by decide, by decide, .inl (by omega), .inl (by decide)⟩⟩
  · rw [show (-(k : Int)).toNat = 0 by omega, show ((k : Int)).toNat = k by omega]
    simpa using e
  · intro hz
    rw [hz, hD] at e
    simp at e
    omega
theorem frac_neg {m k : Nat} (h0 : m ≠ 0) (hm : m < 9007199254740992) (hk : k ≤ 1074) : Frac (prodN m 1 1 (2 ^ k)) (prodD m 1 1 (2 ^ k)) m (-(k : Int)) ∧ Fit m 1 1 (2 ^ k) := by
  have hp := Nat.two_pow_pos k
  obtain ⟨e, hd, hn, hd0⟩ := mul_ratio (u1 := m) (u2 := 1) (v1 := 1) (v2 := 2 ^ k) (by decide) (Nat.ne_of_gt hp)
  have l2 := two_len k
  have lm : (limbs m).length ≤ 2 := limbs_two (by omega)
  rw [Nat.mul_one] at hn
  rw [Nat.one_mul] at hd
  refine ⟨⟨?_, ?_, pow2_dvd hd, ?_, ?_⟩, ⟨by decide, Nat.ne_of_gt hp, .inr (by rw [tz_two]), .inl tz_one, by omega, by decide, by decide, by omega, .inl (by omega), .inl (by decide)⟩⟩
  · rw [show (-(-(k : Int))).toNat = k by omega, show (-(k : Int)).toNat = 0 by omega]
    rw [Nat.one_mul, Nat.mul_one] at e
    rw [Nat.pow_zero, Nat.mul_one]
    exact e
  · intro hz
    rw [hz, Nat.zero_mul, Nat.mul_one] at e
    rcases Nat.mul_eq_zero.1 e.symm with h | h
    · exact h0 h
    · exact hd0 h
  · exact len_of_dvd h0 hn (by omega)
  · have := len_of_dvd (Nat.ne_of_gt hp) hd l2
    omega
structure Sc (N2 D2 V N : Nat) : Prop where
  eq : N2 * 2 ^ N = V * D2
  ne : D2 ≠ 0
  ln : (limbs N2).length ≤ 1000
  ld : (limbs D2).length ≤ 1000
theorem Frac.fit1 {n d m : Nat} {q : Int} (h : Frac n d m q) {T : Nat} (lT : (limbs T).length ≤ 5) : Fit n d T 1 :=
  ⟨Nat.ne_of_gt h.pos, by decide, .inr tz_one, .inr h.d2, by have := h.ln; omega, by omega, by have := h.ld; omega, by decide, .inl (by have := h.ln; omega), .inl h.ld⟩
theorem Frac.parts {n d m : Nat} {q : Int} (h : Frac n d m q) {T : Nat} (hT : T ≠ 0) (lT : (limbs T).length ≤ 5) :
    prodN n d T 1 * d = n * T * prodD n d T 1 ∧ (limbs (prodN n d T 1)).length < 40 ∧ (limbs (prodD n d T 1)).length < 40 ∧ prodD n d T 1 ≠ 0 := by
  obtain ⟨e, hd, hn, hd0⟩ := mul_ratio (u1 := n) (u2 := T) (v1 := d) (v2 := 1) (Nat.ne_of_gt h.pos) (by decide)
  rw [Nat.mul_one] at e hd
  have hnT : n * T ≠ 0 := Nat.ne_of_gt (Nat.mul_pos (Nat.pos_of_ne_zero h.n0) (Nat.pos_of_ne_zero hT))
  have l1 := limbs_mul_le n T
  have l2 := len_of_dvd hnT hn (Nat.le_refl _)
  have l3 := len_of_dvd (Nat.ne_of_gt h.pos) hd (Nat.le_refl _)
  have := h.ln
  have := h.ld
  exact ⟨e, by omega, by omega, hd0⟩
theorem Frac.scale {n d m : Nat} {q : Int} (h : Frac n d m q) {T : Nat} {a b N : Nat} {N1 D1 N2 D2 : Nat} (h1 : N1 * d = n * T * D1) (hd1 : D1 ≠ 0) (h2 : N2 * (D1 * 2 ^ b) = N1 * 2 ^ a * D2)
    (hN : (N : Int) = -((a : Int) - (b : Int) + q - 2)) : N2 * 2 ^ N = T * (4 * m) * D2 := by
  have hd := h.pos
  have hN2 : b + (-q).toNat + 2 = N + (a + q.toNat) := by omega
  have e : N2 * 2 ^ N * (2 ^ (a + q.toNat) * (D1 * d)) = T * (4 * m) * D2 * (2 ^ (a + q.toNat) * (D1 * d)) := by
    have k1 : 2 ^ N * 2 ^ (a + q.toNat) = 2 ^ b * 2 ^ (-q).toNat * 4 := by
      rw [← Nat.pow_add, ← hN2, Nat.pow_add, Nat.pow_add]
    calc N2 * 2 ^ N * (2 ^ (a + q.toNat) * (D1 * d)) = N2 * (D1 * d) * (2 ^ N * 2 ^ (a + q.toNat)) := by ac_rfl
      _ = N2 * (D1 * d) * (2 ^ b * 2 ^ (-q).toNat * 4) := by rw [k1]
      _ = N2 * (D1 * 2 ^ b) * (d * 2 ^ (-q).toNat * 4) := by ac_rfl
      _ = N1 * 2 ^ a * D2 * (d * 2 ^ (-q).toNat * 4) := by rw [h2]
      _ = N1 * d * (2 ^ a * D2 * 2 ^ (-q).toNat * 4) := by ac_rfl
      _ = n * T * D1 * (2 ^ a * D2 * 2 ^ (-q).toNat * 4) := by rw [h1]
      _ = n * 2 ^ (-q).toNat * (T * D1 * 2 ^ a * D2 * 4) := by ac_rfl
      _ = m * 2 ^ q.toNat * d * (T * D1 * 2 ^ a * D2 * 4) := by rw [h.eq]
      _ = T * (4 * m) * D2 * (2 ^ a * 2 ^ q.toNat * (D1 * d)) := by ac_rfl
      _ = T * (4 * m) * D2 * (2 ^ (a + q.toNat) * (D1 * d)) := by rw [← Nat.pow_add]
  exact Nat.mul_right_cancel (Nat.mul_pos (Nat.two_pow_pos _) (Nat.mul_pos (Nat.pos_of_ne_zero hd1) hd)) e
theorem Frac.sc_pos {n d m : Nat} {q : Int} (h : Frac n d m q) {T k N : Nat} (hT : T ≠ 0) (lT : (limbs T).length ≤ 5) (hk : k ≤ 3000) (hN : (N : Int) = -((k : Int) + q - 2)) :
    Fit (prodN n d T 1) (prodD n d T 1) (2 ^ k) 1 ∧ Sc (prodN (prodN n d T 1) (prodD n d T 1) (2 ^ k) 1) (prodD (prodN n d T 1) (prodD n d T 1) (2 ^ k) 1) (T * (4 * m)) N := by
  obtain ⟨e1, l1, l2, hd1⟩ := h.parts hT lT
  have hp := Nat.two_pow_pos k
  have lk := two_len k
  obtain ⟨e2, hd2, hn2, hd20⟩ := mul_ratio (u1 := prodN n d T 1) (u2 := 2 ^ k) (v1 := prodD n d T 1) (v2 := 1) hd1 (by decide)
  have hN1 : prodN n d T 1 ≠ 0 := by
    intro hz
    rw [hz, Nat.zero_mul] at e1
    rcases Nat.mul_eq_zero.1 e1.symm with h1 | h1
    · rcases Nat.mul_eq_zero.1 h1 with h1 | h1
      · exact h.n0 h1
      · exact hT h1
    · exact hd1 h1
  have l3 := limbs_mul_le (prodN n d T 1) (2 ^ k)
  refine ⟨⟨hd1, by decide, .inr tz_one, .inl (by rw [tz_two]), by omega, by omega, by omega, by decide, .inl l1, .inl l2⟩, h.scale (b := 0) e1 hd1 (by simpa using e2) (by omega), hd20, ?_, ?_⟩
  · exact len_of_dvd (Nat.ne_of_gt (Nat.mul_pos (Nat.pos_of_ne_zero hN1) hp)) hn2 (by omega)
  · exact len_of_dvd hd1 (by simpa using hd2) (by omega)
theorem Frac.sc_neg {n d m : Nat} {q : Int} (h : Frac n d m q) {T k N : Nat} (hT : T ≠ 0) (lT : (limbs T).length ≤ 5) (hk : k ≤ 3000) (hN : (N : Int) = -(-(k : Int) + q - 2)) :
    Fit (prodN n d T 1) (prodD n d T 1) 1 (2 ^ k) ∧ Sc (prodN (prodN n d T 1) (prodD n d T 1) 1 (2 ^ k)) (prodD (prodN n d T 1) (prodD n d T 1) 1 (2 ^ k)) (T * (4 * m)) N := by
  obtain ⟨e1, l1, l2, hd1⟩ := h.parts hT lT
  have hp := Nat.two_pow_pos k
  have lk := two_len k
  obtain ⟨e2, hd2, hn2, hd20⟩ := mul_ratio (u1 := prodN n d T 1) (u2 := 1) (v1 := prodD n d T 1) (v2 := 2 ^ k) hd1 (Nat.ne_of_gt hp)
  have hN1 : prodN n d T 1 ≠ 0 := by
    intro hz
    rw [hz, Nat.zero_mul] at e1
    rcases Nat.mul_eq_zero.1 e1.symm with h1 | h1
    · rcases Nat.mul_eq_zero.1 h1 with h1 | h1
      · exact h.n0 h1
      · exact hT h1
    · exact hd1 h1
  have l3 := limbs_mul_le (prodD n d T 1) (2 ^ k)
  refine ⟨⟨hd1, Nat.ne_of_gt hp, .inr (by rw [tz_two]), .inl tz_one, by omega, by decide, by omega, by omega, .inl l1, .inl l2⟩, h.scale (a := 0) e1 hd1 (by simpa using e2) (by omega), hd20, ?_, ?_⟩
  · exact len_of_dvd hN1 (by simpa using hn2) (by omega)
  · exact len_of_dvd (Nat.ne_of_gt (Nat.mul_pos (Nat.pos_of_ne_zero hd1) hp)) hd2 (by omega)
theorem Sc.div {n d V N : Nat} (h : Sc n d V N) : n / d = V / 2 ^ N := by
  have h1 := Nat.mul_div_mul_right n d (Nat.two_pow_pos N)
  have h2 := Nat.mul_div_mul_right V (2 ^ N) (Nat.pos_of_ne_zero h.ne)
  rw [← h1, ← h2, h.eq, Nat.mul_comm d]
theorem Sc.mod {n d V N : Nat} (h : Sc n d V N) : n % d * 2 ^ N = V % 2 ^ N * d := by
  rw [← Nat.mul_mod_mul_right, ← Nat.mul_mod_mul_right, h.eq, Nat.mul_comm d]
theorem Sc.rnd {n d V N : Nat} (h : Sc n d V N) (hN : 0 < N) : rnd n d = nearS V N := by
  have hm := h.mod
  have hq := h.div
  have hd : 0 < d := Nat.pos_of_ne_zero h.ne
  obtain ⟨k, rfl⟩ : ∃ k, N = k + 1 := ⟨N - 1, by omega⟩
  have hH := Nat.two_pow_pos k
  unfold Bg.rnd nearS halfS
  rw [hq]
  rw [show k + 1 - 1 = k from rfl]
  obtain ⟨r, hr⟩ : ∃ r, r = n % d := ⟨_, rfl⟩
  obtain ⟨r', hr'⟩ : ∃ r, r = V % 2 ^ (k + 1) := ⟨_, rfl⟩
  obtain ⟨a, ha⟩ : ∃ a, a = V / 2 ^ (k + 1) := ⟨_, rfl⟩
  rw [← hr, ← hr', Nat.pow_succ] at hm
  rw [← hr, ← hr', ← ha]
  generalize 2 ^ k = H at *
  have e : 2 * r * H = r' * d := by rw [← hm]; ac_rfl
  have c1 : d < 2 * r ↔ H < r' := by
    constructor
    · intro hh
      have := (Nat.mul_lt_mul_right hH).2 hh
      rw [e, Nat.mul_comm d] at this
      exact Nat.lt_of_mul_lt_mul_right this
    · intro hh
      have := (Nat.mul_lt_mul_right hd).2 hh
      rw [← e, Nat.mul_comm H] at this
      exact Nat.lt_of_mul_lt_mul_right this
  have c2 : 2 * r = d ↔ r' = H := by
    constructor
    · intro hh
      rw [hh, Nat.mul_comm d] at e
      exact (Nat.mul_right_cancel hd e).symm
    · intro hh
      rw [hh, Nat.mul_comm H] at e
      exact Nat.mul_right_cancel hH e
  rcases Nat.lt_trichotomy r' H with hc | hc | hc
  · rw [if_neg (by rw [c1, c2]; omega), if_pos hc, if_neg (by omega)]
  · rw [if_neg (by omega : ¬ r' < H), if_pos hc]
    by_cases ho : a % 2 = 1
    · rw [if_pos (.inr ⟨c2.2 hc, ho⟩), if_pos (.inr ⟨rfl, ho⟩)]
    · rw [if_neg (by rw [c1]; omega), if_neg (by omega)]
  · rw [if_pos (.inl (c1.2 hc)), if_neg (by omega : ¬ r' < H), if_neg (by omega : ¬ r' = H), if_pos (.inl rfl)]
end Bg
end Go.Proofs.YtenekbfnlbipiaaGreatDoor
