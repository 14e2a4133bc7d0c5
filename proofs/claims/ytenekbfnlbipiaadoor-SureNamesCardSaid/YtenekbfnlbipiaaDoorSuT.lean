/- Plain: a float's scale: what is cut has less than 60 bits; the cut lies between the 64th and the 192nd bit. -/
import Derived.Test.YtenekbfnlbipiaaDoorSuN
import Derived.Test.YtenekbfnlbipiaaDoorSuL
namespace Go.Proofs.YtenekbfnlbipiaaDoor
open Go.RowKit
set_option linter.unusedVariables false
set_option linter.unusedSimpArgs false
set_option maxHeartbeats 4000000
set_option maxRecDepth 100000
theorem ten_up {p q : Int} {a : Nat} (h : p + q = (a : Int)) : p.toNat + q.toNat = (-p).toNat + (-q).toNat + a := by omega
/-- The product of a float and a power of ten, from above. -/
theorem scale_hi {m : Nat} {q p k : Int} {n c1 c2 : Nat} (hf : farB k = false) (hu : underB m q p = true) (hn : k + p = (n : Int)) (h1 : 0 ≤ tenE k + (c1 : Int)) (h2 : 0 ≤ q + (c2 : Int)) :
    tenN k * m * 2 ^ (tenE k + q + (c1 + c2)).toNat < 10 ^ n * 2 ^ (c1 + c2) := by
  have ha := (ends_at hf c1 h1).1
  rw [under_at m q p c2 h2, decide_eq_true_eq] at hu
  have he : (tenE k + q + ((c1 : Int) + (c2 : Int))).toNat = (tenE k + c1).toNat + (q + c2).toNat := by omega
  rw [he, Nat.pow_add, Nat.pow_add]
  have hx := ten_up (p := k) (q := p) hn
  have hten : 10 ^ k.toNat * 10 ^ p.toNat = 10 ^ (-k).toNat * 10 ^ (-p).toNat * 10 ^ n := by rw [← Nat.pow_add, ← Nat.pow_add, ← Nat.pow_add, hx]
  have hm1 : tenN k * 2 ^ (tenE k + (c1 : Int)).toNat * 10 ^ (-k).toNat * (m * 2 ^ (q + (c2 : Int)).toNat * 10 ^ (-p).toNat) < 10 ^ k.toNat * 2 ^ c1 * (10 ^ p.toNat * 2 ^ c2) := by
    have hb : 0 < 10 ^ k.toNat * 2 ^ c1 := Nat.mul_pos (ten_pos _) (Nat.two_pow_pos _)
    exact Nat.lt_of_le_of_lt (Nat.mul_le_mul_right _ ha) ((Nat.mul_lt_mul_left hb).2 hu)
  have e1 : tenN k * 2 ^ (tenE k + (c1 : Int)).toNat * 10 ^ (-k).toNat * (m * 2 ^ (q + (c2 : Int)).toNat * 10 ^ (-p).toNat) = 10 ^ (-k).toNat * 10 ^ (-p).toNat * (tenN k * m * (2 ^ (tenE k + (c1 : Int)).toNat * 2 ^ (q + (c2 : Int)).toNat)) := by ac_rfl
  have e2 : 10 ^ k.toNat * 2 ^ c1 * (10 ^ p.toNat * 2 ^ c2) = 10 ^ (-k).toNat * 10 ^ (-p).toNat * (10 ^ n * (2 ^ c1 * 2 ^ c2)) := by
    rw [show 10 ^ k.toNat * 2 ^ c1 * (10 ^ p.toNat * 2 ^ c2) = 10 ^ k.toNat * 10 ^ p.toNat * (2 ^ c1 * 2 ^ c2) by ac_rfl, hten]; ac_rfl
  rw [e1, e2] at hm1
  exact Nat.lt_of_mul_lt_mul_left hm1
/-- .. and from below. -/
theorem scale_lo {m : Nat} {q p k : Int} {n c1 c2 : Nat} (h0 : 0 < m) (hf : farB k = false) (hu : underB m q p = false) (hn : k + p = (n : Int)) (h1 : 0 ≤ tenE k + (c1 : Int)) (h2 : 0 ≤ q + (c2 : Int)) :
    10 ^ n * 2 ^ (c1 + c2) < (tenN k + 1) * m * 2 ^ (tenE k + q + (c1 + c2)).toNat := by
  have ha := (ends_at hf c1 h1).2.1
  rw [under_at m q p c2 h2, decide_eq_false_iff_not, Nat.not_lt] at hu
  have he : (tenE k + q + ((c1 : Int) + (c2 : Int))).toNat = (tenE k + c1).toNat + (q + c2).toNat := by omega
  rw [he, Nat.pow_add, Nat.pow_add]
  have hx := ten_up (p := k) (q := p) hn
  have hten : 10 ^ k.toNat * 10 ^ p.toNat = 10 ^ (-k).toNat * 10 ^ (-p).toNat * 10 ^ n := by rw [← Nat.pow_add, ← Nat.pow_add, ← Nat.pow_add, hx]
  have hm1 : 10 ^ k.toNat * 2 ^ c1 * (10 ^ p.toNat * 2 ^ c2) < (tenN k + 1) * 2 ^ (tenE k + (c1 : Int)).toNat * 10 ^ (-k).toNat * (m * 2 ^ (q + (c2 : Int)).toNat * 10 ^ (-p).toNat) := by
    have hb : 0 < m * 2 ^ (q + (c2 : Int)).toNat * 10 ^ (-p).toNat := Nat.mul_pos (Nat.mul_pos h0 (Nat.two_pow_pos _)) (ten_pos _)
    exact Nat.lt_of_le_of_lt (Nat.mul_le_mul_left _ hu) ((Nat.mul_lt_mul_right hb).2 ha)
  have e1 : (tenN k + 1) * 2 ^ (tenE k + (c1 : Int)).toNat * 10 ^ (-k).toNat * (m * 2 ^ (q + (c2 : Int)).toNat * 10 ^ (-p).toNat) = 10 ^ (-k).toNat * 10 ^ (-p).toNat * ((tenN k + 1) * m * (2 ^ (tenE k + (c1 : Int)).toNat * 2 ^ (q + (c2 : Int)).toNat)) := by ac_rfl
  have e2 : 10 ^ k.toNat * 2 ^ c1 * (10 ^ p.toNat * 2 ^ c2) = 10 ^ (-k).toNat * 10 ^ (-p).toNat * (10 ^ n * (2 ^ c1 * 2 ^ c2)) := by
    rw [show 10 ^ k.toNat * 2 ^ c1 * (10 ^ p.toNat * 2 ^ c2) = 10 ^ k.toNat * 10 ^ p.toNat * (2 ^ c1 * 2 ^ c2) by ac_rfl, hten]; ac_rfl
  rw [e1, e2] at hm1
  exact Nat.lt_of_mul_lt_mul_left hm1
theorem pow17 {n : Nat} (h : n ≤ 17) : 10 ^ n ≤ 10 ^ 17 := Nat.pow_le_pow_right (by decide) h
/-- What the code's cuts want. -/
theorem scale_ok {m : Nat} {q P : Int} (h0 : m ≠ 0) (hm : m < 9007199254740992) (hP : IsFirst m q P) {n : Nat} (hn1 : 1 ≤ n) (hn2 : n ≤ 17) {k : Int} (hk : k = n - 1 - P) (hf : farB k = false) :
    ∃ N : Nat, -(tenE k + q - 2) = (N : Int) ∧ 64 ≤ N ∧ N < 192 ∧ ∀ m', 2 * m ≤ m' → m' ≤ 6 * m →
      tenN k * m' < 2 ^ 192 ∧ kB k * m' < 2 ^ 192 ∧ tenN k * m' / 2 ^ N < 2 ^ 60 ∧ kB k * m' / 2 ^ N < 2 ^ 60 ∧ tenN k * m' ≠ 0 ∧ kB k * m' ≠ 0 := by
  obtain ⟨t1, t2⟩ := tenN_bd hf
  obtain ⟨c1, hc1⟩ : ∃ c1 : Nat, c1 = (-(tenE k)).toNat := ⟨_, rfl⟩
  obtain ⟨c2, hc2⟩ : ∃ c2 : Nat, c2 = (-q).toNat := ⟨_, rfl⟩
  have hA := scale_hi (n := n) (c1 := c1) (c2 := c2) hf hP.2 (by omega) (by omega) (by omega)
  have hB := scale_lo (n := n - 1) (c1 := c1) (c2 := c2) (Nat.pos_of_ne_zero h0) hf hP.1 (by omega) (by omega) (by omega)
  have hU : kB k = tenN k ∨ kB k = tenN k + 1 := by unfold kB; cases tenX k <;> simp
  have hd0 : 0 ≤ tenE k + q + ((c1 : Int) + (c2 : Int)) := by omega
  obtain ⟨d, hd⟩ : ∃ d : Nat, d = (tenE k + q + ((c1 : Int) + (c2 : Int))).toNat := ⟨_, rfl⟩
  rw [← hd] at hA hB
  have hdi : tenE k + q + ((c1 : Int) + (c2 : Int)) = (d : Int) := by omega
  obtain ⟨c, hc⟩ : ∃ c, c = c1 + c2 := ⟨_, rfl⟩
  rw [← hc] at hA hB
  have hci : tenE k + q + (c : Int) = (d : Int) := by omega
  clear hc1 hc2 hd hdi hd0
  generalize tenN k = T at *
  generalize kB k = U at *
  have hpn := pow17 hn2
  have e17 : (10 : Nat) ^ 17 = 100000000000000000 := rfl
  rw [e17] at hpn
  -- d + 70 < c
  have hcd : d + 70 < c := by
    apply Nat.lt_of_not_le
    intro hle
    have h1 : 2 ^ c ≤ 2 ^ (d + 70) := Nat.pow_le_pow_right (by decide) hle
    have h2 : 2 ^ 127 * 1 * 2 ^ d ≤ T * m * 2 ^ d := Nat.mul_le_mul_right _ (Nat.mul_le_mul t1 (by omega))
    have h3 : 10 ^ n * 2 ^ c ≤ 100000000000000000 * 2 ^ (d + 70) := Nat.mul_le_mul hpn h1
    rw [Nat.pow_add] at h3
    have hp := Nat.two_pow_pos d
    generalize 2 ^ d = D at *
    have e127 : (2 : Nat) ^ 127 = 170141183460469231731687303715884105728 := rfl
    have e70 : (2 : Nat) ^ 70 = 1180591620717411303424 := rfl
    rw [e127] at h2
    rw [e70] at h3
    omega
  have hdc : c < d + 182 := by
    apply Nat.lt_of_not_le
    intro hle
    have h1 : 2 ^ (d + 182) ≤ 2 ^ c := Nat.pow_le_pow_right (by decide) hle
    have h2 : (T + 1) * m * 2 ^ d ≤ 2 ^ 128 * 9007199254740992 * 2 ^ d := Nat.mul_le_mul_right _ (Nat.mul_le_mul t2 (by omega))
    have h3 : 1 * 2 ^ c ≤ 10 ^ (n - 1) * 2 ^ c := Nat.mul_le_mul_right _ (ten_pos _)
    rw [Nat.pow_add] at h1
    have hp := Nat.two_pow_pos d
    generalize 2 ^ d = D at *
    have e128 : (2 : Nat) ^ 128 = 340282366920938463463374607431768211456 := rfl
    have e182 : (2 : Nat) ^ 182 = 6129982163463555433433388108601236734474956488734408704 := rfl
    rw [e128] at h2
    rw [e182] at h1
    omega
  refine ⟨c - d + 2, by omega, by omega, by omega, fun m' hm1 hm2 => ?_⟩
  have hb : ∀ V, V = T ∨ V = T + 1 → V * m' < 2 ^ 192 ∧ V * m' / 2 ^ (c - d + 2) < 2 ^ 60 ∧ V * m' ≠ 0 := by
    intro V hV
    have hV2 : V ≤ 2 ^ 128 := by omega
    refine ⟨?_, ?_, ?_⟩
    · have h1 : V * m' ≤ 2 ^ 128 * 54043195528445952 := Nat.mul_le_mul hV2 (by omega)
      exact Nat.lt_of_le_of_lt h1 (by decide)
    · rw [Nat.div_lt_iff_lt_mul (Nat.two_pow_pos _)]
      have hV3 : V ≤ 2 * T := by omega
      have h1 : V * m' ≤ 2 * T * (6 * m) := Nat.mul_le_mul hV3 hm2
      have e1 : 2 * T * (6 * m) = 12 * (T * m) := by
        rw [show 2 * T * (6 * m) = 2 * 6 * (T * m) by ac_rfl]
      rw [e1] at h1
      have hcc : 2 ^ c = 2 ^ (c - d) * 2 ^ d := by rw [← Nat.pow_add]; congr 1; omega
      rw [hcc, ← Nat.mul_assoc] at hA
      have hA2 : T * m < 10 ^ n * 2 ^ (c - d) := Nat.lt_of_mul_lt_mul_right hA
      have hA3 : 10 ^ n * 2 ^ (c - d) ≤ 100000000000000000 * 2 ^ (c - d) := Nat.mul_le_mul_right _ hpn
      rw [Nat.pow_add]
      generalize 2 ^ (c - d) = D at *
      have e60 : (2 : Nat) ^ 60 = 1152921504606846976 := rfl
      have e2 : (2 : Nat) ^ 2 = 4 := rfl
      rw [e60, e2]
      omega
    · have : 0 < V := by omega
      exact Nat.pos_iff_ne_zero.1 (Nat.mul_pos this (by omega))
  have hT := hb T (.inl rfl)
  have hU2 := hb U hU
  exact ⟨hT.1, hU2.1, hT.2.1, hU2.2.1, hT.2.2, hU2.2.2⟩
end Go.Proofs.YtenekbfnlbipiaaDoor
namespace Go.Proofs.YtenekbfnlbipiaaDoor
open Go.RowKit
set_option linter.unusedVariables false
set_option linter.unusedSimpArgs false
set_option maxHeartbeats 4000000
set_option maxRecDepth 100000
/-- The power of ten for so many digits; where is cut. -/
def kS (P : Int) (n : Nat) : Int := (n : Int) - 1 - P
def NS (q P : Int) (n : Nat) : Nat := (-(tenE (kS P n) + q - 2)).toNat
/-- Both ends of m' 2^(q-2), over the power of ten. -/
def loE (P : Int) (n m' : Nat) : Nat := tenN (kS P n) * m'
def hiE (P : Int) (n m' : Nat) : Nat := kB (kS P n) * m'
/-- So many digits. -/
def someS (m : Nat) (q P : Int) (n : Nat) : Option Nat :=
  if nearS (loE P n (4 * m)) (NS q P n) = nearS (hiE P n (4 * m)) (NS q P n) then some (nearS (loE P n (4 * m)) (NS q P n)) else none
/-- One round for the shortest digits: none: go on; some none: it is not sure. -/
def roundS (m : Nat) (q P : Int) (inn : Bool) (lo n : Nat) : Option (Option Nat) :=
  if ceilS inn (loE P n lo) (NS q P n) = ceilS inn (hiE P n lo) (NS q P n) ∧ floorS inn (loE P n (4 * m + 2)) (NS q P n) = floorS inn (hiE P n (4 * m + 2)) (NS q P n) then
    if floorS inn (loE P n (4 * m + 2)) (NS q P n) < ceilS inn (loE P n lo) (NS q P n) then none
    else match someS m q P n with
      | none => some none
      | some x => some (some (max (ceilS inn (loE P n lo) (NS q P n)) (min (floorS inn (loE P n (4 * m + 2)) (NS q P n)) x)))
  else some none
def digS (m : Nat) (q P : Int) (inn : Bool) (lo : Nat) : Nat → Nat → Option (Nat × Int)
  | 0, _ => none
  | fuel + 1, n => match roundS m q P inn lo n with
    | none => digS m q P inn lo fuel (n + 1)
    | some none => none
    | some (some x) => some (x, P + 1 - n)
theorem ceil_lt (inn : Bool) {v n : Nat} (h : v / 2 ^ n < 2 ^ 60) : ceilS inn v n < 1152921504606846978 := by
  have e60 : (2 : Nat) ^ 60 = 1152921504606846976 := rfl
  rw [e60] at h
  unfold ceilS; split <;> omega
theorem floor_lt (inn : Bool) {v n : Nat} (h : v / 2 ^ n < 2 ^ 60) : floorS inn v n < 1152921504606846978 := by
  have e60 : (2 : Nat) ^ 60 = 1152921504606846976 := rfl
  rw [e60] at h
  unfold floorS; split <;> omega
theorem near_lt {v n : Nat} (h : v / 2 ^ n < 2 ^ 60) : nearS v n < 1152921504606846978 := by
  have e60 : (2 : Nat) ^ 60 = 1152921504606846976 := rfl
  rw [e60] at h
  unfold nearS; split <;> omega
end Go.Proofs.YtenekbfnlbipiaaDoor
