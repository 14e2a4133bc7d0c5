/- Plain: a power of ten between its ends (for package sure). -/
import Derived.Test.YtenekbfnlbipiaaDoorPl2
namespace Go.Proofs.YtenekbfnlbipiaaDoor
/-- The two sides of 'T 2^e against 10^k', without fractions. -/
def lhsT (v : Nat) (k : Int) : Nat := v * 2 ^ (tenE k).toNat * 10 ^ (-k).toNat
def rhsT (k : Int) : Nat := 10 ^ k.toNat * 2 ^ (-(tenE k)).toNat
def endsT (k : Int) : Bool := decide (lhsT (tenN k) k ≤ rhsT k) && decide (rhsT k < lhsT (tenN k + 1) k) && (decide (lhsT (tenN k) k = rhsT k) == tenX k)
theorem ends_all : ∀ j : Fin 401, endsT (j.val : Int) = true ∧ endsT (-((j.val + 1 : Nat) : Int)) = true := by decide +kernel
theorem ends_ten {k : Int} (h : farB k = false) : lhsT (tenN k) k ≤ rhsT k ∧ rhsT k < lhsT (tenN k + 1) k ∧ (lhsT (tenN k) k = rhsT k ↔ tenX k = true) := by
  have hk : endsT k = true := by
    rcases ten_cases h with ⟨j, hj, rfl⟩ | ⟨j, h1, hj, rfl⟩
    · exact (ends_all ⟨j, by omega⟩).1
    · have := (ends_all ⟨j - 1, by omega⟩).2
      simp only [Nat.sub_add_cancel h1] at this
      exact this
  unfold endsT at hk
  simp only [Bool.and_eq_true, decide_eq_true_eq, beq_iff_eq] at hk
  obtain ⟨⟨h1, h2⟩, h3⟩ := hk
  refine ⟨h1, h2, ?_⟩
  rw [← h3, decide_eq_true_eq]
/-- Is 'm 2^q' below '10^p'? -/
def underB (m : Nat) (q p : Int) : Bool := decide (m * 2 ^ q.toNat * 10 ^ (-p).toNat < 10 ^ p.toNat * 2 ^ (-q).toNat)
/-- The first bit's exponent of two. -/
def topI (m : Nat) (q : Int) : Int := q + (bitLen m : Int) - 1
/-- What the code asks. -/
def belowS (m : Nat) (q p : Int) : Bool :=
  if topI m q ≠ tenE p + 127 then decide (topI m q < tenE p + 127)
  else decide (m * 2 ^ (64 - bitLen m) < tenN p / 2 ^ 64) || (decide (m * 2 ^ (64 - bitLen m) = tenN p / 2 ^ 64) && (decide (tenN p % 2 ^ 64 ≠ 0) || !tenX p))
theorem up_lt (x a R P b d : Nat) : x * 2 ^ a * R < P * 2 ^ b ↔ x * 2 ^ (a + d) * R < P * 2 ^ (b + d) := by
  have e1 : x * 2 ^ (a + d) * R = x * 2 ^ a * R * 2 ^ d := by rw [Nat.pow_add]; ac_rfl
  have e2 : P * 2 ^ (b + d) = P * 2 ^ b * 2 ^ d := by rw [Nat.pow_add]; ac_rfl
  rw [e1, e2]
  exact (Nat.mul_lt_mul_right (Nat.two_pow_pos d)).symm
theorem up_le (x a R P b d : Nat) : x * 2 ^ a * R ≤ P * 2 ^ b ↔ x * 2 ^ (a + d) * R ≤ P * 2 ^ (b + d) := by
  have e1 : x * 2 ^ (a + d) * R = x * 2 ^ a * R * 2 ^ d := by rw [Nat.pow_add]; ac_rfl
  have e2 : P * 2 ^ (b + d) = P * 2 ^ b * 2 ^ d := by rw [Nat.pow_add]; ac_rfl
  rw [e1, e2]
  exact (Nat.mul_le_mul_right_iff (Nat.two_pow_pos d)).symm
theorem up_eq (x a R P b d : Nat) : x * 2 ^ a * R = P * 2 ^ b ↔ x * 2 ^ (a + d) * R = P * 2 ^ (b + d) := by
  have e1 : x * 2 ^ (a + d) * R = x * 2 ^ a * R * 2 ^ d := by rw [Nat.pow_add]; ac_rfl
  have e2 : P * 2 ^ (b + d) = P * 2 ^ b * 2 ^ d := by rw [Nat.pow_add]; ac_rfl
  rw [e1, e2]
  exact (Nat.mul_left_inj (Nat.pos_iff_ne_zero.1 (Nat.two_pow_pos d))).symm
/-- The ends of 10^k at a common power of two. -/
theorem ends_at {k : Int} (h : farB k = false) (c : Nat) (hc : 0 ≤ tenE k + (c : Int)) :
    tenN k * 2 ^ (tenE k + c).toNat * 10 ^ (-k).toNat ≤ 10 ^ k.toNat * 2 ^ c ∧ 10 ^ k.toNat * 2 ^ c < (tenN k + 1) * 2 ^ (tenE k + c).toNat * 10 ^ (-k).toNat ∧
      (tenN k * 2 ^ (tenE k + c).toNat * 10 ^ (-k).toNat = 10 ^ k.toNat * 2 ^ c ↔ tenX k = true) := by
  obtain ⟨h1, h2, h3⟩ := ends_ten h
  unfold lhsT rhsT at h1 h2 h3
  obtain ⟨d, hd⟩ : ∃ d : Nat, c = (-(tenE k)).toNat + d := ⟨c - (-(tenE k)).toNat, by omega⟩
  have he : (tenE k + (c : Int)).toNat = (tenE k).toNat + d := by omega
  rw [he, hd]
  refine ⟨(up_le _ _ _ _ _ d).1 h1, ?_, (up_eq _ _ _ _ _ d).symm.trans h3⟩
  rw [← Nat.not_le] at h2 ⊢
  exact fun h => h2 ((up_le _ _ _ _ _ d).2 h)
theorem under_at (m : Nat) (q p : Int) (c : Nat) (hc : 0 ≤ q + (c : Int)) : underB m q p = decide (m * 2 ^ (q + c).toNat * 10 ^ (-p).toNat < 10 ^ p.toNat * 2 ^ c) := by
  unfold underB
  obtain ⟨d, hd⟩ : ∃ d : Nat, c = (-q).toNat + d := ⟨c - (-q).toNat, by omega⟩
  have he : (q + (c : Int)).toNat = q.toNat + d := by omega
  rw [he, hd]
  exact decide_eq_decide.2 (up_lt _ _ _ _ _ d)
end Go.Proofs.YtenekbfnlbipiaaDoor
namespace Go.Proofs.YtenekbfnlbipiaaDoor
theorem bitLen_bd {m : Nat} (h : m ≠ 0) : 2 ^ (bitLen m - 1) ≤ m ∧ m < 2 ^ bitLen m ∧ 1 ≤ bitLen m := by
  unfold bitLen
  rw [if_neg h]
  exact ⟨Nat.log2_self_le h, Nat.lt_log2_self, Nat.succ_le_succ (Nat.zero_le _)⟩
theorem ten_pos (n : Nat) : 0 < 10 ^ n := Nat.pow_pos (by decide)
theorem below_eq {m : Nat} {q p : Int} (h0 : m ≠ 0) (hL : bitLen m ≤ 64) (hf : farB p = false) : belowS m q p = underB m q p := by
  obtain ⟨b1, b2, b3⟩ := bitLen_bd h0
  obtain ⟨t1, t2⟩ := tenN_bd hf
  obtain ⟨c, hc⟩ : ∃ c : Nat, c = (-q).toNat + (-(tenE p)).toNat := ⟨_, rfl⟩
  have hq : 0 ≤ q + (c : Int) := by omega
  have hE : 0 ≤ tenE p + (c : Int) := by omega
  obtain ⟨e1, e2, e3⟩ := ends_at hf c hE
  rw [under_at m q p c hq]
  unfold belowS topI
  generalize hL' : bitLen m = L at b1 b2 b3 hL ⊢
  obtain ⟨a, ha⟩ : ∃ a : Nat, a = (q + (c : Int)).toNat := ⟨_, rfl⟩
  obtain ⟨b, hb⟩ : ∃ b : Nat, b = (tenE p + (c : Int)).toNat := ⟨_, rfl⟩
  rw [← ha]
  rw [← hb] at e1 e2 e3
  have hR := ten_pos (-p).toNat
  generalize 10 ^ (-p).toNat = R at e1 e2 e3 hR ⊢
  generalize 10 ^ p.toNat * 2 ^ c = P at e1 e2 e3 ⊢
  generalize tenN p = T at t1 t2 e1 e2 e3 ⊢
  generalize tenX p = X at e3 ⊢
  by_cases ht : q + (L : Int) - 1 = tenE p + 127
  · rw [if_neg (by simpa using ht)]
    have hab : a = b + 64 + (64 - L) := by omega
    have hM : m * 2 ^ a * R = m * 2 ^ (64 - L) * 2 ^ 64 * (2 ^ b * R) := by
      rw [hab, Nat.pow_add, Nat.pow_add]; ac_rfl
    rw [hM]
    have hK : 0 < 2 ^ b * R := Nat.mul_pos (Nat.two_pow_pos b) hR
    rw [Nat.mul_assoc] at e1 e2 e3
    generalize 2 ^ b * R = K at e1 e2 e3 hK ⊢
    generalize m * 2 ^ (64 - L) = M
    have hd := Nat.div_add_mod T (2 ^ 64)
    have hlo := Nat.mod_lt T (Nat.two_pow_pos 64)
    generalize T / 2 ^ 64 = H at hd ⊢
    generalize T % 2 ^ 64 = lo at hd hlo ⊢
    have h64 : (2 : Nat) ^ 64 = 18446744073709551616 := rfl
    rw [h64] at hd hlo ⊢
    rcases Nat.lt_trichotomy M H with h | h | h
    · have h1 : M * 18446744073709551616 + 1 ≤ T := by omega
      have h2 := Nat.mul_le_mul_right K h1
      have h3 : M * 18446744073709551616 * K < P := by
        rw [Nat.add_mul] at h2; omega
      rw [decide_eq_true h, decide_eq_true h3]; rfl
    · subst h
      rw [decide_eq_false (Nat.lt_irrefl M), decide_eq_true (rfl : M = M)]
      by_cases hz : lo = 0
      · have hT : M * 18446744073709551616 = T := by omega
        rw [hT, decide_eq_false (by omega : ¬ lo ≠ 0)]
        cases X
        · have : T * K < P := by
            rcases Nat.lt_or_eq_of_le e1 with h | h
            · exact h
            · simp at e3; exact absurd h e3
          rw [decide_eq_true this]; rfl
        · have : ¬ T * K < P := by
            have := e3.2 rfl; omega
          rw [decide_eq_false this]; rfl
      · have h1 : M * 18446744073709551616 + 1 ≤ T := by omega
        have h2 := Nat.mul_le_mul_right K h1
        have h3 : M * 18446744073709551616 * K < P := by
          rw [Nat.add_mul] at h2; omega
        rw [decide_eq_true h3, decide_eq_true hz]; rfl
    · have h1 : T + 1 ≤ M * 18446744073709551616 := by omega
      have h2 := Nat.mul_le_mul_right K h1
      rw [decide_eq_false (by omega : ¬ M < H), decide_eq_false (by omega : ¬ M = H), decide_eq_false (by omega : ¬ M * 18446744073709551616 * K < P)]; rfl
  · rw [if_pos ht]
    by_cases hlt : q + (L : Int) - 1 < tenE p + 127
    · have h1 : L + a ≤ 127 + b := by omega
      have h2 : m * 2 ^ a + 1 ≤ T * 2 ^ b := by
        have h3 : m * 2 ^ a < 2 ^ L * 2 ^ a := (Nat.mul_lt_mul_right (Nat.two_pow_pos a)).2 b2
        have h4 : 2 ^ 127 * 2 ^ b ≤ T * 2 ^ b := Nat.mul_le_mul_right _ t1
        rw [← Nat.pow_add] at h3 h4
        have h5 : 2 ^ (L + a) ≤ 2 ^ (127 + b) := Nat.pow_le_pow_right (by decide) h1
        omega
      have h3 := Nat.mul_le_mul_right R h2
      rw [Nat.add_mul] at h3
      rw [decide_eq_true hlt, decide_eq_true (by omega : m * 2 ^ a * R < P)]
    · have h1 : 128 + b ≤ L - 1 + a := by omega
      have h2 : (T + 1) * 2 ^ b ≤ m * 2 ^ a := by
        have h3 : 2 ^ (L - 1) * 2 ^ a ≤ m * 2 ^ a := Nat.mul_le_mul_right _ b1
        have h4 : (T + 1) * 2 ^ b ≤ 2 ^ 128 * 2 ^ b := Nat.mul_le_mul_right _ t2
        rw [← Nat.pow_add] at h3 h4
        have h5 : 2 ^ (128 + b) ≤ 2 ^ (L - 1 + a) := Nat.pow_le_pow_right (by decide) h1
        omega
      have h3 := Nat.mul_le_mul_right R h2
      rw [decide_eq_false hlt, decide_eq_false (by omega : ¬ m * 2 ^ a * R < P)]
/-- Below a power of ten, below the greater ones. -/
theorem under_mono {m : Nat} {q p p' : Int} (h : p ≤ p') (hu : underB m q p = true) : underB m q p' = true := by
  unfold underB at hu ⊢
  rw [decide_eq_true_eq] at hu ⊢
  obtain ⟨d, hd⟩ : ∃ d : Nat, p' = p + d := ⟨(p' - p).toNat, by omega⟩
  -- 10^p'.toNat * 10^(-p).toNat = 10^p.toNat * 10^(-p').toNat * 10^d
  have e : p'.toNat + (-p).toNat = p.toNat + (-p').toNat + d := by omega
  have h1 : 10 ^ p'.toNat * 10 ^ (-p).toNat = 10 ^ p.toNat * 10 ^ (-p').toNat * 10 ^ d := by
    rw [← Nat.pow_add, e, Nat.pow_add, Nat.pow_add]
  have h2 := (Nat.mul_lt_mul_right (ten_pos (-p').toNat)).2 hu
  have h3 : 0 < 10 ^ (-p).toNat := ten_pos _
  rw [← Nat.mul_lt_mul_right h3]
  have h4 : 1 ≤ 10 ^ d := ten_pos d
  calc m * 2 ^ q.toNat * 10 ^ (-p').toNat * 10 ^ (-p).toNat
      = m * 2 ^ q.toNat * 10 ^ (-p).toNat * 10 ^ (-p').toNat := by ac_rfl
    _ < 10 ^ p.toNat * 2 ^ (-q).toNat * 10 ^ (-p').toNat := h2
    _ ≤ 10 ^ p.toNat * 2 ^ (-q).toNat * 10 ^ (-p').toNat * 10 ^ d := Nat.le_mul_of_pos_right _ h4
    _ = 10 ^ p'.toNat * 2 ^ (-q).toNat * 10 ^ (-p).toNat := by
        rw [Nat.mul_right_comm (10 ^ p'.toNat), h1]; ac_rfl
/-- Its first digit counts 10 to the power of P. -/
def IsFirst (m : Nat) (q P : Int) : Prop := underB m q P = false ∧ underB m q (P + 1) = true
theorem IsFirst.iff {m : Nat} {q P : Int} (h : IsFirst m q P) (p : Int) : underB m q p = decide (P < p) := by
  by_cases hp : P < p
  · rw [decide_eq_true hp]; exact under_mono (by omega) h.2
  · rw [decide_eq_false hp]
    cases hb : underB m q p with
    | false => rfl
    | true => have := under_mono (p' := P) (by omega) hb; rw [h.1] at this; exact absurd this (by decide)
/-- There is one, between two bounds. -/
theorem first_ex {m : Nat} {q : Int} (lo : Int) (n : Nat) (h1 : underB m q lo = false) (h2 : underB m q (lo + n) = true) : ∃ P, IsFirst m q P ∧ lo ≤ P ∧ P < lo + n := by
  induction n with
  | zero => rw [show lo + ((0 : Nat) : Int) = lo by omega, h1] at h2; exact absurd h2 (by decide)
  | succ n ih =>
    cases hb : underB m q (lo + n) with
    | true => obtain ⟨P, hP, h3, h4⟩ := ih hb; exact ⟨P, hP, h3, by omega⟩
    | false => exact ⟨lo + n, ⟨hb, by rw [show lo + (n : Int) + 1 = lo + ((n + 1 : Nat) : Int) by omega]; exact h2⟩, by omega, by omega⟩
def eLo : Nat := 1074
def eHi : Nat := 971
def eTen : Nat := 350
theorem efar_lo : 2 ^ eLo ≤ 10 ^ eTen := by decide +kernel
theorem efar_hi : 2 ^ 53 * 2 ^ eHi ≤ 10 ^ eTen := by decide +kernel
/-- The floats of the forms lie between 10^-350 and 10^350. -/
theorem first_form {m : Nat} {q : Int} (h0 : m ≠ 0) (hm : m < 2 ^ 53) (hq : -1074 ≤ q) (hq2 : q ≤ 971) : ∃ P, IsFirst m q P ∧ -350 ≤ P ∧ P < 350 := by
  have h1 : underB m q (-350) = false := by
    unfold underB
    rw [decide_eq_false_iff_not, Nat.not_lt]
    have e1 : (-(-350 : Int)).toNat = eTen := rfl
    have e2 : (-350 : Int).toNat = 0 := rfl
    have e3 : (-q).toNat ≤ eLo := by unfold eLo; omega
    rw [e1, e2]
    have h2 : 2 ^ (-q).toNat ≤ 2 ^ eLo := Nat.pow_le_pow_right (by decide) e3
    have h3 := efar_lo
    have h4 : 1 * 1 ≤ m * 2 ^ q.toNat := Nat.mul_le_mul (Nat.pos_of_ne_zero h0) (Nat.two_pow_pos _)
    have h5 := Nat.mul_le_mul_right (10 ^ eTen) h4
    generalize 10 ^ eTen = t at *
    generalize 2 ^ eLo = t2 at *
    omega
  have h2 : underB m q (-350 + (700 : Nat)) = true := by
    unfold underB
    rw [decide_eq_true_eq]
    have e1 : (-(-350 + ((700 : Nat) : Int))).toNat = 0 := rfl
    have e2 : (-350 + ((700 : Nat) : Int)).toNat = eTen := rfl
    have e3 : q.toNat ≤ eHi := by unfold eHi; omega
    rw [e1, e2]
    have h2 : 2 ^ q.toNat ≤ 2 ^ eHi := Nat.pow_le_pow_right (by decide) e3
    have h3 := efar_hi
    have h4 : m * 2 ^ q.toNat < 2 ^ 53 * 2 ^ eHi := Nat.lt_of_lt_of_le ((Nat.mul_lt_mul_right (Nat.two_pow_pos _)).2 hm) (Nat.mul_le_mul_left _ h2)
    have h5 := Nat.two_pow_pos (-q).toNat
    have h6 := Nat.le_mul_of_pos_right (10 ^ eTen) h5
    generalize 2 ^ 53 * 2 ^ eHi = t2 at *
    generalize 10 ^ eTen * 2 ^ (-q).toNat = t3 at *
    generalize 10 ^ eTen = t at *
    omega
  obtain ⟨P, hP, h3, h4⟩ := first_ex (-350) 700 h1 h2
  exact ⟨P, hP, h3, by omega⟩
end Go.Proofs.YtenekbfnlbipiaaDoor
