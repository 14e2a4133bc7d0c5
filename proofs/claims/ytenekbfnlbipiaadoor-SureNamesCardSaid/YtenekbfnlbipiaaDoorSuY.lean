/- Plain: of whole numbers below 2^53 package sure is sure. -/
import Derived.Test.YtenekbfnlbipiaaDoorSuT
namespace Go.Proofs.YtenekbfnlbipiaaDoor
open Go.RowKit
set_option linter.unusedVariables false
set_option linter.unusedSimpArgs false
set_option maxHeartbeats 4000000
set_option maxRecDepth 100000
/-- What lies between both ends of a product is that product. -/
theorem between_eq {T S D2 m' B : Nat} (hS : 0 < S) (h1 : T * S ≤ D2) (h2 : D2 < (T + 1) * S) (hm : m' < T) (ha : T * S * m' ≤ B * D2) (hb : B * D2 ≤ (T + 1) * S * m') : B = m' := by
  rcases Nat.lt_trichotomy B m' with h | h | h
  · exfalso
    obtain ⟨d, rfl⟩ : ∃ d, m' = d + 1 := ⟨m' - 1, by omega⟩
    have e1 : B * D2 ≤ d * D2 := Nat.mul_le_mul_right _ (by omega)
    have e2 : d * D2 ≤ d * ((T + 1) * S) := Nat.mul_le_mul_left _ (by omega)
    have e3 : T * S * (d + 1) ≤ d * ((T + 1) * S) := by omega
    have e4 : T * S * (d + 1) = T * (d + 1) * S := by ac_rfl
    have e5 : d * ((T + 1) * S) = d * (T + 1) * S := by ac_rfl
    rw [e4, e5] at e3
    have e6 := Nat.le_of_mul_le_mul_right e3 hS
    rw [Nat.mul_add, Nat.mul_add, Nat.mul_comm d T] at e6
    omega
  · exact h
  · exfalso
    have e1 : (m' + 1) * D2 ≤ B * D2 := Nat.mul_le_mul_right _ (by omega)
    have e2 : (m' + 1) * (T * S) ≤ (m' + 1) * D2 := Nat.mul_le_mul_left _ h1
    have e3 : (m' + 1) * (T * S) ≤ (T + 1) * S * m' := by omega
    have e4 : (m' + 1) * (T * S) = (m' + 1) * T * S := by ac_rfl
    have e5 : (T + 1) * S * m' = (T + 1) * m' * S := by ac_rfl
    rw [e4, e5] at e3
    have e6 := Nat.le_of_mul_le_mul_right e3 hS
    rw [Nat.add_mul, Nat.add_mul, Nat.mul_comm m' T] at e6
    omega
/-- Its whole part is one, and something is left. -/
theorem apart_div {T U m' D : Nat} (hD : 0 < D) (hU : T ≤ U) (h : ∀ A, T * m' ≤ A * D → A * D ≤ U * m' → False) :
    T * m' / D = U * m' / D ∧ T * m' % D ≠ 0 ∧ U * m' % D ≠ 0 := by
  have hle : T * m' ≤ U * m' := Nat.mul_le_mul_right _ hU
  have d1 := Nat.div_add_mod (U * m') D
  have d2 := Nat.div_add_mod (T * m') D
  have l1 := Nat.mod_lt (U * m') hD
  have l2 := Nat.mod_lt (T * m') hD
  have q1 : T * m' / D ≤ U * m' / D := Nat.div_le_div_right hle
  have hQ : U * m' / D * D < T * m' := by
    apply Nat.lt_of_not_le
    intro hc
    exact h (U * m' / D) hc (Nat.div_mul_le_self _ _)
  have q2 : U * m' / D ≤ T * m' / D := (Nat.le_div_iff_mul_le hD).2 (Nat.le_of_lt hQ)
  have q3 : T * m' / D = U * m' / D := Nat.le_antisymm q1 q2
  refine ⟨q3, ?_, ?_⟩
  · intro hz
    rw [hz, q3, Nat.mul_comm] at d2
    omega
  · intro hz
    rw [hz, Nat.mul_comm] at d1
    omega
theorem ceil_up {inn : Bool} {v n : Nat} (h : v % 2 ^ n ≠ 0) : ceilS inn v n = v / 2 ^ n + 1 := by unfold ceilS; rw [if_neg (fun hc => h hc.1)]
theorem floor_dn {inn : Bool} {v n : Nat} (h : v % 2 ^ n ≠ 0) : floorS inn v n = v / 2 ^ n := by unfold floorS; rw [if_neg (fun hc => h hc.1)]
/-- The nearest, by adding a half. -/
theorem near_add {v n : Nat} (hn : 1 ≤ n) (h : v % 2 ^ n ≠ 2 ^ (n - 1)) : nearS v n = (v + 2 ^ (n - 1)) / 2 ^ n := by
  have e : 2 ^ n = 2 * 2 ^ (n - 1) := by rw [← Nat.pow_succ']; congr 1; omega
  have hH := Nat.two_pow_pos (n - 1)
  unfold nearS halfS
  rw [e] at h ⊢
  generalize 2 ^ (n - 1) = H at *
  have d := Nat.div_add_mod v (2 * H)
  have l := Nat.mod_lt v (show 0 < 2 * H by omega)
  generalize v % (2 * H) = R at *
  generalize v / (2 * H) = Q at *
  by_cases h1 : R < H
  · rw [if_pos h1, if_neg (fun hc => hc.elim (fun h => absurd h (by decide)) (fun h => absurd h.1 (by decide)))]
    symm
    rw [← d, Nat.add_assoc, Nat.mul_add_div (by omega), Nat.div_eq_of_lt (by omega)]; omega
  · rw [if_neg h1, if_neg h, if_pos (.inl rfl)]
    symm
    rw [← d, Nat.add_assoc, Nat.mul_add_div (by omega), show R + H = (R - H) + 2 * H by omega, Nat.add_div_right _ (by omega), Nat.div_eq_of_lt (by omega)]
theorem near_same {v v' n : Nat} (hn : 1 ≤ n) (hv : v ≤ v') (h : ∀ A, v ≤ (2 * A + 1) * 2 ^ (n - 1) → (2 * A + 1) * 2 ^ (n - 1) ≤ v' → False) : nearS v n = nearS v' n := by
  have e : 2 ^ n = 2 * 2 ^ (n - 1) := by rw [← Nat.pow_succ']; congr 1; omega
  have hH := Nat.two_pow_pos (n - 1)
  have k : ∀ x, x % 2 ^ n = 2 ^ (n - 1) → x = (2 * (x / 2 ^ n) + 1) * 2 ^ (n - 1) := by
    intro x hx
    have d := Nat.div_add_mod x (2 ^ n)
    rw [hx] at d
    rw [Nat.add_mul, Nat.one_mul, Nat.mul_assoc, Nat.mul_left_comm, ← e, Nat.mul_comm]
    exact d.symm
  rw [near_add hn (fun hx => h (v / 2 ^ n) (Nat.le_of_eq (k v hx)) (by rw [← k v hx]; exact hv)), near_add hn (fun hx => h (v' / 2 ^ n) (by rw [← k v' hx]; exact hv) (Nat.le_of_eq (k v' hx).symm))]
  rw [e]
  generalize 2 ^ (n - 1) = H at *
  have l1 : (v + H) / (2 * H) ≤ (v' + H) / (2 * H) := Nat.div_le_div_right (by omega)
  apply Nat.le_antisymm l1
  rw [Nat.le_div_iff_mul_le (by omega)]
  have l2 := Nat.div_mul_le_self (v' + H) (2 * H)
  generalize (v' + H) / (2 * H) = Q at *
  apply Nat.le_of_not_lt
  intro hc
  obtain ⟨A, rfl⟩ : ∃ A, Q = A + 1 := ⟨Q - 1, by
    rcases Q with _ | Q
    · simp at hc
    · rfl⟩
  have eA : (A + 1) * (2 * H) = (2 * A + 1) * H + H := by
    rw [Nat.add_mul, Nat.add_mul, Nat.one_mul, Nat.one_mul, Nat.mul_left_comm, Nat.mul_assoc]; omega
  rw [eA] at l2 hc
  exact h A (by omega) (by omega)
/-- 10^-s between its ends. -/
theorem neg_ends {s : Nat} (hs : 1 ≤ s) (hs2 : s ≤ 400) : ∃ c : Nat, tenE (-(s : Int)) = -(c : Int) ∧ tenN (-(s : Int)) * 10 ^ s ≤ 2 ^ c ∧ 2 ^ c < (tenN (-(s : Int)) + 1) * 10 ^ s := by
  have hf : farB (-(s : Int)) = false := by simp only [farB, Bool.or_eq_false_iff, decide_eq_false_iff_not]; omega
  have hE : tenE (-(s : Int)) ≤ 0 := by unfold tenE; rw [if_pos (by omega)]; omega
  obtain ⟨c, hc⟩ : ∃ c : Nat, c = (-(tenE (-(s : Int)))).toNat := ⟨_, rfl⟩
  have h := ends_at hf c (by omega)
  have e0 : (tenE (-(s : Int)) + (c : Int)).toNat = 0 := by omega
  have e1 : (-(s : Int)).toNat = 0 := by omega
  have e2 : (-(-(s : Int))).toNat = s := by omega
  rw [e0, e1, e2] at h
  simp only [Nat.pow_zero, Nat.mul_one, Nat.one_mul] at h
  exact ⟨c, by omega, h.1, h.2.1⟩
theorem ten_exact : ∀ k : Fin 18, tenX (k.val : Int) = true := by decide +kernel
theorem kB_exact {k : Int} (h0 : 0 ≤ k) (h1 : k ≤ 17) : kB k = tenN k := by
  obtain ⟨j, rfl⟩ : ∃ j : Nat, k = (j : Int) := ⟨k.toNat, by omega⟩
  have := ten_exact ⟨j, by omega⟩
  unfold kB
  rw [this]; rfl
theorem ten_zero : tenN 0 = 2 ^ 127 ∧ tenE 0 = -127 := by decide +kernel
/-- One round, of a whole number: it is sure. -/
theorem whole_round {x m J : Nat} {q P : Int} {inn : Bool} {lo n : Nat} (hm0 : 0 < m) (hm : m < 9007199254740992) (hq : q ≤ 0) (hJ : J = 2 ^ (2 - q).toNat) (hx : 4 * m = x * J) (hlo : lo = 4 * m - 2 ∨ lo = 4 * m - 1) (hP0 : 0 ≤ P) (hP : P ≤ 16) (hn1 : 1 ≤ n) (hn : (n : Int) ≤ P + 1) :
    roundS m q P inn lo n ≠ some none ∧ ((n : Int) = P + 1 → roundS m q P inn lo n ≠ none) := by
  have hj2 : ∃ J2, J = 4 * J2 ∧ 0 < J2 := by
    refine ⟨2 ^ ((2 - q).toNat - 2), ?_, Nat.two_pow_pos _⟩
    rw [hJ, show (4 : Nat) = 2 ^ 2 from rfl, ← Nat.pow_add]; congr 1; omega
  obtain ⟨J2, hJ2, hJ2p⟩ := hj2
  by_cases hk : (n : Int) = P + 1
  · -- the number itself
    have hkS : kS P n = 0 := by unfold kS; omega
    have hNS : 2 ^ NS q P n = 2 ^ 127 * J := by
      unfold NS; rw [hkS, ten_zero.2, hJ, ← Nat.pow_add]; congr 1; omega
    have hkB : kB (kS P n) = tenN (kS P n) := kB_exact (by omega) (by omega)
    have hne : roundS m q P inn lo n = some (some (max (ceilS inn (loE P n lo) (NS q P n)) (min (floorS inn (loE P n (4 * m + 2)) (NS q P n)) (nearS (loE P n (4 * m)) (NS q P n))))) := by
      have hhi : ∀ z, hiE P n z = loE P n z := by intro z; unfold hiE loE; rw [hkB]
      have hr : ∀ z, z % J ≠ 0 → loE P n z % 2 ^ NS q P n ≠ 0 ∧ loE P n z / 2 ^ NS q P n = z / J := by
        intro z hz
        unfold loE
        rw [hkS, ten_zero.1, hNS]
        refine ⟨?_, Nat.mul_div_mul_left _ _ (Nat.two_pow_pos _)⟩
        rw [Nat.mul_mod_mul_left]
        exact Nat.pos_iff_ne_zero.1 (Nat.mul_pos (Nat.two_pow_pos _) (Nat.pos_of_ne_zero hz))
      have hx0 : 0 < x := by
        rcases Nat.eq_zero_or_pos x with h | h
        · rw [h, Nat.zero_mul] at hx; omega
        · exact h
      obtain ⟨y, rfl⟩ : ∃ y, x = y + 1 := ⟨x - 1, by omega⟩
      rw [Nat.add_mul, Nat.one_mul] at hx
      have hl : lo % J ≠ 0 ∧ lo / J = y := by
        have e : ∃ r, lo = J * y + r ∧ 0 < r ∧ r < J := by
          rw [Nat.mul_comm]
          rcases hlo with h | h
          · exact ⟨J - 2, by omega, by omega, by omega⟩
          · exact ⟨J - 1, by omega, by omega, by omega⟩
        obtain ⟨r, e1, e2, e3⟩ := e
        rw [e1, Nat.mul_add_mod, Nat.mod_eq_of_lt e3, Nat.mul_add_div (by omega), Nat.div_eq_of_lt e3]
        exact ⟨by omega, rfl⟩
      have hh : (4 * m + 2) % J ≠ 0 ∧ (4 * m + 2) / J = y + 1 := by
        have e1 : 4 * m + 2 = J * (y + 1) + 2 := by rw [Nat.mul_add, Nat.mul_comm J y]; omega
        rw [e1, Nat.mul_add_mod, Nat.mod_eq_of_lt (by omega), Nat.mul_add_div (by omega), Nat.div_eq_of_lt (by omega)]
        exact ⟨by decide, rfl⟩
      have c1 : ceilS inn (loE P n lo) (NS q P n) = y + 1 := by rw [ceil_up (hr _ hl.1).1, (hr _ hl.1).2, hl.2]
      have f1 : floorS inn (loE P n (4 * m + 2)) (NS q P n) = y + 1 := by rw [floor_dn (hr _ hh.1).1, (hr _ hh.1).2, hh.2]
      unfold roundS someS
      rw [hhi, hhi, hhi, if_pos ⟨rfl, rfl⟩, if_neg (by rw [c1, f1]; omega), if_pos rfl]
    rw [hne]
    exact ⟨by simp, by simp⟩
  · -- beyond the comma of its power of ten
    refine ⟨?_, fun h => absurd h hk⟩
    obtain ⟨s, hs⟩ : ∃ s : Nat, (s : Int) = P + 1 - n := ⟨(P + 1 - n).toNat, by omega⟩
    have hkS : kS P n = -(s : Int) := by unfold kS; omega
    obtain ⟨c, hE, t1, t2⟩ := neg_ends (s := s) (by omega) (by omega)
    have hf : farB (-(s : Int)) = false := by simp only [farB, Bool.or_eq_false_iff, decide_eq_false_iff_not]; omega
    have hT := (tenN_bd hf).1
    have hU : tenN (-(s : Int)) ≤ kB (-(s : Int)) ∧ kB (-(s : Int)) ≤ tenN (-(s : Int)) + 1 := by
      unfold kB; split <;> omega
    have hN : NS q P n = c + (2 - q).toNat := by unfold NS; rw [hkS, hE]; omega
    have hD : 2 ^ NS q P n = 2 ^ c * J := by rw [hN, Nat.pow_add, hJ]
    have hN1 : 1 ≤ NS q P n := by rw [hN]; omega
    have hDp : 0 < 2 ^ NS q P n := Nat.two_pow_pos _
    have hH : 2 ^ (NS q P n - 1) = 2 ^ c * (2 * J2) := by
      have e : 2 ^ NS q P n = 2 * 2 ^ (NS q P n - 1) := by rw [← Nat.pow_succ']; congr 1; omega
      rw [hD, hJ2] at e
      have : 2 ^ c * (4 * J2) = 2 * (2 ^ c * (2 * J2)) := by rw [show (4 : Nat) = 2 * 2 from rfl]; ac_rfl
      omega
    have hS := ten_pos s
    have hTm : 4 * m + 2 < tenN (-(s : Int)) := by
      have e127 : (2 : Nat) ^ 127 = 170141183460469231731687303715884105728 := rfl
      rw [e127] at hT; omega
    unfold roundS someS loE hiE
    rw [hkS]
    generalize tenN (-(s : Int)) = T at *
    generalize kB (-(s : Int)) = U at *
    generalize NS q P n = N at *
    clear hE hkS hN hJ hs
    -- an end of the reach
    have hap : ∀ m', m' % 4 ≠ 0 → m' ≤ 4 * m + 2 → ∀ A, T * m' ≤ A * 2 ^ N → A * 2 ^ N ≤ U * m' → False := by
      intro m' h4 hle A ha hb
      have hb2 : A * 2 ^ N ≤ (T + 1) * m' := Nat.le_trans hb (Nat.mul_le_mul_right _ hU.2)
      rw [hD] at ha hb2
      have e1 := Nat.mul_le_mul_right (10 ^ s) ha
      have e2 := Nat.mul_le_mul_right (10 ^ s) hb2
      have e3 : A * (2 ^ c * J) * 10 ^ s = A * J * 10 ^ s * 2 ^ c := by ac_rfl
      rw [e3] at e1 e2
      have := between_eq (B := A * J * 10 ^ s) (m' := m') hS t1 t2 (by omega) (by rw [show T * 10 ^ s * m' = T * m' * 10 ^ s by ac_rfl]; exact e1) (by rw [show (T + 1) * 10 ^ s * m' = (T + 1) * m' * 10 ^ s by ac_rfl]; exact e2)
      rw [hJ2, show A * (4 * J2) * 10 ^ s = 4 * (A * J2 * 10 ^ s) by ac_rfl] at this
      omega
    have hl4 : lo % 4 ≠ 0 ∧ lo ≤ 4 * m + 2 ∧ 4 * m - 2 ≤ lo := by omega
    obtain ⟨a1, a2, a3⟩ := apart_div hDp hU.1 (hap lo hl4.1 hl4.2.1)
    obtain ⟨b1, b2, b3⟩ := apart_div hDp hU.1 (hap (4 * m + 2) (by omega) (Nat.le_refl _))
    rw [ceil_up a2, ceil_up a3, floor_dn b2, floor_dn b3, if_pos ⟨by rw [a1], b1⟩]
    by_cases hlt : T * (4 * m + 2) / 2 ^ N < T * lo / 2 ^ N + 1
    · rw [if_pos hlt]; simp
    · rw [if_neg hlt]
      -- the number is a multiple of that power of ten
      have hA1 : T * (4 * m + 2) / 2 ^ N * 2 ^ N ≤ T * (4 * m + 2) := Nat.div_mul_le_self _ _
      have hA2 : T * lo < T * (4 * m + 2) / 2 ^ N * 2 ^ N := by
        have e1 : T * lo < (T * lo / 2 ^ N + 1) * 2 ^ N := by
          have := Nat.lt_mul_div_succ (T * lo) hDp
          rw [Nat.mul_comm (T * lo / 2 ^ N + 1)]; exact this
        exact Nat.lt_of_lt_of_le e1 (Nat.mul_le_mul_right _ (by omega))
      generalize T * (4 * m + 2) / 2 ^ N = A at *
      have hB : A * J * 10 ^ s = 4 * m := by
        rw [hD] at hA1 hA2
        have e1 := Nat.mul_le_mul_right (10 ^ s) hA1
        have e2 := Nat.mul_le_mul_right (10 ^ s) (Nat.le_of_lt hA2)
        have e3 : A * (2 ^ c * J) * 10 ^ s = A * J * 10 ^ s * 2 ^ c := by ac_rfl
        rw [e3] at e1 e2
        have h4 : ∃ z, A * J * 10 ^ s = 4 * z := ⟨A * J2 * 10 ^ s, by rw [hJ2]; ac_rfl⟩
        obtain ⟨z, hz⟩ := h4
        generalize A * J * 10 ^ s = B at *
        have u1 : B ≤ 4 * m + 2 := by
          have : B * 2 ^ c ≤ (4 * m + 2) * 2 ^ c := by
            refine Nat.le_trans e1 ?_
            rw [show T * (4 * m + 2) * 10 ^ s = (4 * m + 2) * (T * 10 ^ s) by ac_rfl]
            exact Nat.mul_le_mul_left _ t1
          exact Nat.le_of_mul_le_mul_right this (Nat.two_pow_pos _)
        have u2 : lo ≤ B := by
          apply Nat.le_of_not_lt
          intro hc
          obtain ⟨d, hd⟩ : ∃ d, lo = d + 1 := ⟨lo - 1, by omega⟩
          have g1 : B * 2 ^ c ≤ d * 2 ^ c := Nat.mul_le_mul_right _ (by omega)
          have g2 : d * 2 ^ c ≤ d * ((T + 1) * 10 ^ s) := Nat.mul_le_mul_left _ (Nat.le_of_lt t2)
          have g3 : T * lo * 10 ^ s ≤ d * (T + 1) * 10 ^ s := by
            rw [show d * (T + 1) * 10 ^ s = d * ((T + 1) * 10 ^ s) by ac_rfl]; omega
          have g4 := Nat.le_of_mul_le_mul_right g3 hS
          rw [hd, Nat.mul_add, Nat.mul_add, Nat.mul_comm d T] at g4
          omega
        omega
      have hxA : x = A * 10 ^ s := by
        have : x * J = A * 10 ^ s * J := by rw [← hx, ← hB]; ac_rfl
        exact Nat.mul_right_cancel (by omega) this
      have hnear : nearS (T * (4 * m)) N = nearS (U * (4 * m)) N := by
        refine near_same hN1 (Nat.mul_le_mul_right _ hU.1) fun Z h1 h2 => ?_
        have h3 : (2 * Z + 1) * 2 ^ (N - 1) ≤ (T + 1) * (4 * m) := Nat.le_trans h2 (Nat.mul_le_mul_right _ hU.2)
        rw [hH] at h1 h3
        have e1 := Nat.mul_le_mul_right (10 ^ s) h1
        have e2 := Nat.mul_le_mul_right (10 ^ s) h3
        have e3 : (2 * Z + 1) * (2 ^ c * (2 * J2)) * 10 ^ s = (2 * Z + 1) * (2 * J2) * 10 ^ s * 2 ^ c := by ac_rfl
        rw [e3] at e1 e2
        have := between_eq (B := (2 * Z + 1) * (2 * J2) * 10 ^ s) (m' := 4 * m) hS t1 t2 (by omega) (by rw [show T * 10 ^ s * (4 * m) = T * (4 * m) * 10 ^ s by ac_rfl]; exact e1) (by rw [show (T + 1) * 10 ^ s * (4 * m) = (T + 1) * (4 * m) * 10 ^ s by ac_rfl]; exact e2)
        rw [hx, hxA, hJ2] at this
        have e4 : (2 * Z + 1) * (2 * J2) * 10 ^ s = (2 * Z + 1) * (2 * J2 * 10 ^ s) := by ac_rfl
        have e5 : A * 10 ^ s * (4 * J2) = 2 * A * (2 * J2 * 10 ^ s) := by rw [show (4 : Nat) = 2 * 2 from rfl]; ac_rfl
        rw [e4, e5] at this
        have := Nat.mul_right_cancel (Nat.mul_pos (by omega) hS) this
        omega
      rw [if_pos hnear]
      simp
theorem whole_dig {x m J : Nat} {q P : Int} {inn : Bool} {lo : Nat} (hm0 : 0 < m) (hm : m < 9007199254740992) (hq : q ≤ 0) (hJ : J = 2 ^ (2 - q).toNat) (hx : 4 * m = x * J) (hlo : lo = 4 * m - 2 ∨ lo = 4 * m - 1) (hP0 : 0 ≤ P) (hP : P ≤ 16) :
    ∃ r, digS m q P inn lo 17 1 = some r := by
  have key : ∀ (fuel n : Nat), n + fuel = 18 → 1 ≤ n → (n : Int) ≤ P + 1 → ∃ r, digS m q P inn lo fuel n = some r := by
    intro fuel
    induction fuel with
    | zero => intro n h1 h2 h3; omega
    | succ fuel ih =>
      intro n h1 h2 h3
      obtain ⟨g1, g2⟩ := whole_round (inn := inn) (n := n) hm0 hm hq hJ hx hlo hP0 hP h2 h3
      unfold digS
      cases hr : roundS m q P inn lo n with
      | none => exact ih (n + 1) (by omega) (by omega) (by have : ¬ (n : Int) = P + 1 := fun h => g2 h hr
                                                           omega)
      | some o => cases o with
        | none => exact absurd hr g1
        | some y => exact ⟨_, rfl⟩
  exact key 17 1 rfl (Nat.le_refl _) (by omega)
theorem whole_some {m : Nat} {q P : Int} {n : Nat} (hn : P + 1 ≤ (n : Int)) (hn2 : (n : Int) ≤ P + 18) : ∃ r, someS m q P n = some r := by
  unfold someS hiE loE
  rw [kB_exact (by unfold kS; omega) (by unfold kS; omega), if_pos rfl]
  exact ⟨_, rfl⟩
end Go.Proofs.YtenekbfnlbipiaaDoor
