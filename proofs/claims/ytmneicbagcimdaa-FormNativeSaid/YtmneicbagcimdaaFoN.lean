/- Floats of Go: which class the comparisons tell; bits of floats. -/
import Derived.Test.YtmneicbagcimdaaFoK
import Derived.Laws.Cover2
import Derived.Laws.Externs
namespace Go.Proofs.Ytmneicbagcimdaa
open Go.RowKit
set_option linter.unusedVariables false
set_option linter.unusedSimpArgs false
set_option maxHeartbeats 4000000
set_option maxRecDepth 100000


theorem cmp_zero (a b : Int) (n : Nat) (hb : b = 0) (ha : a = 0 ↔ n = 0) : ((some (compare a b) : Option Ordering) == some .eq) = decide (n = 0) := by
  subst hb
  by_cases h : n = 0
  · rw [decide_eq_true h, ha.2 h]; rfl
  · rw [decide_eq_false h]
    have h2 : a ≠ 0 := fun h3 => h (ha.1 h3)
    have h3 : compare a 0 ≠ .eq := fun h4 => h2 (by simpa using h4)
    simpa using h3
theorem sig_pos (s : Bool) (m k : Nat) (hm : 0 < m) : ((some (compare (Ieee.signed s m k) (Ieee.signed false 0 0)) : Option Ordering) == some .eq) = false := by
  have h0 : 0 < m <<< k := by rw [Nat.shiftLeft_eq]; exact Nat.mul_pos hm (Nat.two_pow_pos k)
  have h : Ieee.signed s m k ≠ Ieee.signed false 0 0 := by
    unfold Ieee.signed
    simp only [Nat.zero_shiftLeft]
    cases s <;> simp <;> omega
  have h3 : compare (Ieee.signed s m k) (Ieee.signed false 0 0) ≠ .eq := fun h4 => h (by simpa using h4)
  simpa using h3
theorem max_gt (s : Bool) (m M k : Nat) (hm : m ≤ M) {b : Bool} : ((some (compare (Ieee.signed s m 0) (Ieee.signed false M k)) : Option Ordering) == some .gt) = (false && b) := by
  have h0 : M ≤ M * 2 ^ k := Nat.le_mul_of_pos_right _ (Nat.two_pow_pos k)
  have h : Ieee.signed s m 0 ≤ Ieee.signed false M k := by
    unfold Ieee.signed
    simp only [Nat.shiftLeft_eq, Nat.pow_zero, Nat.mul_one]
    generalize M * 2 ^ k = z at *
    cases s <;> simp only [if_true, Bool.false_eq_true, if_false] <;> omega
  have h3 : compare (Ieee.signed s m 0) (Ieee.signed false M k) ≠ .gt := fun h4 => by
    rw [Int.compare_eq_gt] at h4; omega
  rw [Bool.false_and]
  simpa using h3
theorem max_lt (s : Bool) (m M k : Nat) (hm : m ≤ M) {b : Bool} : ((some (compare (Ieee.signed s m 0) (Ieee.signed true M k)) : Option Ordering) == some .lt) = (false && b) := by
  have h0 : M ≤ M * 2 ^ k := Nat.le_mul_of_pos_right _ (Nat.two_pow_pos k)
  have h : Ieee.signed true M k ≤ Ieee.signed s m 0 := by
    unfold Ieee.signed
    simp only [Nat.shiftLeft_eq, Nat.pow_zero, Nat.mul_one]
    generalize M * 2 ^ k = z at *
    cases s <;> simp only [if_true, Bool.false_eq_true, if_false] <;> omega
  have h3 : compare (Ieee.signed s m 0) (Ieee.signed true M k) ≠ .lt := fun h4 => by
    rw [Int.compare_eq_lt] at h4; omega
  rw [Bool.false_and]
  simpa using h3
theorem not_tiny (m B k : Nat) (hm : B ≤ m) : ((some (compare (Ieee.signed false m k) (Ieee.signed false B 0)) : Option Ordering) == some .lt) = false := by
  have h0 : m ≤ m * 2 ^ k := Nat.le_mul_of_pos_right _ (Nat.two_pow_pos k)
  have h : Ieee.signed false B 0 ≤ Ieee.signed false m k := by
    unfold Ieee.signed
    simp only [Nat.shiftLeft_eq, Nat.pow_zero, Nat.mul_one]
    generalize m * 2 ^ k = z at *
    simp only [Bool.false_eq_true, if_false]; omega
  have h3 : compare (Ieee.signed false m k) (Ieee.signed false B 0) ≠ .lt := fun h4 => by
    rw [Int.compare_eq_lt] at h4; omega
  simpa using h3
theorem is_tiny (m B : Nat) (hm : m < B) : ((some (compare (Ieee.signed false m 0) (Ieee.signed false B 0)) : Option Ordering) == some .lt) = true := by
  have h : Ieee.signed false m 0 < Ieee.signed false B 0 := by
    unfold Ieee.signed
    simp only [Nat.shiftLeft_eq, Nat.pow_zero, Nat.mul_one, Bool.false_eq_true, if_false]; omega
  rw [Int.compare_eq_lt.2 h]; rfl

theorem dblS : Ieee.double.signWeight = 9223372036854775808 := by decide
theorem dblB : Ieee.double.binade = 4503599627370496 := by decide
theorem dblI : Ieee.double.infRung = 9218868437227405312 := by decide
theorem dblL : Ieee.double.leastPlace = -1074 := by decide
theorem dbl_read (x : Nat) : Ieee.double.read x = (if x % 9223372036854775808 < 4503599627370496 then .number (x / 9223372036854775808 % 2 == 1) (x % 9223372036854775808) (-1074) else if x % 9223372036854775808 < 9218868437227405312 then .number (x / 9223372036854775808 % 2 == 1) (4503599627370496 + x % 9223372036854775808 % 4503599627370496) (-1074 + (x % 9223372036854775808 / 4503599627370496 - 1 : Nat)) else if x % 9223372036854775808 = 9218868437227405312 then .infinity (x / 9223372036854775808 % 2 == 1) else .nan (x / 9223372036854775808 % 2 == 1) (x % 9223372036854775808 - 9218868437227405312)) := by
  simp only [Ieee.Format.read, dblS, dblB, dblI, dblL]
theorem dbl_zero : Ieee.double.read 0 = .number false 0 (-1074) := by decide +kernel
theorem dbl_max : Ieee.double.read 9218868437227405311 = .number false 9007199254740991 (-1074 + 2045) := by decide +kernel
theorem dbl_nmax : Ieee.double.read 18442240474082181119 = .number true 9007199254740991 (-1074 + 2045) := by decide +kernel
theorem dbl_one : Ieee.double.read 4503599627370496 = .number false 4503599627370496 (-1074) := by decide +kernel
theorem dbl_self (x : Nat) : (Ieee.double.order x x != some .eq) = decide (9218868437227405312 < x % 9223372036854775808) := by
  unfold Ieee.Format.order
  rw [dbl_read]
  split
  · rw [decide_eq_false (by omega)]; simp [Ieee.Datum.order]
  · split
    · rw [decide_eq_false (by omega)]; simp [Ieee.Datum.order]
    · split
      · rw [decide_eq_false (by omega)]; simp [Ieee.Datum.order]
      · rw [decide_eq_true (by omega)]; simp [Ieee.Datum.order]
theorem dbl_nought (x : Nat) : (Ieee.double.order x 0 == some .eq) = decide (x % 9223372036854775808 = 0) := by
  unfold Ieee.Format.order
  rw [dbl_read, dbl_zero]
  split
  · simp only [Ieee.Datum.order, Int.min_self, Int.sub_self, Int.toNat_zero]
    exact (cmp_zero _ _ _ (by simp [Ieee.signed]) (by simp [Ieee.signed]; split <;> omega)).trans rfl
  · rename_i h0
    split
    · rw [decide_eq_false (by omega)]
      simp only [Ieee.Datum.order]
      rw [Int.min_eq_right (by omega), show (((-1074 : Int) + ((x % 9223372036854775808 / 4503599627370496 - 1 : Nat) : Int) - -1074)).toNat = x % 9223372036854775808 / 4503599627370496 - 1 from by omega, Int.sub_self, Int.toNat_zero]
      exact sig_pos _ _ _ (by omega)
    · split
      · rw [decide_eq_false (by omega)]; simp only [Ieee.Datum.order]; split <;> rfl
      · rw [decide_eq_false (by omega)]; rfl
theorem dbl_gt (x : Nat) : (Ieee.double.order x 9218868437227405311 == some .gt) = (decide (x % 9223372036854775808 = 9218868437227405312) && !(x / 9223372036854775808 % 2 == 1)) := by
  unfold Ieee.Format.order
  rw [dbl_read, dbl_max]
  split
  · rw [decide_eq_false (by omega)]
    simp only [Ieee.Datum.order]
    rw [Int.min_eq_left (by omega), Int.sub_self, Int.toNat_zero]
    exact max_gt _ _ _ _ (by omega)
  · split
    · rw [decide_eq_false (by omega)]
      simp only [Ieee.Datum.order]
      rw [Int.min_eq_left (by omega), Int.sub_self, Int.toNat_zero]
      exact max_gt _ _ _ _ (by omega)
    · split
      · rw [decide_eq_true (by assumption)]; simp only [Ieee.Datum.order]; cases (x / 9223372036854775808 % 2 == 1) <;> rfl
      · rw [decide_eq_false (by omega)]; rfl
theorem dbl_lt (x : Nat) : (Ieee.double.order x 18442240474082181119 == some .lt) = (decide (x % 9223372036854775808 = 9218868437227405312) && (x / 9223372036854775808 % 2 == 1)) := by
  unfold Ieee.Format.order
  rw [dbl_read, dbl_nmax]
  split
  · rw [decide_eq_false (by omega)]
    simp only [Ieee.Datum.order]
    rw [Int.min_eq_left (by omega), Int.sub_self, Int.toNat_zero]
    exact max_lt _ _ _ _ (by omega)
  · split
    · rw [decide_eq_false (by omega)]
      simp only [Ieee.Datum.order]
      rw [Int.min_eq_left (by omega), Int.sub_self, Int.toNat_zero]
      exact max_lt _ _ _ _ (by omega)
    · split
      · rw [decide_eq_true (by assumption)]; simp only [Ieee.Datum.order]; cases (x / 9223372036854775808 % 2 == 1) <;> rfl
      · rw [decide_eq_false (by omega)]; rfl
theorem dbl_tiny (x y : Nat) (hy : y = x % 9223372036854775808) : (Ieee.double.order y 4503599627370496 == some .lt) = decide (x % 9223372036854775808 < 4503599627370496) := by
  have hys : y % 9223372036854775808 = x % 9223372036854775808 := by omega
  have hyn : (y / 9223372036854775808 % 2 == 1) = false := by rw [beq_eq_false_iff_ne]; omega
  unfold Ieee.Format.order
  rw [dbl_read, dbl_one, hys, hyn]
  split
  · rename_i h
    rw [decide_eq_true h]
    simp only [Ieee.Datum.order, Int.min_self, Int.sub_self, Int.toNat_zero]
    exact is_tiny _ _ h
  · rename_i h
    rw [decide_eq_false h]
    split
    · simp only [Ieee.Datum.order]
      rw [Int.min_eq_right (by omega), show (((-1074 : Int) + ((x % 9223372036854775808 / 4503599627370496 - 1 : Nat) : Int) - -1074)).toNat = x % 9223372036854775808 / 4503599627370496 - 1 from by omega, Int.sub_self, Int.toNat_zero]
      exact not_tiny _ _ _ (by omega)
    · split
      · simp only [Ieee.Datum.order]; rfl
      · rfl


theorem sglS : Ieee.single.signWeight = 2147483648 := by decide
theorem sglB : Ieee.single.binade = 8388608 := by decide
theorem sglI : Ieee.single.infRung = 2139095040 := by decide
theorem sglL : Ieee.single.leastPlace = -149 := by decide
theorem sgl_read (x : Nat) : Ieee.single.read x = (if x % 2147483648 < 8388608 then .number (x / 2147483648 % 2 == 1) (x % 2147483648) (-149) else if x % 2147483648 < 2139095040 then .number (x / 2147483648 % 2 == 1) (8388608 + x % 2147483648 % 8388608) (-149 + (x % 2147483648 / 8388608 - 1 : Nat)) else if x % 2147483648 = 2139095040 then .infinity (x / 2147483648 % 2 == 1) else .nan (x / 2147483648 % 2 == 1) (x % 2147483648 - 2139095040)) := by
  simp only [Ieee.Format.read, sglS, sglB, sglI, sglL]
theorem sgl_zero : Ieee.single.read 0 = .number false 0 (-149) := by decide +kernel
theorem sgl_max : Ieee.single.read 2139095039 = .number false 16777215 (-149 + 253) := by decide +kernel
theorem sgl_nmax : Ieee.single.read 4286578687 = .number true 16777215 (-149 + 253) := by decide +kernel
theorem sgl_one : Ieee.single.read 8388608 = .number false 8388608 (-149) := by decide +kernel
theorem sgl_self (x : Nat) : (Ieee.single.order x x != some .eq) = decide (2139095040 < x % 2147483648) := by
  unfold Ieee.Format.order
  rw [sgl_read]
  split
  · rw [decide_eq_false (by omega)]; simp [Ieee.Datum.order]
  · split
    · rw [decide_eq_false (by omega)]; simp [Ieee.Datum.order]
    · split
      · rw [decide_eq_false (by omega)]; simp [Ieee.Datum.order]
      · rw [decide_eq_true (by omega)]; simp [Ieee.Datum.order]
theorem sgl_nought (x : Nat) : (Ieee.single.order x 0 == some .eq) = decide (x % 2147483648 = 0) := by
  unfold Ieee.Format.order
  rw [sgl_read, sgl_zero]
  split
  · simp only [Ieee.Datum.order, Int.min_self, Int.sub_self, Int.toNat_zero]
    exact (cmp_zero _ _ _ (by simp [Ieee.signed]) (by simp [Ieee.signed]; split <;> omega)).trans rfl
  · rename_i h0
    split
    · rw [decide_eq_false (by omega)]
      simp only [Ieee.Datum.order]
      rw [Int.min_eq_right (by omega), show (((-149 : Int) + ((x % 2147483648 / 8388608 - 1 : Nat) : Int) - -149)).toNat = x % 2147483648 / 8388608 - 1 from by omega, Int.sub_self, Int.toNat_zero]
      exact sig_pos _ _ _ (by omega)
    · split
      · rw [decide_eq_false (by omega)]; simp only [Ieee.Datum.order]; split <;> rfl
      · rw [decide_eq_false (by omega)]; rfl
theorem sgl_gt (x : Nat) : (Ieee.single.order x 2139095039 == some .gt) = (decide (x % 2147483648 = 2139095040) && !(x / 2147483648 % 2 == 1)) := by
  unfold Ieee.Format.order
  rw [sgl_read, sgl_max]
  split
  · rw [decide_eq_false (by omega)]
    simp only [Ieee.Datum.order]
    rw [Int.min_eq_left (by omega), Int.sub_self, Int.toNat_zero]
    exact max_gt _ _ _ _ (by omega)
  · split
    · rw [decide_eq_false (by omega)]
      simp only [Ieee.Datum.order]
      rw [Int.min_eq_left (by omega), Int.sub_self, Int.toNat_zero]
      exact max_gt _ _ _ _ (by omega)
    · split
      · rw [decide_eq_true (by assumption)]; simp only [Ieee.Datum.order]; cases (x / 2147483648 % 2 == 1) <;> rfl
      · rw [decide_eq_false (by omega)]; rfl
theorem sgl_lt (x : Nat) : (Ieee.single.order x 4286578687 == some .lt) = (decide (x % 2147483648 = 2139095040) && (x / 2147483648 % 2 == 1)) := by
  unfold Ieee.Format.order
  rw [sgl_read, sgl_nmax]
  split
  · rw [decide_eq_false (by omega)]
    simp only [Ieee.Datum.order]
    rw [Int.min_eq_left (by omega), Int.sub_self, Int.toNat_zero]
    exact max_lt _ _ _ _ (by omega)
  · split
    · rw [decide_eq_false (by omega)]
      simp only [Ieee.Datum.order]
      rw [Int.min_eq_left (by omega), Int.sub_self, Int.toNat_zero]
      exact max_lt _ _ _ _ (by omega)
    · split
      · rw [decide_eq_true (by assumption)]; simp only [Ieee.Datum.order]; cases (x / 2147483648 % 2 == 1) <;> rfl
      · rw [decide_eq_false (by omega)]; rfl
theorem sgl_tiny (x y : Nat) (hy : y = x % 2147483648) : (Ieee.single.order y 8388608 == some .lt) = decide (x % 2147483648 < 8388608) := by
  have hys : y % 2147483648 = x % 2147483648 := by omega
  have hyn : (y / 2147483648 % 2 == 1) = false := by rw [beq_eq_false_iff_ne]; omega
  unfold Ieee.Format.order
  rw [sgl_read, sgl_one, hys, hyn]
  split
  · rename_i h
    rw [decide_eq_true h]
    simp only [Ieee.Datum.order, Int.min_self, Int.sub_self, Int.toNat_zero]
    exact is_tiny _ _ h
  · rename_i h
    rw [decide_eq_false h]
    split
    · simp only [Ieee.Datum.order]
      rw [Int.min_eq_right (by omega), show (((-149 : Int) + ((x % 2147483648 / 8388608 - 1 : Nat) : Int) - -149)).toNat = x % 2147483648 / 8388608 - 1 from by omega, Int.sub_self, Int.toNat_zero]
      exact not_tiny _ _ _ (by omega)
    · split
      · simp only [Ieee.Datum.order]; rfl
      · rfl


theorem run_bits64 (b : Nat) (w : World) : (callFunc 34 #[.float .f64 b]).run Try.prog w = .ok (.value (.int .u64 (b : Int))) w := by
  rw [run_callFunc_extern (fn := Try.f34) (by kernel_rfl) (by kernel_rfl) (by kernel_rfl) (by kernel_rfl) (show Extern.find _ = some Extern.MathFloatBits.float64bits from by kernel_rfl)]
  rfl
theorem run_from64 (n : Int) (w : World) : (callFunc 28 #[.int .u64 n]).run Try.prog w = .ok (.value (.float .f64 n.toNat)) w := by
  rw [run_callFunc_extern (fn := Try.f28) (by kernel_rfl) (by kernel_rfl) (by kernel_rfl) (by kernel_rfl) (show Extern.find _ = some Extern.MathFloatBits.float64frombits from by kernel_rfl)]
  rfl
theorem run_bits32 (b : Nat) (w : World) : (callFunc 35 #[.float .f32 b]).run Try.prog w = .ok (.value (.int .u32 (b : Int))) w := by
  rw [run_callFunc_extern (fn := Try.f35) (by kernel_rfl) (by kernel_rfl) (by kernel_rfl) (by kernel_rfl) (show Extern.find _ = some Extern.MathFloatBits.float32bits from by kernel_rfl)]
  rfl
theorem run_from32 (n : Int) (w : World) : (callFunc 30 #[.int .u32 n]).run Try.prog w = .ok (.value (.float .f32 n.toNat)) w := by
  rw [run_callFunc_extern (fn := Try.f30) (by kernel_rfl) (by kernel_rfl) (by kernel_rfl) (by kernel_rfl) (show Extern.find _ = some Extern.MathFloatBits.float32frombits from by kernel_rfl)]
  rfl
end Go.Proofs.Ytmneicbagcimdaa
