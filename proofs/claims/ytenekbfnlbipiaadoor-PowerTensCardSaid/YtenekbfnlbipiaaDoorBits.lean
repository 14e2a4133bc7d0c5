/- Walks: math/bits. -/
import Derived.Test.YtenekbfnlbipiaaDoorA
import Derived.Handy
import Derived.Lib.BitFns
namespace Go.Proofs.YtenekbfnlbipiaaDoor
open Go.RowKit
set_option linter.unusedVariables false
set_option linter.unusedSimpArgs false
set_option maxHeartbeats 4000000
set_option maxRecDepth 100000

theorem lib_bitLen {n : Nat} (h : n < 18446744073709551616) : Lib.bitLen n = bitLen n := by
  have aux : ∀ f n : Nat, n < 2 ^ f → Lib.bitLenAux f n = bitLen n := by
    intro f
    induction f with
    | zero => intro n hn; obtain rfl : n = 0 := by omega
              rfl
    | succ f ih =>
      intro n hn
      unfold Lib.bitLenAux
      by_cases h0 : n = 0
      · rw [if_pos h0, h0]; rfl
      · rw [if_neg h0, ih (n / 2) (by rw [Nat.pow_succ] at hn; omega)]
        unfold bitLen
        rw [if_neg h0]
        by_cases h1 : n / 2 = 0
        · have : n = 1 := by omega
          subst this; rfl
        · rw [if_neg h1, Nat.log2_def n, if_pos (by omega)]; omega
  exact aux 64 n h

set_option maxRecDepth 100000 in
/-- Len32: how many bits. -/
theorem bits_Len32 (x : Int) (w : World) (h0 : 0 ≤ x) (h1 : x ≤ 4294967295) :
    Calls Tryd.prog 100 #[.int .u32 x] w fun e w' => e = .returned (.int .i64 (bitLen x.toNat)) ∧ w = w' := by
  rw [← lib_bitLen (n := x.toNat) (by omega)]
  have fin : ∀ (y : Int) (k : Nat), 0 ≤ y → y ≤ 255 → k ≤ 24 → Lib.bitLen x.toNat = k + Lib.bitLen y.toNat → wrap64 ((k : Int) + wrap64 (Lib.len8 y)) = (Lib.bitLen x.toNat : Int) := by
    intro y k h0 h1 hk e
    have l := Lib.bitLen_le8' y h0 h1
    rw [Lib.len8_of y h0 h1, e]
    unfold wrap64
    omega
  by_cases a1 : x < 65536
  · by_cases a2 : x < 256
    · have b1 : x ≤ 255 := by omega
      have f := fin x 0 h0 b1 (by omega) (by omega)
      rw [show ((0 : Nat) : Int) = 0 from rfl, Int.zero_add] at f
      have F := Lib.hid f
      clear f fin
      go_enter Tryd.func100, Tryd.ntmps100
      go_wp2
      go_ret
      refine ⟨congrArg Ending.returned (congrArg (Value.int IntKind.i64) ?_), rfl⟩
      exact F.out
    · have b0 : 0 ≤ x / 256 := by omega
      have b1 : x / 256 ≤ 255 := by omega
      have F := Lib.hid (fin (x / 256) 8 b0 b1 (by omega) (by have := Lib.bitLen_shift8 x.toNat (by omega) (by omega); rw [show (x / 256).toNat = x.toNat / 256 from by omega]; exact this))
      clear fin
      go_enter Tryd.func100, Tryd.ntmps100
      go_wp2
      go_ret
      refine ⟨congrArg Ending.returned (congrArg (Value.int IntKind.i64) ?_), rfl⟩
      rw [← F.out]
      have := Lib.len8_of (x / 256) b0 b1
      have := Lib.bitLen_le8' (x / 256) b0 b1
      unfold wrap64
      omega
  · by_cases a2 : x / 65536 < 256
    · have b0 : 0 ≤ x / 65536 := by omega
      have b1 : x / 65536 ≤ 255 := by omega
      have F := Lib.hid (fin (x / 65536) 16 b0 b1 (by omega) (by have := Lib.bitLen_shift16 x.toNat (by omega) (by omega); rw [show (x / 65536).toNat = x.toNat / 65536 from by omega]; exact this))
      clear fin
      go_enter Tryd.func100, Tryd.ntmps100
      go_wp2
      go_ret
      refine ⟨congrArg Ending.returned (congrArg (Value.int IntKind.i64) ?_), rfl⟩
      rw [← F.out]
      have := Lib.len8_of (x / 65536) b0 b1
      have := Lib.bitLen_le8' (x / 65536) b0 b1
      unfold wrap64
      omega
    · have b0 : 0 ≤ x / 65536 / 256 := by omega
      have b1 : x / 65536 / 256 ≤ 255 := by omega
      have F := Lib.hid (fin (x / 65536 / 256) 24 b0 b1 (by omega) (by have := Lib.bitLen_shift24 x.toNat (by omega) (by omega); rw [show (x / 65536 / 256).toNat = x.toNat / 16777216 from by omega]; exact this))
      clear fin
      go_enter Tryd.func100, Tryd.ntmps100
      go_wp2
      go_ret
      refine ⟨congrArg Ending.returned (congrArg (Value.int IntKind.i64) ?_), rfl⟩
      rw [← F.out]
      have := Lib.len8_of (x / 65536 / 256) b0 b1
      have := Lib.bitLen_le8' (x / 65536 / 256) b0 b1
      unfold wrap64
      omega

theorem bitLen_le {n k : Nat} (h : n < 2 ^ k) : bitLen n ≤ k := by
  unfold bitLen
  by_cases h0 : n = 0
  · rw [if_pos h0]; omega
  · rw [if_neg h0]; have := (Nat.log2_lt h0).2 h; omega

theorem bits_LeadingZeros32 (x : Int) (w : World) (h0 : 0 ≤ x) (h1 : x ≤ 4294967295) :
    Calls Tryd.prog 77 #[.int .u32 x] w fun e w' => e = .returned (.int .i64 (32 - (bitLen x.toNat : Int))) ∧ w = w' := by
  have hl : bitLen x.toNat ≤ 32 := bitLen_le (by omega)
  go_enter Tryd.func77, Tryd.ntmps77
  go_wp2_with (go_at_call 100; refine (bits_Len32 x _ h0 h1).mono ?_; rintro e w' ⟨rfl, rfl⟩)
  go_ret
  exact ⟨rfl, rfl⟩

theorem bits_Mul64 (X Y : Int) (x y : Nat) (hX : X = (x : Int)) (hY : Y = (y : Int)) (hx : x < 18446744073709551616) (hy : y < 18446744073709551616) (w : World) :
    Calls Tryd.prog 25 #[.int .u64 X, .int .u64 Y] w fun e w' => e = .returned (.tuple #[.int .u64 ((x * y / 18446744073709551616 : Nat) : Int), .int .u64 ((x * y % 18446744073709551616 : Nat) : Int)]) ∧ w = w' := by
  have h1 := mul64_arith X Y (by omega) (by omega) (by omega) (by omega)
  have e1 : ((x * y / 18446744073709551616 : Nat) : Int) = X * Y / 18446744073709551616 := by rw [hX, hY]; simp
  have e2 : ((x * y % 18446744073709551616 : Nat) : Int) = X * Y % 18446744073709551616 := by rw [hX, hY]; simp
  rw [e1, e2]
  have hX1 : 0 ≤ X := by omega
  have hX2 : X < 18446744073709551616 := by omega
  have hY1 : 0 ≤ Y := by omega
  have hY2 : Y < 18446744073709551616 := by omega
  clear e1 e2 hX hY
  have H1 := Lib.hid h1
  clear h1
  go_enter Tryd.func25, Tryd.ntmps25
  go_wp2
  have al := fun z => and_low32 (z % 18446744073709551616) (Int.emod_nonneg _ (by decide)) (Int.emod_lt_of_pos _ (by decide))
  simp only [and_low32 X hX1 hX2, and_low32 Y hY1 hY2, IntKind.wrap_u64, al]
  go_ret2
  refine ⟨congrArg Ending.returned (congrArg Value.tuple ?_), rfl⟩
  rw [← H1.out]
  rfl

theorem bits_Add32 (X Y C : Int) (x y c : Nat) (hX : X = (x : Int)) (hY : Y = (y : Int)) (hC : C = (c : Int)) (hx : x < 4294967296) (hy : y < 4294967296) (hc : c ≤ 1) (w : World) :
    Calls Tryd.prog 84 #[.int .u32 X, .int .u32 Y, .int .u32 C] w fun e w' => e = .returned (.tuple #[.int .u32 (((x + y + c) % 4294967296 : Nat) : Int), .int .u32 (((x + y + c) / 4294967296 : Nat) : Int)]) ∧ w = w' := by
  have h1 : 0 ≤ X := by omega
  have h2 : X < 4294967296 := by omega
  have h3 : 0 ≤ Y := by omega
  have h4 : Y < 4294967296 := by omega
  have h5 : 0 ≤ C := by omega
  have h6 : C ≤ 1 := by omega
  have e1 : (((x + y + c) % 4294967296 : Nat) : Int) = (X + Y + C) % 4294967296 := by omega
  have e2 : (((x + y + c) / 4294967296 : Nat) : Int) = (X + Y + C) / 4294967296 := by omega
  rw [e1, e2]
  clear e1 e2 hX hY hC
  go_enter Tryd.func84, Tryd.ntmps84
  go_wp2
  go_ret2
  refine ⟨congrArg Ending.returned (congrArg Value.tuple ?_), rfl⟩
  rfl

theorem top31 {n : Nat} (h : n < 4294967296) : n / 2147483648 = if n.testBit 31 then 1 else 0 := by
  rw [Nat.testBit_eq_decide_div_mod_eq]
  by_cases h1 : n / 2 ^ 31 % 2 = 1
  · simp only [h1, decide_true, if_true]; omega
  · simp only [h1, decide_false, Bool.false_eq_true, if_false]; omega
theorem tb31 {n : Nat} (h : n < 4294967296) : n.testBit 31 = decide (2147483648 ≤ n) := by
  rw [Nat.testBit_eq_decide_div_mod_eq]
  by_cases h1 : 2147483648 ≤ n
  · simp only [h1, decide_true, decide_eq_true_eq]; omega
  · simp only [h1, decide_false, decide_eq_false_iff_not]; omega
theorem borrow32 (x y c d : Nat) (hx : x < 4294967296) (hy : y < 4294967296) (hc : c ≤ 1) (hd : d = (x + 4294967296 - y - c) % 4294967296) :
    bits BinOp.or IntKind.u32 (bits BinOp.and IntKind.u32 (bits BinOp.xor IntKind.u32 IntKind.u32.max (x : Int)) (y : Int))
        (bits BinOp.and IntKind.u32 (bits BinOp.xor IntKind.u32 IntKind.u32.max (bits BinOp.xor IntKind.u32 (x : Int) (y : Int))) (d : Int)) / 2147483648 = ((1 - (x + 4294967296 - y - c) / 4294967296 : Nat) : Int) := by
  have hm : IntKind.u32.max = ((4294967295 : Nat) : Int) := by decide
  have hd' : d < 4294967296 := by omega
  have l1 : 4294967295 ^^^ x < 4294967296 := Nat.xor_lt_two_pow (n := 32) (by decide) hx
  have l2 : x ^^^ y < 4294967296 := Nat.xor_lt_two_pow (n := 32) hx hy
  have l3 : 4294967295 ^^^ (x ^^^ y) < 4294967296 := Nat.xor_lt_two_pow (n := 32) (by decide) l2
  have l4 : (4294967295 ^^^ x) &&& y < 4294967296 := Nat.and_lt_two_pow (n := 32) _ hy
  have l5 : (4294967295 ^^^ (x ^^^ y)) &&& d < 4294967296 := Nat.and_lt_two_pow (n := 32) _ hd'
  have l6 : (4294967295 ^^^ x) &&& y ||| (4294967295 ^^^ (x ^^^ y)) &&& d < 4294967296 := Nat.or_lt_two_pow (n := 32) l4 l5
  rw [hm, u32_xor_nat _ _ (by decide) hx, u32_xor_nat _ _ hx hy, u32_xor_nat _ _ (by decide) l2, u32_and_nat _ _ l1 hy, u32_and_nat _ _ l3 hd', u32_or_nat _ _ l4 l5]
  have e := top31 l6
  have g : ((((4294967295 ^^^ x) &&& y ||| (4294967295 ^^^ (x ^^^ y)) &&& d : Nat) : Int) / 2147483648) = (((4294967295 ^^^ x) &&& y ||| (4294967295 ^^^ (x ^^^ y)) &&& d) / 2147483648 : Nat) := by omega
  rw [g, e]
  simp only [Nat.testBit_or, Nat.testBit_and, Nat.testBit_xor, tb31 hx, tb31 hy, tb31 hd', tb31 (show 4294967295 < 4294967296 by decide)]
  by_cases a : 2147483648 ≤ x <;> by_cases b : 2147483648 ≤ y <;> by_cases f : 2147483648 ≤ d <;> simp [a, b, f] <;> omega
theorem or_low32 (x y : Nat) (hx : x < 4294967296) (hy : y < 4294967296) : bits BinOp.or IntKind.u64 ((x : Int) * 4294967296) (y : Int) = ((x * 4294967296 + y : Nat) : Int) := by
  have e : ((x : Int) * 4294967296) = ((x * 4294967296 : Nat) : Int) := by omega
  rw [e, u64_or_nat _ _ (by omega) (by omega)]
  have := Nat.two_pow_add_eq_or_of_lt (i := 32) (b := y) hy x
  rw [show x * 4294967296 = 2 ^ 32 * x from by omega, ← this]
theorem div32_lt (x y d : Nat) (hx : x < d) (hy : y < 4294967296) : (x * 4294967296 + y) / d < 4294967296 := by
  rw [Nat.div_lt_iff_lt_mul (by omega)]
  have : (x + 1) * 4294967296 ≤ d * 4294967296 := Nat.mul_le_mul_right _ hx
  omega

theorem bits_Sub32 (X Y C : Int) (x y c : Nat) (hX : X = (x : Int)) (hY : Y = (y : Int)) (hC : C = (c : Int)) (hx : x < 4294967296) (hy : y < 4294967296) (hc : c ≤ 1) (w : World) :
    Calls Tryd.prog 83 #[.int .u32 X, .int .u32 Y, .int .u32 C] w fun e w' => e = .returned (.tuple #[.int .u32 (((x + 4294967296 - y - c) % 4294967296 : Nat) : Int), .int .u32 ((1 - (x + 4294967296 - y - c) / 4294967296 : Nat) : Int)]) ∧ w = w' := by
  have h1 : 0 ≤ X := by omega
  have h2 : X < 4294967296 := by omega
  have h3 : 0 ≤ Y := by omega
  have h4 : Y < 4294967296 := by omega
  have h5 : 0 ≤ C := by omega
  have h6 : C ≤ 1 := by omega
  go_enter Tryd.func83, Tryd.ntmps83
  go_wp2
  go_ret2
  refine ⟨ret_pair ?_ ?_, rfl⟩
  · omega
  · have e : (((x : Int) - y - c) % 4294967296) = (((x + 4294967296 - y - c) % 4294967296 : Nat) : Int) := by omega
    rw [e]
    exact borrow32 x y c _ hx hy hc rfl

theorem bits_Div32 (X Y D : Int) (x y d : Nat) (hX : X = (x : Int)) (hY : Y = (y : Int)) (hD : D = (d : Int)) (hx : x < d) (hy : y < 4294967296) (hd : d < 4294967296) (w : World) :
    Calls Tryd.prog 101 #[.int .u32 X, .int .u32 Y, .int .u32 D] w fun e w' => e = .returned (.tuple #[.int .u32 (((x * 4294967296 + y) / d : Nat) : Int), .int .u32 (((x * 4294967296 + y) % d : Nat) : Int)]) ∧ Below w.heap.size w w' := by
  have h1 : 0 ≤ X := by omega
  have h2 : X < 4294967296 := by omega
  have h3 : 0 ≤ Y := by omega
  have h4 : Y < 4294967296 := by omega
  have h5 : 1 ≤ D := by omega
  have h6 : D < 4294967296 := by omega
  have h7 : ¬ D ≤ X := by omega
  have h8 : (D != 0) = true := by rw [bne_iff_ne]; omega
  go_enter Tryd.func101, Tryd.ntmps101
  go_wp2
  go_quiet (fail)
  go_wp2
  go_ret2
  refine ⟨ret_pair ?_ ?_, (by repeat (first | assumption | exact Below.refl _ _ | refine bdn ?_ _ | refine Below.drew ?_))⟩
  · have l := div32_lt x y d hx hy
    rw [or_low32 x y (by omega) hy, Int.tdiv_eq_ediv_of_nonneg (by omega), ← Int.natCast_ediv, IntKind.wrap_u64]
    generalize (x * 4294967296 + y) / d = q at l ⊢
    omega
  · have l : (x * 4294967296 + y) % d < d := Nat.mod_lt _ (by omega)
    rw [or_low32 x y (by omega) hy, Int.tmod_eq_emod_of_nonneg (by omega), ← Int.natCast_emod]
    generalize (x * 4294967296 + y) % d = q at l ⊢
    omega
end Go.Proofs.YtenekbfnlbipiaaDoor
