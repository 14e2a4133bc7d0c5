/- Walks: the document's layer 19: times. -/
import Derived.Test.YtenekbfnlbipiaaGreatDoorBgW
import Derived.Test.YtenekbfnlbipiaaGreatDoorBgF
import Derived.Laws.MathBits
namespace Go.Proofs.YtenekbfnlbipiaaGreatDoor
open Go.RowKit
set_option linter.unusedVariables false
set_option linter.unusedSimpArgs false
set_option maxHeartbeats 4000000
set_option maxRecDepth 100000
namespace Bg
theorem ref19_times_pos (y i : Nat) (restI : List Value) (TI : TypeId) (n d N k : Nat) (hk : k ≤ 3000) (F1 : Fit n d N 1) (F2 : Fit (prodN n d N 1) (prodD n d N 1) (2 ^ k) 1) (w : World) (hT : Tz w) (hy : Rt w y n d) (hi : Ob w i TI false N restI) :
    Calls Tryz.prog 58 #[.pointer (some ⟨y, 0, none⟩), .pointer (some ⟨i, 0, none⟩), .int .i64 ((k : Int))] w (RMakes w (prodN (prodN n d N 1) (prodD n d N 1) (2 ^ k) 1) (prodD (prodN n d N 1) (prodD n d N 1) (2 ^ k) 1)) := by
  have hM1 := fun z s => rat_Mul z y s n d N 1 F1
  have hM2 := fun z a b => rat_Mul z a b _ _ (2 ^ k) 1 F2
  have hp0 : 2 ^ k ≠ 0 := Nat.ne_of_gt (Nat.two_pow_pos k)
  obtain ⟨N1, hN1⟩ : ∃ x, x = prodN n d N 1 := ⟨_, rfl⟩
  obtain ⟨D1, hD1⟩ : ∃ x, x = prodD n d N 1 := ⟨_, rfl⟩
  rw [← hN1, ← hD1] at hM1 hM2 ⊢
  have hL := fun z x w hz hx => int_Lsh z x 95 95 [] [] (by decide) 1 k (by omega) (by decide) w hz hx
  rw [Nat.one_mul] at hL
  obtain ⟨P, hP⟩ : ∃ P, P = 2 ^ k := ⟨_, rfl⟩
  rw [← hP] at hM2 hL hp0 ⊢
  obtain ⟨N2, hN2⟩ : ∃ x, x = prodN N1 D1 P 1 := ⟨_, rfl⟩
  obtain ⟨D2, hD2⟩ : ∃ x, x = prodD N1 D1 P 1 := ⟨_, rfl⟩
  rw [← hN2, ← hD2] at hM2 ⊢
  clear hN1 hD1 hP hN2 hD2 F1 F2
  have hmax : max ((k : Int)) (-((k : Int))) = (k : Int) := by omega
  have hmax2 : max (-(k : Int)) (k : Int) = (k : Int) := by omega
  have hwr : IntKind.u64.wrap (k : Int) = (k : Int) := by rw [IntKind.wrap_u64]; omega
  have hw64 : IntKind.i64.wrap (-((k : Int))) = -((k : Int)) := by rw [IntKind.wrap_i64]; omega
  have hdec : decide (((k : Int)) < 0) = false := by simp
  have ylt := hy.lt
  have ilt := hi.lt
  have al1 : Below w.heap.size w (w.alloc (.cells #[.bool false, .slice none 0 0, .slice none 0 0] 97)) := (Below.refl _ _).alloc (Nat.le_refl _) _
  have k1 : RAt (w.alloc (.cells #[.bool false, .slice none 0 0, .slice none 0 0] 97)) w.heap.size := ⟨_, _, _, Blk.new w _ _⟩
  obtain ⟨w1, hw1⟩ : ∃ w1, w1 = w.alloc (.cells #[.bool false, .slice none 0 0, .slice none 0 0] 97) := ⟨_, rfl⟩
  rw [← hw1] at al1 k1
  have al2 : Below w1.heap.size w1 (w1.alloc (.cells #[.bool false, .slice none 0 0] 95)) := (Below.refl _ _).alloc (Nat.le_refl _) _
  have k2 : At (w1.alloc (.cells #[.bool false, .slice none 0 0] 95)) w1.heap.size 95 [] := ⟨_, _, Blk.new w1 _ _⟩
  obtain ⟨w2, hw2⟩ : ∃ w2, w2 = w1.alloc (.cells #[.bool false, .slice none 0 0] 95) := ⟨_, rfl⟩
  rw [← hw2] at al2 k2
  have e1 : w1.heap.size = w.heap.size + 1 := by rw [hw1]; simp
  rw [e1] at k2
  have b2 : Below w.heap.size w w2 := al1.trans (al2.mono al1.size)
  go_enter Tryz.func58, Tryz.ntmps58
  go_wp2_with fail
  rw [← hw1, ← hw2]
  have k12 := k1.below al2
  clear hw1 hw2 e1 al1 al2 k1
  refine (big_NewInt 1 (by decide) _).mono ?_
  rintro e w3 ⟨x, rfl, hx, ho, hb3⟩
  have k13 := k12.below hb3
  have k23 := at_of_below k2 hb3
  have b3 := b2.trans (hb3.mono b2.size)
  go_wp2_with fail
  refine (hL (w.heap.size + 1) x _ k23 ho).mono ?_
  rintro e w4 ⟨rfl, hh4, ho4⟩
  have k14 := k13.hole (show w.heap.size ≠ w.heap.size + 1 by omega) hh4
  have b4 : Below w.heap.size w w4 := hole_fresh b3 hh4 (by omega)
  go_wp2_with fail
  refine (rat_SetInt w.heap.size (w.heap.size + 1) _ [] P _ k14 ho4).mono ?_
  rintro e w5 ⟨rfl, hh5, r5⟩
  have b5 : Below w.heap.size w w5 := hole_fresh b4 hh5 (Nat.le_refl _)
  go_wp2_with fail
  have r6 := r5
  have b6 := b5
  obtain ⟨w6, hw6⟩ : ∃ w6, w6 = w5 := ⟨_, rfl⟩
  subst hw6
  have al3 : Below w6.heap.size w6 (w6.alloc (.cells #[.bool false, .slice none 0 0, .slice none 0 0] 97)) := (Below.refl _ _).alloc (Nat.le_refl _) _
  have k7 : RAt (w6.alloc (.cells #[.bool false, .slice none 0 0, .slice none 0 0] 97)) w6.heap.size := ⟨_, _, _, Blk.new w6 _ _⟩
  obtain ⟨w7, hw7⟩ : ∃ w7, w7 = w6.alloc (.cells #[.bool false, .slice none 0 0, .slice none 0 0] 97) := ⟨_, rfl⟩
  rw [← hw7] at al3 k7
  have al4 : Below w7.heap.size w7 (w7.alloc (.cells #[.bool false, .slice none 0 0, .slice none 0 0] 97)) := (Below.refl _ _).alloc (Nat.le_refl _) _
  have k8 : RAt (w7.alloc (.cells #[.bool false, .slice none 0 0, .slice none 0 0] 97)) w7.heap.size := ⟨_, _, _, Blk.new w7 _ _⟩
  obtain ⟨w8, hw8⟩ : ∃ w8, w8 = w7.alloc (.cells #[.bool false, .slice none 0 0, .slice none 0 0] 97) := ⟨_, rfl⟩
  rw [← hw8] at al4 k8
  have e7 : w7.heap.size = w6.heap.size + 1 := by rw [hw7]; simp
  rw [e7] at k8
  rw [← hw7, ← hw8]
  have k78 := k7.below al4
  have al34 := al3.trans (al4.mono al3.size)
  have B8 := b6.trans (al34.mono b6.size)
  have r8 := r6.below al34
  have glt := r6.lt
  clear hw7 hw8 e7 al3 al4 k7
  refine (rat_SetInt (w6.heap.size + 1) i TI restI N _ k8 (hi.below B8)).mono ?_
  rintro e w9 ⟨rfl, hh9, r9⟩
  obtain ⟨D8, hz8⟩ := k8
  have B9 : Below w.heap.size w w9 := hole_fresh B8 hh9 (by have := b6.size; omega)
  have k79 := k78.hole (show w6.heap.size ≠ w6.heap.size + 1 by omega) hh9
  have r89 := r8.hole hz8 (by decide) (show w.heap.size ≠ w6.heap.size + 1 by omega) hh9
  go_wp2_with fail
  refine (hM1 w6.heap.size (w6.heap.size + 1) _ (hT.below B9) k79 (hy.below B9) r9).mono ?_
  rintro e w10 ⟨rfl, hh10, r10⟩
  obtain ⟨D9, hz9⟩ := k79
  have B10 : Below w.heap.size w w10 := hole_fresh B9 hh10 b6.size
  have r810 := r89.hole hz9 (by decide) (show w.heap.size ≠ w6.heap.size by omega) hh10
  go_wp2_with fail
  refine (hM2 w6.heap.size w6.heap.size w.heap.size _ (hT.below B10) r10.at_ r10 r810).mono ?_
  rintro e w11 ⟨rfl, hh11, r11⟩
  go_wp2
  go_ret
  exact ⟨_, rfl, b6.size, r11, hole_fresh B10 hh11 b6.size⟩
theorem ref19_times_neg (y i : Nat) (restI : List Value) (TI : TypeId) (n d N k : Nat) (hk0 : 0 < k) (hk : k ≤ 3000) (F1 : Fit n d N 1) (F2 : Fit (prodN n d N 1) (prodD n d N 1) 1 (2 ^ k)) (w : World) (hT : Tz w) (hy : Rt w y n d) (hi : Ob w i TI false N restI) :
    Calls Tryz.prog 58 #[.pointer (some ⟨y, 0, none⟩), .pointer (some ⟨i, 0, none⟩), .int .i64 (-(k : Int))] w (RMakes w (prodN (prodN n d N 1) (prodD n d N 1) 1 (2 ^ k)) (prodD (prodN n d N 1) (prodD n d N 1) 1 (2 ^ k))) := by
  have hM1 := fun z s => rat_Mul z y s n d N 1 F1
  have hM2 := fun z a b => rat_Mul z a b _ _ 1 (2 ^ k) F2
  have hp0 : 2 ^ k ≠ 0 := Nat.ne_of_gt (Nat.two_pow_pos k)
  obtain ⟨N1, hN1⟩ : ∃ x, x = prodN n d N 1 := ⟨_, rfl⟩
  obtain ⟨D1, hD1⟩ : ∃ x, x = prodD n d N 1 := ⟨_, rfl⟩
  rw [← hN1, ← hD1] at hM1 hM2 ⊢
  have hL := fun z x w hz hx => int_Lsh z x 95 95 [] [] (by decide) 1 k (by omega) (by decide) w hz hx
  rw [Nat.one_mul] at hL
  obtain ⟨P, hP⟩ : ∃ P, P = 2 ^ k := ⟨_, rfl⟩
  rw [← hP] at hM2 hL hp0 ⊢
  obtain ⟨N2, hN2⟩ : ∃ x, x = prodN N1 D1 1 P := ⟨_, rfl⟩
  obtain ⟨D2, hD2⟩ : ∃ x, x = prodD N1 D1 1 P := ⟨_, rfl⟩
  rw [← hN2, ← hD2] at hM2 ⊢
  clear hN1 hD1 hP hN2 hD2 F1 F2
  have hmax : max (-(k : Int)) (-(-(k : Int))) = (k : Int) := by omega
  have hmax2 : max (-(k : Int)) (k : Int) = (k : Int) := by omega
  have hwr : IntKind.u64.wrap (k : Int) = (k : Int) := by rw [IntKind.wrap_u64]; omega
  have hw64 : IntKind.i64.wrap (-(-(k : Int))) = -(-(k : Int)) := by rw [IntKind.wrap_i64]; omega
  have hdec : decide ((-(k : Int)) < 0) = true := by simp; omega
  have ylt := hy.lt
  have ilt := hi.lt
  have al1 : Below w.heap.size w (w.alloc (.cells #[.bool false, .slice none 0 0, .slice none 0 0] 97)) := (Below.refl _ _).alloc (Nat.le_refl _) _
  have k1 : RAt (w.alloc (.cells #[.bool false, .slice none 0 0, .slice none 0 0] 97)) w.heap.size := ⟨_, _, _, Blk.new w _ _⟩
  obtain ⟨w1, hw1⟩ : ∃ w1, w1 = w.alloc (.cells #[.bool false, .slice none 0 0, .slice none 0 0] 97) := ⟨_, rfl⟩
  rw [← hw1] at al1 k1
  have al2 : Below w1.heap.size w1 (w1.alloc (.cells #[.bool false, .slice none 0 0] 95)) := (Below.refl _ _).alloc (Nat.le_refl _) _
  have k2 : At (w1.alloc (.cells #[.bool false, .slice none 0 0] 95)) w1.heap.size 95 [] := ⟨_, _, Blk.new w1 _ _⟩
  obtain ⟨w2, hw2⟩ : ∃ w2, w2 = w1.alloc (.cells #[.bool false, .slice none 0 0] 95) := ⟨_, rfl⟩
  rw [← hw2] at al2 k2
  have e1 : w1.heap.size = w.heap.size + 1 := by rw [hw1]; simp
  rw [e1] at k2
  have b2 : Below w.heap.size w w2 := al1.trans (al2.mono al1.size)
  go_enter Tryz.func58, Tryz.ntmps58
  go_wp2_with fail
  rw [← hw1, ← hw2]
  have k12 := k1.below al2
  clear hw1 hw2 e1 al1 al2 k1
  refine (big_NewInt 1 (by decide) _).mono ?_
  rintro e w3 ⟨x, rfl, hx, ho, hb3⟩
  have k13 := k12.below hb3
  have k23 := at_of_below k2 hb3
  have b3 := b2.trans (hb3.mono b2.size)
  go_wp2_with fail
  refine (hL (w.heap.size + 1) x _ k23 ho).mono ?_
  rintro e w4 ⟨rfl, hh4, ho4⟩
  have k14 := k13.hole (show w.heap.size ≠ w.heap.size + 1 by omega) hh4
  have b4 : Below w.heap.size w w4 := hole_fresh b3 hh4 (by omega)
  go_wp2_with fail
  refine (rat_SetInt w.heap.size (w.heap.size + 1) _ [] P _ k14 ho4).mono ?_
  rintro e w5 ⟨rfl, hh5, r5⟩
  have b5 : Below w.heap.size w w5 := hole_fresh b4 hh5 (Nat.le_refl _)
  go_wp2_with fail
  refine (rat_Inv w.heap.size w.heap.size P 1 hp0 _ r5.at_ r5).mono ?_
  rintro e w6 ⟨rfl, hh6, r6⟩
  have b6 : Below w.heap.size w w6 := hole_fresh b5 hh6 (Nat.le_refl _)
  go_wp2_with fail
  have al3 : Below w6.heap.size w6 (w6.alloc (.cells #[.bool false, .slice none 0 0, .slice none 0 0] 97)) := (Below.refl _ _).alloc (Nat.le_refl _) _
  have k7 : RAt (w6.alloc (.cells #[.bool false, .slice none 0 0, .slice none 0 0] 97)) w6.heap.size := ⟨_, _, _, Blk.new w6 _ _⟩
  obtain ⟨w7, hw7⟩ : ∃ w7, w7 = w6.alloc (.cells #[.bool false, .slice none 0 0, .slice none 0 0] 97) := ⟨_, rfl⟩
  rw [← hw7] at al3 k7
  have al4 : Below w7.heap.size w7 (w7.alloc (.cells #[.bool false, .slice none 0 0, .slice none 0 0] 97)) := (Below.refl _ _).alloc (Nat.le_refl _) _
  have k8 : RAt (w7.alloc (.cells #[.bool false, .slice none 0 0, .slice none 0 0] 97)) w7.heap.size := ⟨_, _, _, Blk.new w7 _ _⟩
  obtain ⟨w8, hw8⟩ : ∃ w8, w8 = w7.alloc (.cells #[.bool false, .slice none 0 0, .slice none 0 0] 97) := ⟨_, rfl⟩
  rw [← hw8] at al4 k8
  have e7 : w7.heap.size = w6.heap.size + 1 := by rw [hw7]; simp
  rw [e7] at k8
  rw [← hw7, ← hw8]
  have k78 := k7.below al4
  have al34 := al3.trans (al4.mono al3.size)
  have B8 := b6.trans (al34.mono b6.size)
  have r8 := r6.below al34
  have glt := r6.lt
  clear hw7 hw8 e7 al3 al4 k7
  refine (rat_SetInt (w6.heap.size + 1) i TI restI N _ k8 (hi.below B8)).mono ?_
  rintro e w9 ⟨rfl, hh9, r9⟩
  obtain ⟨D8, hz8⟩ := k8
  have B9 : Below w.heap.size w w9 := hole_fresh B8 hh9 (by have := b6.size; omega)
  have k79 := k78.hole (show w6.heap.size ≠ w6.heap.size + 1 by omega) hh9
  have r89 := r8.hole hz8 (by decide) (show w.heap.size ≠ w6.heap.size + 1 by omega) hh9
  go_wp2_with fail
  refine (hM1 w6.heap.size (w6.heap.size + 1) _ (hT.below B9) k79 (hy.below B9) r9).mono ?_
  rintro e w10 ⟨rfl, hh10, r10⟩
  obtain ⟨D9, hz9⟩ := k79
  have B10 : Below w.heap.size w w10 := hole_fresh B9 hh10 b6.size
  have r810 := r89.hole hz9 (by decide) (show w.heap.size ≠ w6.heap.size by omega) hh10
  go_wp2_with fail
  refine (hM2 w6.heap.size w6.heap.size w.heap.size _ (hT.below B10) r10.at_ r10 r810).mono ?_
  rintro e w11 ⟨rfl, hh11, r11⟩
  go_wp2
  go_ret
  exact ⟨_, rfl, b6.size, r11, hole_fresh B10 hh11 b6.size⟩
end Bg
namespace Bg
def rnd (n d : Nat) : Nat := if d < 2 * (n % d) ∨ (2 * (n % d) = d ∧ n / d % 2 = 1) then n / d + 1 else n / d
theorem rest_A {n d : Nat} : sumA true n d (n / d) 1 = n % d := by
  unfold sumA
  rw [Nat.gcd_one_right]
  simp only [if_true, Nat.div_one, Nat.mul_one]
  have := Nat.div_add_mod n d
  rw [Nat.mul_comm] at this
  omega
theorem rest_N {n d : Nat} : sumN true n d (n / d) 1 = n % d := by
  unfold sumN
  rw [rest_A, Nat.gcd_one_right, Nat.gcd_one_right, Nat.div_one]
  split <;> omega
theorem rest_D {n d : Nat} : sumD true n d (n / d) 1 = if n % d = 0 then 1 else d := by
  unfold sumD
  rw [rest_A, Nat.gcd_one_right, Nat.gcd_one_right, Nat.div_one, Nat.div_one, Nat.mul_one]
theorem rest_cmp {n d : Nat} (hd : d ≠ 0) : cmpV (n % d * 2) (1 * (if n % d = 0 then 1 else d)) = cmpV (2 * (n % d)) d := by
  by_cases h : n % d = 0
  · rw [if_pos h, h]
    have h1 : cmpV (0 * 2) (1 * 1) = -1 := by decide
    have h2 : cmpV (2 * 0) d = -1 := by
      unfold cmpV
      rw [if_pos (by omega)]
    rw [h1, h2]
  · rw [if_neg h, Nat.one_mul, Nat.mul_comm]
theorem ref19_nearest (y n d : Nat) (ln : (limbs n).length ≤ 1000) (ld : (limbs d).length ≤ 1000) (lq : (limbs (n / d)).length < 40) (w : World) (hT : Tz w) (hy : Rt w y n d) :
    Calls Tryz.prog 22 #[.pointer (some ⟨y, 0, none⟩)] w (Makes w 95 [] false (rnd n d)) := by
  have hd := hy.ne
  have ylt := hy.lt
  have lr : (limbs (n % d)).length ≤ 1000 := Nat.le_trans (limbs_mono (Nat.mod_le n d)) ln
  have FA : FitA true n d (n / d) 1 := ⟨hd, by decide, .inr tz_one, .inr (by rw [Nat.gcd_one_right]; exact tz_one), ln, by omega, ld, by decide, by rw [rest_A]; omega, .inr (by decide), .inl lq, .inr (by decide), fun _ => by rw [Nat.gcd_one_right, Nat.div_one, Nat.div_one, Nat.mul_one]; exact Nat.div_mul_le_self n d⟩
  have hS := fun z s => rat_Sub z y s n d (n / d) 1 FA
  rw [rest_N, rest_D] at hS
  have hF := fun w => ref19_floor y n d (by omega) w
  have lrd : (limbs (if n % d = 0 then 1 else d)).length ≤ 5000 := by split <;> first | omega | decide
  have hC := fun a b => rat_Cmp a b (n % d) (if n % d = 0 then 1 else d) 1 2 (by decide) (by omega) (by decide) lrd (by decide) (.inr (by decide)) (.inl (by decide))
  rw [rest_cmp hd] at hC
  have hN := rat_New 1 2 (by decide) (by decide) (by decide) (by decide) (.inl tz_one)
  rw [show 1 / Nat.gcd 1 2 = 1 from rfl, show 2 / Nat.gcd 1 2 = 2 from rfl] at hN
  have hrnd : rnd n d = if d < 2 * (n % d) ∨ (2 * (n % d) = d ∧ n / d % 2 = 1) then n / d + 1 else n / d := rfl
  obtain ⟨O, hO⟩ : ∃ O, O = rnd n d := ⟨_, rfl⟩
  rw [← hO] at hrnd ⊢
  obtain ⟨M, hM⟩ : ∃ M, M = if n % d = 0 then 1 else d := ⟨_, rfl⟩
  rw [← hM] at hS hC
  obtain ⟨Q, hQ⟩ : ∃ Q, Q = n / d := ⟨_, rfl⟩
  obtain ⟨R, hR⟩ : ∃ R, R = n % d := ⟨_, rfl⟩
  simp only [← hQ, ← hR] at hS hF hC hrnd lq
  have HR := Lib.hid hrnd
  clear hO hM hQ hR FA lrd ln lr ld hrnd
  go_enter Tryz.func22, Tryz.ntmps22
  go_wp2_with fail
  refine (hF _ hy).mono ?_
  rintro e w1 ⟨q, rfl, hq, oq, b1⟩
  have al3 : Below w1.heap.size w1 (w1.alloc (.cells #[.bool false, .slice none 0 0, .slice none 0 0] 97)) := (Below.refl _ _).alloc (Nat.le_refl _) _
  have k7 : RAt (w1.alloc (.cells #[.bool false, .slice none 0 0, .slice none 0 0] 97)) w1.heap.size := ⟨_, _, _, Blk.new w1 _ _⟩
  obtain ⟨w7, hw7⟩ : ∃ w7, w7 = w1.alloc (.cells #[.bool false, .slice none 0 0, .slice none 0 0] 97) := ⟨_, rfl⟩
  rw [← hw7] at al3 k7
  have al4 : Below w7.heap.size w7 (w7.alloc (.cells #[.bool false, .slice none 0 0, .slice none 0 0] 97)) := (Below.refl _ _).alloc (Nat.le_refl _) _
  have k8 : RAt (w7.alloc (.cells #[.bool false, .slice none 0 0, .slice none 0 0] 97)) w7.heap.size := ⟨_, _, _, Blk.new w7 _ _⟩
  obtain ⟨w8, hw8⟩ : ∃ w8, w8 = w7.alloc (.cells #[.bool false, .slice none 0 0, .slice none 0 0] 97) := ⟨_, rfl⟩
  rw [← hw8] at al4 k8
  have e7 : w7.heap.size = w1.heap.size + 1 := by rw [hw7]; simp
  rw [e7] at k8
  go_wp2_with fail
  rw [← hw7, ← hw8]
  have k78 := k7.below al4
  have al34 := al3.trans (al4.mono al3.size)
  have B8 := b1.trans (al34.mono b1.size)
  have q8 := oq.below al34
  have qlt := oq.lt
  clear hw7 hw8 e7 al3 al4 k7
  refine (rat_SetInt (w1.heap.size + 1) q _ [] Q _ k8 q8).mono ?_
  rintro e w9 ⟨rfl, hh9, r9⟩
  obtain ⟨D8, hz8⟩ := k8
  have B9 : Below w.heap.size w w9 := hole_fresh B8 hh9 (by have := b1.size; omega)
  have k79 := k78.hole (show w1.heap.size ≠ w1.heap.size + 1 by omega) hh9
  have q9 := q8.hole hz8 (by decide) (show q ≠ w1.heap.size + 1 by omega) hh9
  go_wp2_with fail
  refine (hS w1.heap.size (w1.heap.size + 1) _ (hT.below B9) k79 (hy.below B9) r9).mono ?_
  rintro e w10 ⟨rfl, hh10, r10⟩
  obtain ⟨D9, hz9⟩ := k79
  have B10 : Below w.heap.size w w10 := hole_fresh B9 hh10 b1.size
  have q10 := q9.hole hz9 (by decide) (show q ≠ w1.heap.size by omega) hh10
  go_wp2_with fail
  refine (hN _ (hT.below B10)).mono ?_
  rintro e w11 ⟨h, rfl, hh, r11, b11⟩
  have q11 := q10.below b11
  have B11 := B10.trans (b11.mono B10.size)
  go_wp2_with fail
  refine (hC w1.heap.size h _ (r10.below b11) r11).mono ?_
  rintro e w12 ⟨rfl, b12⟩
  have q12 := q11.below b12
  have B12 := B11.trans (b12.mono B11.size)
  clear hS hF hC hN k78 hz8 hz9 r9 r10 r11 q8 q9 q10 q11 B8 B9 B10 B11 hh9 hh10 b11 b12 oq al34

  by_cases hgt : d < 2 * R
  · have hc : cmpV (2 * R) d = 1 := by unfold cmpV; rw [if_neg (by omega), if_pos hgt]
    have HO := Lib.hid (show O = Q + 1 by rw [HR.out]; rw [if_pos (by omega)])
    rw [hc]
    clear hc HR
    go_wp2_with fail
    refine (big_NewInt 1 (by decide) _).mono ?_
    rintro e w13 ⟨o, rfl, ho, oo, b13⟩
    have q13 := q12.below b13
    have B13 := B12.trans (b13.mono B12.size)
    go_wp2_with fail
    refine (int_Add q q o _ _ _ [] [] [] (by decide) Q 1 (by have : (limbs 1).length = 1 := rfl; omega) _ q13.at_ q13 oo).mono ?_
    rintro e w14 ⟨rfl, hh14, q14⟩
    go_wp2
    go_ret
    exact ⟨_, rfl, hq, by rw [HO.out]; exact q14, hole_fresh B13 hh14 hq⟩
  by_cases heq : 2 * R = d
  by_cases hb : Q % 2 = 1
  · have hc : cmpV (2 * R) d = 0 := by unfold cmpV; rw [if_neg (by omega), if_neg (by omega)]
    have HO := Lib.hid (show O = Q + 1 by rw [HR.out]; rw [if_pos (by omega)])
    rw [hc]
    clear hc HR
    go_wp2_with fail
    refine (int_Bit0 q _ [] Q _ q12).mono ?_
    rintro e w15 ⟨rfl, rfl⟩
    rw [show Q % 2 = 1 by omega]
    clear hb
    go_wp2_with fail
    refine (big_NewInt 1 (by decide) _).mono ?_
    rintro e w13 ⟨o, rfl, ho, oo, b13⟩
    have q13 := q12.below b13
    have B13 := B12.trans (b13.mono B12.size)
    go_wp2_with fail
    refine (int_Add q q o _ _ _ [] [] [] (by decide) Q 1 (by have : (limbs 1).length = 1 := rfl; omega) _ q13.at_ q13 oo).mono ?_
    rintro e w14 ⟨rfl, hh14, q14⟩
    go_wp2
    go_ret
    exact ⟨_, rfl, hq, by rw [HO.out]; exact q14, hole_fresh B13 hh14 hq⟩
  · have hc : cmpV (2 * R) d = 0 := by unfold cmpV; rw [if_neg (by omega), if_neg (by omega)]
    have HO := Lib.hid (show O = Q by rw [HR.out]; rw [if_neg (by omega)])
    rw [hc]
    clear hc HR
    go_wp2_with fail
    refine (int_Bit0 q _ [] Q _ q12).mono ?_
    rintro e w15 ⟨rfl, rfl⟩
    rw [show Q % 2 = 0 by omega]
    clear hb
    go_wp2_with fail
    go_wp2
    go_ret
    exact ⟨_, rfl, hq, by rw [HO.out]; exact q12, B12⟩
  · have hc : cmpV (2 * R) d = -1 := by unfold cmpV; rw [if_pos (by omega)]
    have HO := Lib.hid (show O = Q by rw [HR.out]; rw [if_neg (by omega)])
    rw [hc]
    clear hc HR
    go_wp2_with fail
    go_wp2
    go_ret
    exact ⟨_, rfl, hq, by rw [HO.out]; exact q12, B12⟩
end Bg
namespace Bg
theorem ref19_tens (p : Int) (h1 : -360 ≤ p) (h2 : p ≤ 360) (w : World) (hT : Tz w) :
    Calls Tryz.prog 53 #[.int .i64 p] w (RMakes w (10 ^ p.toNat) (10 ^ (-p).toNat)) := by
  by_cases h : 0 ≤ p
  · obtain ⟨m, rfl⟩ : ∃ m : Nat, p = (m : Int) := ⟨p.toNat, by omega⟩
    have := ref19_tens_pos m (by omega) w hT
    rw [show ((m : Int)).toNat = m by omega, show (-(m : Int)).toNat = 0 by omega, Nat.pow_zero]
    exact this
  · obtain ⟨m, rfl⟩ : ∃ m : Nat, p = -(m : Int) := ⟨(-p).toNat, by omega⟩
    have := ref19_tens_neg m (by omega) (by omega) w hT
    rw [show (-(m : Int)).toNat = 0 by omega, show (-(-(m : Int))).toNat = m by omega, Nat.pow_zero]
    exact this
theorem cmpV_neg {a b : Nat} : decide (cmpV a b < 0) = decide (a < b) := by rw [decide_eq_decide]; exact cmpV_lt
theorem cmpV_ge {a b : Nat} : decide (0 ≤ cmpV a b) = !decide (a < b) := by
  rw [← cmpV_neg]
  by_cases h : cmpV a b < 0
  · rw [decide_eq_true h, decide_eq_false (by omega)]; rfl
  · rw [decide_eq_false h, decide_eq_true (by omega)]; rfl
theorem ref19_first (y n d : Nat) (P : Int) (ln : (limbs n).length < 40) (ld : (limbs d).length < 40) (hP1 : -350 ≤ P) (hP2 : P < 350)
    (hU : ∀ p : Int, -360 ≤ p → p ≤ 360 → (n * 10 ^ (-p).toNat < 10 ^ p.toNat * d ↔ P < p)) (w : World) (hT : Tz w) (hy : Rt w y n d) :
    Calls Tryz.prog 20 #[.pointer (some ⟨y, 0, none⟩)] w (Says w (.int .i64 P)) := by
  have hTn := fun p h1 h2 w h => ref19_tens p h1 h2 w h
  have hC : ∀ (p : Int), -360 ≤ p → p ≤ 360 → ∀ (t : Nat) (w : World), Rt w y n d → Rt w t (10 ^ p.toNat) (10 ^ (-p).toNat) → Calls Tryz.prog 52 #[.pointer (some ⟨y, 0, none⟩), .pointer (some ⟨t, 0, none⟩)] w fun e w' => ∃ c : Int, e = .returned (.int .i64 c) ∧ decide (c < 0) = decide (P < p) ∧ decide (0 ≤ c) = !decide (P < p) ∧ Below w.heap.size w w' := by
    intro p h1 h2 t w hy ht
    have la : (limbs (10 ^ p.toNat)).length < 40 := ten_len (by omega)
    have lb : (limbs (10 ^ (-p).toNat)).length < 40 := ten_len (by omega)
    refine (rat_Cmp y t n d (10 ^ p.toNat) (10 ^ (-p).toNat) (Nat.ne_of_gt (Nat.pow_pos (by decide))) (by omega) (by omega) (by omega) (by omega) (.inl ln) (.inl la) w hy ht).mono ?_
    rintro e w1 ⟨rfl, hb⟩
    exact ⟨_, rfl, by rw [cmpV_neg, decide_eq_decide]; exact hU p h1 h2, by rw [cmpV_ge]; congr 1; rw [decide_eq_decide]; exact hU p h1 h2, hb⟩
  have HC := Lib.hid hC
  have HTn := Lib.hid hTn
  clear hC hTn hU ln ld
  go_enter Tryz.func20, Tryz.ntmps20
  go_wp2
  go_loopw [3] (fun v3 wr => ∃ p : Int, p ≤ 0 ∧ (p = 0 ∨ P ≤ p) ∧ v3 = .int .i64 p ∧ Below w.heap.size w wr) (fun v3 _ => (intOf v3 - P + 400).toNat)
  case atStart => exact ⟨0, by omega, .inl rfl, rfl, Below.refl _ _⟩
  case round =>
    obtain ⟨p, hp0, hpP, rfl, hb⟩ := hrel
    go_wp2_with fail
    refine (HTn.out p (by omega) (by omega) _ (hT.below hb)).mono ?_
    rintro e w1 ⟨t, rfl, ht, rt, b1⟩
    have B1 := hb.trans (b1.mono hb.size)
    go_wp2_with fail
    refine (HC.out p (by omega) (by omega) t _ (hy.below B1) rt).mono ?_
    rintro e w2 ⟨c, rfl, hc1, hc2, b2⟩
    have B2 := B1.trans (b2.mono B1.size)
    by_cases h : P < p
    · rw [decide_eq_true h] at hc1
      clear hc2
      go_wp2
      go_roundw
      case rel => exact ⟨p - 1, by omega, .inr (by omega), rfl, B2⟩
      case measure => first | (simp [intOf]; done) | (simp [intOf]; omega)
    · rw [decide_eq_false h] at hc1
      clear hc2
      go_wp2
      go_loopw [3] (fun v3 wr => ∃ p : Int, -360 ≤ p ∧ p ≤ P ∧ v3 = .int .i64 p ∧ Below w.heap.size w wr) (fun v3 _ => (P - intOf v3 + 400).toNat)
      case atStart => exact ⟨p, by omega, by omega, rfl, B2⟩
      case round =>
        obtain ⟨q, hq0, hqP, rfl, hb'⟩ := hrel
        go_wp2_with fail
        refine (HTn.out (q + 1) (by omega) (by omega) _ (hT.below hb')).mono ?_
        rintro e w3 ⟨t', rfl, ht', rt', b3⟩
        have B3 := hb'.trans (b3.mono hb'.size)
        go_wp2_with fail
        refine (HC.out (q + 1) (by omega) (by omega) t' _ (hy.below B3) rt').mono ?_
        rintro e w4 ⟨c', rfl, hd1, hd2, b4⟩
        have B4 := B3.trans (b4.mono B3.size)
        by_cases h' : P < q + 1
        · rw [decide_eq_true h'] at hd2
          clear hd1
          have e : q = P := by omega
          have E := Lib.hid e
          clear e
          go_wp2
          go_ret
          exact ⟨by rw [E.out]; rfl, B4⟩
        · rw [decide_eq_false h'] at hd2
          clear hd1
          go_wp2
          go_roundw
          case rel => exact ⟨q + 1, by omega, by omega, rfl, B4⟩
          case measure => first | (simp [intOf]; done) | (simp [intOf]; omega)
end Bg
namespace Bg
theorem ref05_Bias (E F : Nat) (hE1 : 2 ≤ E) (hE2 : E ≤ 11) (w : World) :
    Calls Tryz.prog 49 #[.agg #[.int .i64 (E : Int), .int .i64 (F : Int)]] w (Says w (.int .i64 ((2 ^ (E - 1) : Nat) - 1 : Int))) := by
  obtain ⟨k, rfl⟩ : ∃ k, E = k + 1 := ⟨E - 1, by omega⟩
  have hk : k ≤ 10 := by omega
  rw [show k + 1 - 1 = k from rfl]
  have hp : 2 ^ k ≤ 1024 := Nat.le_trans (Nat.pow_le_pow_right (by decide) hk) (by decide)
  have hpos : 0 < 2 ^ k := Nat.two_pow_pos k
  go_enter Tryz.func49, Tryz.ntmps49
  go_wp2
  go_ret
  have e1 : (2 : Int) ^ k = ((2 ^ k : Nat) : Int) := by rw [Int.natCast_pow]; rfl
  have e2 : wrap64 (wrap64 ((2 : Int) ^ k) - 1) = ((2 ^ k : Nat) : Int) - 1 := by
    rw [e1]; unfold wrap64; omega
  refine ⟨?_, (Below.refl _ _).alloc (Nat.le_refl _) _⟩
  rw [← e2]
  rfl
end Bg

def tS (k : Int) : Nat := bitLen (5 ^ k.natAbs)
def tenN (k : Int) : Nat := if k < 0 then 2 ^ (tS k + 127) / 5 ^ k.natAbs else if tS k ≤ 128 then 5 ^ k.natAbs * 2 ^ (128 - tS k) else 5 ^ k.natAbs / 2 ^ (tS k - 128)
def tenE (k : Int) : Int := if k < 0 then k - ((tS k : Int) + 127) else k + (tS k : Int) - 128
def tenX (k : Int) : Bool := !decide (k < 0) && decide (tS k ≤ 128)
def farB (k : Int) : Bool := decide (k < -400) || decide (400 < k)
theorem bits_lo : ∀ j : Fin 401, 2 ^ 127 ≤ tenN (j.val : Int) ∧ tenN (j.val : Int) < 2 ^ 128 ∧ 2 ^ 127 ≤ tenN (-((j.val + 1 : Nat) : Int)) ∧ tenN (-((j.val + 1 : Nat) : Int)) < 2 ^ 128 ∧ tS (j.val : Int) ≤ 930 := by decide +kernel
theorem tS_neg (j : Nat) : tS (-(j : Int)) = tS (j : Int) := by unfold tS; rw [Int.natAbs_neg]
theorem ten_cases {k : Int} (h : farB k = false) : (∃ j : Nat, j ≤ 400 ∧ k = (j : Int)) ∨ ∃ j : Nat, 1 ≤ j ∧ j ≤ 400 ∧ k = -(j : Int) := by
  simp only [farB, Bool.or_eq_false_iff, decide_eq_false_iff_not] at h
  by_cases h0 : 0 ≤ k
  · exact .inl ⟨k.toNat, by omega, by omega⟩
  · exact .inr ⟨(-k).toNat, by omega, by omega, by omega⟩
theorem tenN_bd {k : Int} (h : farB k = false) : 2 ^ 127 ≤ tenN k ∧ tenN k < 2 ^ 128 := by
  rcases ten_cases h with ⟨j, hj, rfl⟩ | ⟨j, h1, hj, rfl⟩
  · have := bits_lo ⟨j, by omega⟩
    exact ⟨this.1, this.2.1⟩
  · have := bits_lo ⟨j - 1, by omega⟩
    simp only at this
    rw [show j - 1 + 1 = j by omega] at this
    exact ⟨this.2.2.1, this.2.2.2.1⟩
theorem tS_le {k : Int} (h : farB k = false) : tS k ≤ 930 := by
  rcases ten_cases h with ⟨j, hj, rfl⟩ | ⟨j, h1, hj, rfl⟩
  · exact (bits_lo ⟨j, by omega⟩).2.2.2.2
  · rw [tS_neg]; exact (bits_lo ⟨j, by omega⟩).2.2.2.2
theorem len5 : ∀ j : Fin 401, 5 ^ j.val < 4294967296 ^ 30 := by decide +kernel
end Go.Proofs.YtenekbfnlbipiaaGreatDoor
