/- Walks: layer 15's powers of ten are the 128 bits; layer 19: both ends of a number. -/
import Derived.Test.YtenekbfnlbipiaaGreatDoorBgAM
import Derived.Test.YtenekbfnlbipiaaGreatDoorBgAA
import Derived.Test.YtenekbfnlbipiaaGreatDoorBgA
import Derived.Test.YtenekbfnlbipiaaGreatDoorDec
namespace Go.Proofs.YtenekbfnlbipiaaGreatDoor
open Go.RowKit
set_option linter.unusedVariables false
set_option linter.unusedSimpArgs false
set_option maxHeartbeats 4000000
set_option maxRecDepth 100000
namespace Bg
def x0P (j : Nat) : Int := (bitLen (10 ^ j) : Int) - (bitLen 1 : Int) - 128
def x0N (j : Nat) : Int := (bitLen 1 : Int) - (bitLen (10 ^ j) : Int) - 128
def okP (j : Nat) : Bool := decide (bitLen (tA (10 ^ j) (x0P j) / tD 1 (x0P j)) ≠ 128) && decide (bitLen (tA (10 ^ j) (x0P j + 1) / tD 1 (x0P j + 1)) = 128) && decide (tA (10 ^ j) (x0P j + 1) / tD 1 (x0P j + 1) = tenN (j : Int)) && (decide (tA (10 ^ j) (x0P j + 1) % tD 1 (x0P j + 1) = 0) == tenX (j : Int)) && decide (x0P j + 1 = tenE (j : Int)) && decide (-2000 ≤ x0P j) && decide (x0P j ≤ 2000)
def okN (j : Nat) : Bool := decide (bitLen (tA 1 (x0N j) / tD (10 ^ j) (x0N j)) = 128) && decide (tA 1 (x0N j) / tD (10 ^ j) (x0N j) = tenN (-(j : Int))) && (decide (tA 1 (x0N j) % tD (10 ^ j) (x0N j) = 0) == tenX (-(j : Int))) && decide (x0N j = tenE (-(j : Int))) && decide (-2000 ≤ x0N j) && decide (x0N j ≤ 2000)
theorem okP_all : ∀ j : Fin 401, okP j.val = true := by decide +kernel
theorem okN_all : ∀ j : Fin 400, okN (j.val + 1) = true := by decide +kernel
theorem ten370 : ∀ j : Fin 371, 10 ^ j.val < 4294967296 ^ 39 := by decide +kernel
theorem ten_len370 {j : Nat} (h : j ≤ 370) : (limbs (10 ^ j)).length < 40 := by
  have := (length_limbs_le (10 ^ j) 39).2 (ten370 ⟨j, by omega⟩)
  omega
theorem ref15_Ten (k : Int) (h1 : -370 ≤ k) (h2 : k ≤ 370) (w : World) :
    Calls Tryz.prog 54 #[.int .i64 k] w (TenA w (tenN k) (tenE k) (tenX k)) := by
  by_cases h0 : 0 ≤ k
  · obtain ⟨j, rfl⟩ : ∃ j : Nat, k = (j : Int) := ⟨k.toNat, by omega⟩
    have ok := okP_all ⟨j, by omega⟩
    simp only [okP, Bool.and_eq_true, decide_eq_true_eq, beq_iff_eq] at ok
    obtain ⟨⟨⟨⟨⟨⟨a1, a2⟩, a3⟩, a4⟩, a5⟩, a6⟩, a7⟩ := ok
    have := ref15_Ten_pos j (by omega) (ten_len370 (by omega)) (x0P j) (x0P j + 1) (10 ^ j) 1 rfl rfl rfl a6 a7 (.inr ⟨rfl, a1⟩) a2 w
    rw [a3, a4, a5] at this
    exact this
  · obtain ⟨j, rfl⟩ : ∃ j : Nat, k = -(j : Int) := ⟨(-k).toNat, by omega⟩
    have ok := okN_all ⟨j - 1, by omega⟩
    rw [show (⟨j - 1, by omega⟩ : Fin 400).val + 1 = j by show j - 1 + 1 = j; omega] at ok
    simp only [okN, Bool.and_eq_true, decide_eq_true_eq, beq_iff_eq] at ok
    obtain ⟨⟨⟨⟨⟨a2, a3⟩, a4⟩, a5⟩, a6⟩, a7⟩ := ok
    have := ref15_Ten_neg j (by omega) (by omega) (ten_len370 (by omega)) (x0N j) (x0N j) 1 (10 ^ j) rfl rfl rfl a6 a7 (.inl rfl) a2 w
    rw [a3, a4, a5] at this
    exact this
def TimesA (w : World) (V N : Nat) (e : Ending) (w' : World) : Prop :=
  ∃ z n' d', e = .returned (.pointer (some ⟨z, 0, none⟩)) ∧ w.heap.size ≤ z ∧ Rt w' z n' d' ∧ Sc n' d' V N ∧ Below w.heap.size w w'
theorem ref19_times_sc (y i : Nat) (TI : TypeId) (restI : List Value) (n d m : Nat) (q : Int) (FR : Frac n d m q) (T N : Nat) (x : Int) (hT0 : T ≠ 0) (lT : (limbs T).length ≤ 5) (hx1 : -3000 ≤ x) (hx2 : x ≤ 3000) (hN : (N : Int) = -(x + q - 2)) (w : World) (hT : Tz w) (hy : Rt w y n d) (hi : Ob w i TI false T restI) :
    Calls Tryz.prog 58 #[.pointer (some ⟨y, 0, none⟩), .pointer (some ⟨i, 0, none⟩), .int .i64 x] w (TimesA w (T * (4 * m)) N) := by
  by_cases h0 : 0 ≤ x
  · obtain ⟨k, rfl⟩ : ∃ k : Nat, x = (k : Int) := ⟨x.toNat, by omega⟩
    obtain ⟨f2, sc⟩ := FR.sc_pos (k := k) hT0 lT (by omega) hN
    refine (ref19_times_pos y i restI TI n d T k (by omega) (FR.fit1 lT) f2 w hT hy hi).mono ?_
    rintro e w' ⟨z, rfl, hz, r, b⟩
    exact ⟨z, _, _, rfl, hz, r, sc, b⟩
  · obtain ⟨k, rfl⟩ : ∃ k : Nat, x = -(k : Int) := ⟨(-x).toNat, by omega⟩
    obtain ⟨f2, sc⟩ := FR.sc_neg (k := k) hT0 lT (by omega) hN
    refine (ref19_times_neg y i restI TI n d T k (by omega) (by omega) (FR.fit1 lT) f2 w hT hy hi).mono ?_
    rintro e w' ⟨z, rfl, hz, r, b⟩
    exact ⟨z, _, _, rfl, hz, r, sc, b⟩
def EndsA (w : World) (V1 V2 N : Nat) (e : Ending) (w' : World) : Prop :=
  ∃ z1 z2 n1 d1 n2 d2, e = .returned (.tuple #[.pointer (some ⟨z1, 0, none⟩), .pointer (some ⟨z2, 0, none⟩)]) ∧ Rt w' z1 n1 d1 ∧ Rt w' z2 n2 d2 ∧ Sc n1 d1 V1 N ∧ Sc n2 d2 V2 N ∧ Below w.heap.size w w'
theorem T5 {v : Nat} (h : v ≤ 2 ^ 128) : (limbs v).length ≤ 5 := (length_limbs_le v 5).2 (Nat.lt_of_le_of_lt h (by decide))
theorem ref19_ends (y n d m : Nat) (q : Int) (FR : Frac n d m q) (k s : Int) (hs : s = -k) (h1 : -370 ≤ k) (h2 : k ≤ 370) (N : Nat) (hN : (N : Int) = -(tenE k + q - 2)) (w : World) (hT : Tz w) (hy : Rt w y n d) :
    Calls Tryz.prog 21 #[.pointer (some ⟨y, 0, none⟩), .int .i64 s] w (EndsA w (tenN k * (4 * m)) (kB k * (4 * m)) N) := by
  subst hs
  have hf : farB k = false := by simp only [farB, Bool.or_eq_false_iff, decide_eq_false_iff_not]; omega
  obtain ⟨t1, t2⟩ := tenN_bd hf
  have hE : -3000 ≤ tenE k ∧ tenE k ≤ 3000 := by
    have := tS_le hf
    unfold tenE
    split <;> omega
  have hTn := fun W => ref15_Ten k h1 h2 W
  have hk : kB k = tenN k + (if tenX k then 0 else 1) := rfl
  have hT1 := fun y' i W hW h3 h4 => ref19_times_sc y' i 95 [] n d m q FR (tenN k) N (tenE k) (by omega) (T5 (by omega)) hE.1 hE.2 hN W hW h3 h4
  have hT2 := fun y' i W hW h3 h4 => ref19_times_sc y' i 95 [] n d m q FR (kB k) N (tenE k) (by rw [hk]; omega) (T5 (by rw [hk]; split <;> omega)) hE.1 hE.2 hN W hW h3 h4
  have lT : (limbs (tenN k)).length ≤ 5 := T5 (by omega)
  clear t1 t2 hf hN FR
  generalize tenE k = x at *
  generalize tenN k = T at *
  cases hX : tenX k with
  | true =>
    rw [hX] at hk hTn
    rw [show kB k = T from hk] at hT2 ⊢
    clear hk hX
    go_enter Tryz.func21, Tryz.ntmps21
    go_wp2_with fail
    refine (hTn _).mono ?_
    rintro e w1 ⟨t, rfl, ht, ot, b1⟩
    have y1 := hy.below b1
    have tlt := ot.lt
    have al2 : Below w1.heap.size w1 (w1.alloc (.cells #[.bool false, .slice none 0 0] 95)) := (Below.refl _ _).alloc (Nat.le_refl _) _
    have k2 : At (w1.alloc (.cells #[.bool false, .slice none 0 0] 95)) w1.heap.size 95 [] := ⟨_, _, Blk.new w1 _ _⟩
    go_wp2_with fail
    have B2 := b1.trans (al2.mono b1.size)
    refine (int_Set w1.heap.size t 95 95 [] [] (by decide) T _ k2 (ot.below al2)).mono ?_
    rintro e w3 ⟨rfl, h3, ou⟩
    have ylt := y1.lt
    have ot3 := (ot.below al2).hole k2 (by decide) (show t ≠ w1.heap.size by omega) h3
    have y3 := (y1.below al2).hole k2 (by decide) (show y ≠ w1.heap.size by omega) h3
    have B3 := hole_fresh B2 h3 b1.size
    clear h3 k2 al2 B2 ot
    go_wp2_with fail
    refine (hT1 y t _ (hT.below B3) y3 ot3).mono ?_
    rintro e w6 ⟨z1, n1, d1, rfl, hz1, r1, sc1, b6⟩
    have y6 := y3.below b6
    have u6 := ou.below b6
    have B6 := B3.trans (b6.mono B3.size)
    go_wp2_with fail
    refine (hT2 y w1.heap.size _ (hT.below B6) y6 u6).mono ?_
    rintro e w7 ⟨z2, n2, d2, rfl, hz2, r2, sc2, b7⟩
    have r17 := r1.below b7
    have B7 := B6.trans (b7.mono B6.size)
    clear hT1 hT2
    go_wp2
    go_ret2
    exact ⟨z1, z2, n1, d1, n2, d2, rfl, r17, r2, sc1, sc2, B7⟩
  | false =>
    rw [hX] at hk hTn
    rw [show kB k = T + 1 from hk] at hT2 ⊢
    clear hk hX
    go_enter Tryz.func21, Tryz.ntmps21
    go_wp2_with fail
    refine (hTn _).mono ?_
    rintro e w1 ⟨t, rfl, ht, ot, b1⟩
    have y1 := hy.below b1
    have tlt := ot.lt
    have al2 : Below w1.heap.size w1 (w1.alloc (.cells #[.bool false, .slice none 0 0] 95)) := (Below.refl _ _).alloc (Nat.le_refl _) _
    have k2 : At (w1.alloc (.cells #[.bool false, .slice none 0 0] 95)) w1.heap.size 95 [] := ⟨_, _, Blk.new w1 _ _⟩
    go_wp2_with fail
    have B2 := b1.trans (al2.mono b1.size)
    refine (int_Set w1.heap.size t 95 95 [] [] (by decide) T _ k2 (ot.below al2)).mono ?_
    rintro e w3 ⟨rfl, h3, ou⟩
    have ylt := y1.lt
    have ot3 := (ot.below al2).hole k2 (by decide) (show t ≠ w1.heap.size by omega) h3
    have y3 := (y1.below al2).hole k2 (by decide) (show y ≠ w1.heap.size by omega) h3
    have B3 := hole_fresh B2 h3 b1.size
    clear h3 k2 al2 B2 ot
    go_wp2_with fail
    refine (big_NewInt 1 (by decide) _).mono ?_
    rintro e w4 ⟨o, rfl, ho, oo, b4⟩
    have ou4 := ou.below b4
    have ot4 := ot3.below b4
    have y4 := y3.below b4
    have B4 := B3.trans (b4.mono B3.size)
    have ot3s := ou.lt
    go_wp2_with fail
    refine (int_Add w1.heap.size w1.heap.size o 95 95 95 [] [] [] (by decide) T 1 (by have : (limbs 1).length = 1 := rfl; omega) _ ou4.at_ ou4 oo).mono ?_
    rintro e w5 ⟨rfl, h5, ou5⟩
    have ot5 := ot4.hole ou4.at_ (by decide) (show t ≠ w1.heap.size by omega) h5
    have y5 := y4.hole ou4.at_ (by decide) (show y ≠ w1.heap.size by omega) h5
    have B5 := hole_fresh B4 h5 b1.size
    clear h5 ou4 ot4 y4 B4 oo ot3 y3 B3 ou b4
    go_wp2_with fail
    refine (hT1 y t _ (hT.below B5) y5 ot5).mono ?_
    rintro e w6 ⟨z1, n1, d1, rfl, hz1, r1, sc1, b6⟩
    have y6 := y5.below b6
    have u6 := ou5.below b6
    have B6 := B5.trans (b6.mono B5.size)
    go_wp2_with fail
    refine (hT2 y w1.heap.size _ (hT.below B6) y6 u6).mono ?_
    rintro e w7 ⟨z2, n2, d2, rfl, hz2, r2, sc2, b7⟩
    have r17 := r1.below b7
    have B7 := B6.trans (b7.mono B6.size)
    clear hT1 hT2
    go_wp2
    go_ret2
    exact ⟨z1, z2, n1, d1, n2, d2, rfl, r17, r2, sc1, sc2, B7⟩
end Bg

theorem info_u8 : (Tryz.prog.info? 5).map (fun i => (i.zero, i.size, i.bytes)) = some (some (.int .u8 0), 1, 1) := by kernel_rfl
theorem under_u8s : Tryz.prog.underlying 180 = some (.slice 5) := Tryz.underlying180
theorem under_u8 : Tryz.prog.underlying 5 = some (.int .u8) := Tryz.underlying5
theorem under_str : Tryz.prog.underlying 9 = some .string := Tryz.underlying9
theorem elem8 : ElemOf Tryz.prog 180 5 .u8 := by
  obtain ⟨i, hi, hz, hs, hb⟩ := info_parts info_u8
  exact ⟨under_u8s, i, 1, hi, hz, hs, hb, by decide⟩
theorem mk8 (n : Nat) (N : Int) (hN : N = (n : Int)) (hn : n ≤ 35184372088832) (w : World) :
    (Instr.makeSlice 180 (.int .i64 N) (.int .i64 N)).run Tryz.prog w = .ok (.slice (some ⟨w.heap.size, 0, none⟩) n n) (w.alloc (.cells (ints .u8 (List.replicate n 0)).toArray 5)) := by
  obtain ⟨i, hi, hz, hs, hb⟩ := info_parts info_u8
  exact run_makeK _ _ .u8 i under_u8s hi hz hs (by omega) n N hN hn w

def cap6 : Nat := 600000
theorem cap_lt (x y : Nat) (h1 : x < y) (h2 : y ≤ 524289) : cap6 - y < cap6 - x := by unfold cap6; omega
theorem gap_lt {Q i a b : Nat} (hQ : Q = 0) (hI : i = 0 → 0 < 0 + 10 ^ 9 * Q) (h : a + i ≤ b) : a < b := by
  rcases Nat.eq_zero_or_pos i with h0 | h0
  · have := hI h0
    rw [hQ] at this; simp at this
  · omega
theorem nine_mod (r i Q : Nat) (hi : i < 9) : (r + 10 ^ (9 - i) * Q) % 10 = r % 10 ∧ (r + 10 ^ (9 - i) * Q) / 10 = r / 10 + 10 ^ (9 - (i + 1)) * Q := by
  have e : 10 ^ (9 - i) = 10 * 10 ^ (9 - (i + 1)) := by
    rw [← Nat.pow_succ']; congr 1; omega
  rw [e, Nat.mul_assoc]
  generalize 10 ^ (9 - (i + 1)) * Q = X
  omega
theorem nine_lt (r i : Nat) (hi : i < 9) (h : r < 10 ^ (9 - i)) : r / 10 < 10 ^ (9 - (i + 1)) := by
  have e : 10 ^ (9 - i) = 10 * 10 ^ (9 - (i + 1)) := by
    rw [← Nat.pow_succ']; congr 1; omega
  rw [e] at h
  omega
theorem rev_of {o b : List Nat} (hl : o.length = b.length) (h : ∀ j, j < b.length → nth o j = nth b (b.length - 1 - j)) : o = b.reverse := by
  apply List.ext_getElem
  · simp [hl]
  · intro j h1 h2
    have := h j (by omega)
    rw [nth_lt o h1, nth_lt b (by omega)] at this
    rw [List.getElem_reverse, this]
end Go.Proofs.YtenekbfnlbipiaaGreatDoor
