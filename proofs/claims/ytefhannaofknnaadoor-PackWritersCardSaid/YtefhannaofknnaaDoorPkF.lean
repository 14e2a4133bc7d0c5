/- Forms, for the pack layer: may a form be, does a float fit; how many bits. -/
import Derived.Test.YtefhannaofknnaaDoorProg
import Derived.Test.YtefhannaofknnaaDoorMem
import Derived.Test.YtefhannaofknnaaDoorApp
import Derived.Test.YtefhannaofknnaaDoorByt
import Derived.Deep.QuietTactic
import Derived.BigQuiet
import Derived.Handy
import Derived.Lib.BitFns
import Derived.Deep.RegionHeld3
namespace Go.Proofs.YtefhannaofknnaaDoor
open Go.RowKit
set_option linter.unusedVariables false
set_option linter.unusedSimpArgs false
set_option maxHeartbeats 4000000
set_option maxRecDepth 100000

theorem bdn {B : Nat} {a w : World} (h : Below B a w) (n : Nat) : Below B a (w.drewN n) := h.trans ⟨rfl, rfl, rfl, Nat.le_refl _, fun _ _ => rfl⟩

theorem quiet_add_left {P : Program} {f : FuncId} {args : Array Value} {w : World} {a n : Nat} {v : Value}
    (h : Calls P f args (w.drewN (a + n)) fun e w' => e = .returned v ∧ w.drewN (a + n) = w') :
    Calls P f args (w.drewN (a + n)) fun e w'' => e = .returned v ∧ ∃ m, w'' = w.drewN (a + m) :=
  h.mono fun _ _ ⟨he, hm⟩ => ⟨he, n, hm.symm⟩

theorem quiet_left {P : Program} {f : FuncId} {args : Array Value} {w : World} {n : Nat} {v : Value}
    (h : Calls P f args (w.drewN n) fun e w' => e = .returned v ∧ w.drewN n = w') : Calls P f args (w.drewN n) fun e w'' => e = .returned v ∧ ∃ m, w'' = w.drewN m :=
  h.mono fun _ _ ⟨he, hm⟩ => ⟨he, n, hm.symm⟩

theorem cell_keep {W w1 : World} {a : Addr} {v : Value} (hb : Below W.heap.size W w1) (h : W.cell? a = some v) : w1.cell? a = some v := by
  rw [hb.cell (cell_lt h)]; exact h

def chkF (e f : Int) : Int := if e < 2 ∨ 11 < e ∨ f < 1 ∨ 52 < f then 5 else 0

theorem ref_Pow2 (S : Int) (s P : Nat) (hS : S = (s : Int)) (hs : s < 64) (hP : P = 2 ^ s) (w : World) :
    Calls Tryd.prog 50 #[.int .i64 S] w fun e w' => e = .returned (.int .u64 (P : Int)) ∧ w = w' := by
  subst hS
  have HPP := Lib.hid hP
  clear hP
  go_enter Tryd.func50, Tryd.ntmps50
  go_wp2
  go_loop [3, 4] (fun v i => ∃ (k p : Nat), k ≤ s ∧ i = .int .i64 (k : Int) ∧ p = 2 ^ k ∧ v = .int .u64 (p : Int)) (fun _ i => s - (intOf i).toNat)
  case atStart => exact ⟨0, 1, Nat.zero_le _, rfl, rfl, rfl⟩
  case round =>
    obtain ⟨k, p, hk, rfl, hp, rfl⟩ := hrel
    have HP := Lib.hid hp
    by_cases hk1 : k < s
    · have hlt : p < 9223372036854775808 := by
        have h1 : 2 ^ k ≤ 2 ^ 62 := Nat.pow_le_pow_right (by decide) (by omega)
        rw [hp]; omega
      clear hp
      go_wp2
      go_round
      case rel => exact ⟨k + 1, p * 2, by omega, by go_num, by rw [HP.out, Nat.pow_succ], by go_num⟩
      case measure => first | (simp [intOf]; done) | (simp [intOf]; omega)
    · have hks : k = s := by omega
      clear hp
      go_wp2
      go_ret
      have hps : p = P := by rw [HP.out, hks, HPP.out]
      subst hps
      exact ⟨rfl, rfl⟩

theorem forms_Check (e f : Int) (w : World) :
    Calls Tryd.prog 31 #[.agg #[.int .i64 e, .int .i64 f]] w (Says w (.int .i64 (chkF e f))) := by
  have hb : Below w.heap.size w (w.alloc (.cells #[.int .i64 e, .int .i64 f] 23)) := (Below.refl _ _).alloc (Nat.le_refl _) _
  by_cases h : e < 2 ∨ 11 < e ∨ f < 1 ∨ 52 < f
  · rw [show chkF e f = 5 from by unfold chkF; rw [if_pos h]]
    have hc : e < 2 ∨ (¬ e < 2 ∧ 11 < e) ∨ (¬ e < 2 ∧ ¬ 11 < e ∧ f < 1) ∨ (¬ e < 2 ∧ ¬ 11 < e ∧ ¬ f < 1 ∧ 52 < f) := by omega
    clear h
    rcases hc with h1 | ⟨h1, h2⟩ | ⟨h1, h2, h3⟩ | ⟨h1, h2, h3, h4⟩
    all_goals (
      go_enter Tryd.func31, Tryd.ntmps31
      go_wp2
      go_ret
      exact ⟨rfl, hb⟩)
  · rw [show chkF e f = 0 from by unfold chkF; rw [if_neg h]]
    have h1 : ¬ e < 2 := by omega
    have h2 : ¬ 11 < e := by omega
    have h3 : ¬ f < 1 := by omega
    have h4 : ¬ 52 < f := by omega
    go_enter Tryd.func31, Tryd.ntmps31
    go_wp2
    go_ret
    exact ⟨rfl, hb⟩

theorem ref_Check (e f : Int) (w : World) :
    Calls Tryd.prog 12 #[.agg #[.int .i64 e, .int .i64 f]] w (Says w (.int .i64 (chkF e f))) := by
  have hb : Below w.heap.size w (w.alloc (.cells #[.int .i64 e, .int .i64 f] 23)) := (Below.refl _ _).alloc (Nat.le_refl _) _
  by_cases h : e < 2 ∨ 11 < e ∨ f < 1 ∨ 52 < f
  · rw [show chkF e f = 5 from by unfold chkF; rw [if_pos h]]
    have hc : e < 2 ∨ (¬ e < 2 ∧ 11 < e) ∨ (¬ e < 2 ∧ ¬ 11 < e ∧ f < 1) ∨ (¬ e < 2 ∧ ¬ 11 < e ∧ ¬ f < 1 ∧ 52 < f) := by omega
    clear h
    rcases hc with h1 | ⟨h1, h2⟩ | ⟨h1, h2, h3⟩ | ⟨h1, h2, h3, h4⟩
    all_goals (
      go_enter Tryd.func12, Tryd.ntmps12
      go_wp2
      go_ret
      exact ⟨rfl, hb⟩)
  · rw [show chkF e f = 0 from by unfold chkF; rw [if_neg h]]
    have h1 : ¬ e < 2 := by omega
    have h2 : ¬ 11 < e := by omega
    have h3 : ¬ f < 1 := by omega
    have h4 : ¬ 52 < f := by omega
    go_enter Tryd.func12, Tryd.ntmps12
    go_wp2
    go_ret
    exact ⟨rfl, hb⟩

theorem shl_eq (m k : Nat) (hk : k < 64) (h : m * 2 ^ k < 18446744073709551616) : IntKind.u64.wrap ((m : Int) * 2 ^ k) = ((m * 2 ^ k : Nat) : Int) := by
  have h3 : ((m : Int) * 2 ^ k) = ((m * 2 ^ k : Nat) : Int) := by push_cast; rfl
  rw [h3, IntKind.wrap_u64]; omega

theorem chk_ok {e f : Int} (h : chkF e f = 0) : ∃ E F : Nat, e = (E : Int) ∧ f = (F : Int) ∧ 2 ≤ E ∧ E ≤ 11 ∧ 1 ≤ F ∧ F ≤ 52 := by
  unfold chkF at h
  split at h
  · cases h
  · exact ⟨e.toNat, f.toNat, by omega, by omega, by omega, by omega, by omega, by omega⟩

theorem chk_no {e f : Int} (h : ¬ chkF e f = 0) : chkF e f = 5 := by
  unfold chkF at h ⊢
  split at h
  · rw [if_pos (by assumption)]
  · exact absurd rfl h

theorem libLen_le (x k : Nat) (hk : k < 64) (hx : x < 18446744073709551616) : Lib.bitLen x ≤ k ↔ x < 2 ^ k := by
  constructor
  · intro h
    rcases Nat.lt_or_ge x (2 ^ k) with h1 | h1
    · exact h1
    · have h2 := Lib.bitLen_shift k x h1 hx
      have h3 : x / 2 ^ k ≠ 0 := by
        have := Nat.div_pos h1 (Nat.two_pow_pos k)
        omega
      have h4 := Lib.bitLen_half (x / 2 ^ k) h3 (Nat.lt_of_le_of_lt (Nat.div_le_self _ _) hx)
      omega
  · exact Lib.bitLen_le x k (by omega)

theorem bits_Len64 (x : Int) (w : World) (h0 : 0 ≤ x) (h1 : x ≤ 18446744073709551615) :
    Calls Tryd.prog 37 #[.int .u64 x] w fun e w' => e = .returned (.int .i64 (Lib.bitLen x.toNat : Int)) ∧ w = w' := by
  have fin : ∀ (y : Int) (k : Nat), 0 ≤ y → y ≤ 255 → k ≤ 56 → Lib.bitLen x.toNat = k + Lib.bitLen y.toNat → wrap64 ((k : Int) + wrap64 (Lib.len8 y)) = (Lib.bitLen x.toNat : Int) := by
    intro y k h0 h1 hk e
    have l := Lib.bitLen_le8' y h0 h1
    rw [Lib.len8_of y h0 h1, e]
    unfold wrap64
    omega
  by_cases a1 : x < 4294967296
  · by_cases a2 : x < 65536
    · by_cases a3 : x < 256
      · have b1 : x ≤ 255 := by omega
        have f := fin x 0 h0 b1 (by omega) (by omega)
        rw [show ((0 : Nat) : Int) = 0 from rfl, Int.zero_add] at f
        have F := Lib.hid f
        clear f fin
        go_enter Tryd.func37, Tryd.ntmps37
        go_wp2
        go_ret
        refine ⟨congrArg Ending.returned (congrArg (Value.int IntKind.i64) ?_), rfl⟩
        exact F.out
      · have b0 : 0 ≤ x / 256 := by omega
        have b1 : x / 256 ≤ 255 := by omega
        have F := Lib.hid (fin (x / 256) 8 b0 b1 (by omega) (by have := Lib.bitLen_shift8 x.toNat (by omega) (by omega); rw [show (x / 256).toNat = x.toNat / 256 from by omega]; exact this))
        clear fin
        go_enter Tryd.func37, Tryd.ntmps37
        go_wp2
        go_ret
        refine ⟨congrArg Ending.returned (congrArg (Value.int IntKind.i64) ?_), rfl⟩
        rw [← F.out]
        have := Lib.len8_of (x / 256) b0 b1
        have := Lib.bitLen_le8' (x / 256) b0 b1
        unfold wrap64
        omega
    · by_cases a3 : x / 65536 < 256
      · have b0 : 0 ≤ x / 65536 := by omega
        have b1 : x / 65536 ≤ 255 := by omega
        have F := Lib.hid (fin (x / 65536) 16 b0 b1 (by omega) (by have := Lib.bitLen_shift16 x.toNat (by omega) (by omega); rw [show (x / 65536).toNat = x.toNat / 65536 from by omega]; exact this))
        clear fin
        go_enter Tryd.func37, Tryd.ntmps37
        go_wp2
        go_ret
        refine ⟨congrArg Ending.returned (congrArg (Value.int IntKind.i64) ?_), rfl⟩
        rw [← F.out]
        have := Lib.len8_of (x / 65536) b0 b1
        have := Lib.bitLen_le8' (x / 65536) b0 b1
        unfold wrap64
        omega
      · have b0 : 0 ≤ x / 65536 / 256 := by omega
        have b1 : x / 65536 / 256 ≤ 255 := by omega
        have F := Lib.hid (fin (x / 65536 / 256) 24 b0 b1 (by omega) (by have := Lib.bitLen_shift24 x.toNat (by omega) (by omega); rw [show (x / 65536 / 256).toNat = x.toNat / 16777216 from by omega]; exact this))
        clear fin
        go_enter Tryd.func37, Tryd.ntmps37
        go_wp2
        go_ret
        refine ⟨congrArg Ending.returned (congrArg (Value.int IntKind.i64) ?_), rfl⟩
        rw [← F.out]
        have := Lib.len8_of (x / 65536 / 256) b0 b1
        have := Lib.bitLen_le8' (x / 65536 / 256) b0 b1
        unfold wrap64
        omega
  · by_cases a2 : x / 4294967296 < 65536
    · by_cases a3 : x / 4294967296 < 256
      · have b0 : 0 ≤ x / 4294967296 := by omega
        have b1 : x / 4294967296 ≤ 255 := by omega
        have F := Lib.hid (fin (x / 4294967296) 32 b0 b1 (by omega) (by have := Lib.bitLen_shift32 x.toNat (by omega) (by omega); rw [show (x / 4294967296).toNat = x.toNat / 4294967296 from by omega]; exact this))
        clear fin
        go_enter Tryd.func37, Tryd.ntmps37
        go_wp2
        go_ret
        refine ⟨congrArg Ending.returned (congrArg (Value.int IntKind.i64) ?_), rfl⟩
        rw [← F.out]
        have := Lib.len8_of (x / 4294967296) b0 b1
        have := Lib.bitLen_le8' (x / 4294967296) b0 b1
        unfold wrap64
        omega
      · have b0 : 0 ≤ x / 4294967296 / 256 := by omega
        have b1 : x / 4294967296 / 256 ≤ 255 := by omega
        have F := Lib.hid (fin (x / 4294967296 / 256) 40 b0 b1 (by omega) (by have := Lib.bitLen_shift40 x.toNat (by omega) (by omega); rw [show (x / 4294967296 / 256).toNat = x.toNat / 1099511627776 from by omega]; exact this))
        clear fin
        go_enter Tryd.func37, Tryd.ntmps37
        go_wp2
        go_ret
        refine ⟨congrArg Ending.returned (congrArg (Value.int IntKind.i64) ?_), rfl⟩
        rw [← F.out]
        have := Lib.len8_of (x / 4294967296 / 256) b0 b1
        have := Lib.bitLen_le8' (x / 4294967296 / 256) b0 b1
        unfold wrap64
        omega
    · by_cases a3 : x / 4294967296 / 65536 < 256
      · have b0 : 0 ≤ x / 4294967296 / 65536 := by omega
        have b1 : x / 4294967296 / 65536 ≤ 255 := by omega
        have F := Lib.hid (fin (x / 4294967296 / 65536) 48 b0 b1 (by omega) (by have := Lib.bitLen_shift48 x.toNat (by omega) (by omega); rw [show (x / 4294967296 / 65536).toNat = x.toNat / 281474976710656 from by omega]; exact this))
        clear fin
        go_enter Tryd.func37, Tryd.ntmps37
        go_wp2
        go_ret
        refine ⟨congrArg Ending.returned (congrArg (Value.int IntKind.i64) ?_), rfl⟩
        rw [← F.out]
        have := Lib.len8_of (x / 4294967296 / 65536) b0 b1
        have := Lib.bitLen_le8' (x / 4294967296 / 65536) b0 b1
        unfold wrap64
        omega
      · have b0 : 0 ≤ x / 4294967296 / 65536 / 256 := by omega
        have b1 : x / 4294967296 / 65536 / 256 ≤ 255 := by omega
        have F := Lib.hid (fin (x / 4294967296 / 65536 / 256) 56 b0 b1 (by omega) (by have := Lib.bitLen_shift56 x.toNat (by omega) (by omega); rw [show (x / 4294967296 / 65536 / 256).toNat = x.toNat / 72057594037927936 from by omega]; exact this))
        clear fin
        go_enter Tryd.func37, Tryd.ntmps37
        go_wp2
        go_ret
        refine ⟨congrArg Ending.returned (congrArg (Value.int IntKind.i64) ?_), rfl⟩
        rw [← F.out]
        have := Lib.len8_of (x / 4294967296 / 65536 / 256) b0 b1
        have := Lib.bitLen_le8' (x / 4294967296 / 65536 / 256) b0 b1
        unfold wrap64
        omega

theorem len64_n {b : Nat} (n : Nat) (hn : n = Lib.bitLen b) (hb : b < 18446744073709551616) (w : World) :
    Calls Tryd.prog 37 #[.int .u64 (b : Int)] w fun e w' => e = .returned (.int .i64 (n : Int)) ∧ w = w' := by
  have := bits_Len64 (b : Int) w (by omega) (by omega)
  rw [Int.toNat_natCast, ← hn] at this
  exact this

def fitF (E F b : Nat) : Int := if 2 ^ (1 + E + F) ≤ b then 6 else 0

def fitE (e f : Int) (b : Nat) : Int := if chkF e f = 0 then fitF e.toNat f.toNat b else chkF e f

theorem forms_Fits (e f B : Int) (b : Nat) (hB : B = (b : Int)) (hb64 : b < 18446744073709551616) (w : World) :
    Calls Tryd.prog 26 #[.agg #[.int .i64 e, .int .i64 f], .int .u64 B] w (Says w (.int .i64 (fitE e f b))) := by
  subst hB
  by_cases hc : chkF e f = 0
  · obtain ⟨E, F, rfl, rfl, hE1, hE2, hF1, hF2⟩ := chk_ok hc
    have HC := Lib.hid hc
    have hj : fitE (E : Int) (F : Int) b = fitF E F b := by unfold fitE; rw [if_pos hc]; rfl
    rw [hj]
    clear hj hc
    have hl : (2 ^ (1 + E + F) ≤ b ↔ 1 + E + F < Lib.bitLen b) := by
      by_cases h64 : 1 + E + F < 64
      · have := libLen_le b (1 + E + F) h64 hb64
        omega
      · have h1 := Lib.bitLen_le b 64 (by omega) hb64
        have h2 : 2 ^ (1 + E + F) = 2 ^ 64 := by rw [show 1 + E + F = 64 from by omega]
        omega
    obtain ⟨n, hn⟩ : ∃ n, n = Lib.bitLen b := ⟨_, rfl⟩
    have HN := Lib.hid hn
    rw [← hn] at hl
    clear hn
    by_cases hk : 1 + E + F < n
    · rw [show fitF E F b = 6 from by unfold fitF; rw [if_pos (hl.2 hk)]]
      have hd : decide ((1 : Int) + (E : Int) + (F : Int) < (n : Int)) = true := by rw [decide_eq_true_iff]; omega
      clear hl
      go_enter Tryd.func26, Tryd.ntmps26
      go_wp2_with fail
      refine (forms_Check _ _ _).mono ?_
      rintro r w1 ⟨rfl, hb1⟩
      rw [HC.out]
      obtain ⟨hc1, hf1⟩ := bcell hb1
      have hbw1 : Below w.heap.size w w1 := Below.trans (b := _) (by repeat' (first | (with_reducible assumption) | (with_reducible exact Below.refl _ _) | (with_reducible refine bdn ?_ _) | (with_reducible refine Below.drew ?_) | (with_reducible refine Below.setCell ?_ ?_ _) | (with_reducible refine Below.alloc ?_ ?_ _) | go_size)) (hb1.mono (by go_size))
      have hz1_0 : w.heap.size < w1.heap.size := by have := hb1.size; simp at this; omega
      go_wp2
      go_quiet ((go_at_call 37; exact quiet_left (len64_n n HN.out hb64 _)))
      go_wp2
      go_ret
      exact ⟨rfl, (by repeat' (first | (with_reducible assumption) | (with_reducible exact Below.refl _ _) | (with_reducible refine bdn ?_ _) | (with_reducible refine Below.drew ?_) | (with_reducible refine Below.setCell ?_ ?_ _) | (with_reducible refine Below.alloc ?_ ?_ _) | go_size))⟩
    · rw [show fitF E F b = 0 from by unfold fitF; rw [if_neg (fun h => hk (hl.1 h))]]
      have hd : decide ((1 : Int) + (E : Int) + (F : Int) < (n : Int)) = false := by rw [decide_eq_false_iff_not]; omega
      clear hl
      go_enter Tryd.func26, Tryd.ntmps26
      go_wp2_with fail
      refine (forms_Check _ _ _).mono ?_
      rintro r w1 ⟨rfl, hb1⟩
      rw [HC.out]
      obtain ⟨hc1, hf1⟩ := bcell hb1
      have hbw1 : Below w.heap.size w w1 := Below.trans (b := _) (by repeat' (first | (with_reducible assumption) | (with_reducible exact Below.refl _ _) | (with_reducible refine bdn ?_ _) | (with_reducible refine Below.drew ?_) | (with_reducible refine Below.setCell ?_ ?_ _) | (with_reducible refine Below.alloc ?_ ?_ _) | go_size)) (hb1.mono (by go_size))
      have hz1_0 : w.heap.size < w1.heap.size := by have := hb1.size; simp at this; omega
      go_wp2
      go_quiet ((go_at_call 37; exact quiet_left (len64_n n HN.out hb64 _)))
      go_wp2
      go_ret
      exact ⟨rfl, (by repeat' (first | (with_reducible assumption) | (with_reducible exact Below.refl _ _) | (with_reducible refine bdn ?_ _) | (with_reducible refine Below.drew ?_) | (with_reducible refine Below.setCell ?_ ?_ _) | (with_reducible refine Below.alloc ?_ ?_ _) | go_size))⟩
  · rw [show fitE e f b = 5 from by unfold fitE; rw [if_neg hc, chk_no hc]]
    have HC := Lib.hid (chk_no hc)
    clear hc
    go_enter Tryd.func26, Tryd.ntmps26
    go_wp2_with fail
    refine (forms_Check _ _ _).mono ?_
    rintro r w1 ⟨rfl, hb1⟩
    rw [HC.out]
    obtain ⟨hc1, hf1⟩ := bcell hb1
    have hbw1 : Below w.heap.size w w1 := Below.trans (b := _) (by repeat' (first | (with_reducible assumption) | (with_reducible exact Below.refl _ _) | (with_reducible refine bdn ?_ _) | (with_reducible refine Below.drew ?_) | (with_reducible refine Below.setCell ?_ ?_ _) | (with_reducible refine Below.alloc ?_ ?_ _) | go_size)) (hb1.mono (by go_size))
    have hz1_0 : w.heap.size < w1.heap.size := by have := hb1.size; simp at this; omega
    go_wp2
    go_ret
    exact ⟨rfl, hbw1⟩

theorem ref_Fits (e f B : Int) (b : Nat) (hB : B = (b : Int)) (hb64 : b < 18446744073709551616) (w : World) :
    Calls Tryd.prog 32 #[.agg #[.int .i64 e, .int .i64 f], .int .u64 B] w (Says w (.int .i64 (fitE e f b))) := by
  subst hB
  by_cases hc : chkF e f = 0
  · obtain ⟨E, F, rfl, rfl, hE1, hE2, hF1, hF2⟩ := chk_ok hc
    have HC := Lib.hid hc
    have hj : fitE (E : Int) (F : Int) b = fitF E F b := by unfold fitE; rw [if_pos hc]; rfl
    rw [hj]
    clear hj hc
    by_cases h63 : E + F < 63
    · obtain ⟨P, hP⟩ : ∃ P, P = 2 ^ (1 + E + F) := ⟨_, rfl⟩
      have HP := Lib.hid hP
      have hd : decide ((E : Int) + (F : Int) < 63) = true := by rw [decide_eq_true_iff]; omega
      by_cases hk : P ≤ b
      · rw [show fitF E F b = 6 from by unfold fitF; rw [← hP, if_pos hk]]
        have hk2 : decide ((P : Int) ≤ (b : Int)) = true := by rw [decide_eq_true_iff]; omega
        clear hP
        go_enter Tryd.func32, Tryd.ntmps32
        go_wp2_with fail
        refine (ref_Check _ _ _).mono ?_
        rintro r w1 ⟨rfl, hb1⟩
        rw [HC.out]
        obtain ⟨hc1, hf1⟩ := bcell hb1
        have hbw1 : Below w.heap.size w w1 := Below.trans (b := _) (by repeat' (first | (with_reducible assumption) | (with_reducible exact Below.refl _ _) | (with_reducible refine bdn ?_ _) | (with_reducible refine Below.drew ?_) | (with_reducible refine Below.setCell ?_ ?_ _) | (with_reducible refine Below.alloc ?_ ?_ _) | go_size)) (hb1.mono (by go_size))
        have hz1_0 : w.heap.size < w1.heap.size := by have := hb1.size; simp at this; omega
        go_wp2_with fail
        refine (ref_Pow2 _ (1 + E + F) P (by omega) (by omega) HP.out _).mono ?_
        rintro r w2 ⟨rfl, rfl⟩
        go_wp2
        go_ret
        exact ⟨rfl, (by repeat' (first | (with_reducible assumption) | (with_reducible exact Below.refl _ _) | (with_reducible refine bdn ?_ _) | (with_reducible refine Below.drew ?_) | (with_reducible refine Below.setCell ?_ ?_ _) | (with_reducible refine Below.alloc ?_ ?_ _) | go_size))⟩
      · rw [show fitF E F b = 0 from by unfold fitF; rw [← hP, if_neg hk]]
        have hk2 : decide ((P : Int) ≤ (b : Int)) = false := by rw [decide_eq_false_iff_not]; omega
        clear hP
        go_enter Tryd.func32, Tryd.ntmps32
        go_wp2_with fail
        refine (ref_Check _ _ _).mono ?_
        rintro r w1 ⟨rfl, hb1⟩
        rw [HC.out]
        obtain ⟨hc1, hf1⟩ := bcell hb1
        have hbw1 : Below w.heap.size w w1 := Below.trans (b := _) (by repeat' (first | (with_reducible assumption) | (with_reducible exact Below.refl _ _) | (with_reducible refine bdn ?_ _) | (with_reducible refine Below.drew ?_) | (with_reducible refine Below.setCell ?_ ?_ _) | (with_reducible refine Below.alloc ?_ ?_ _) | go_size)) (hb1.mono (by go_size))
        have hz1_0 : w.heap.size < w1.heap.size := by have := hb1.size; simp at this; omega
        go_wp2_with fail
        refine (ref_Pow2 _ (1 + E + F) P (by omega) (by omega) HP.out _).mono ?_
        rintro r w2 ⟨rfl, rfl⟩
        go_wp2
        go_ret
        exact ⟨rfl, (by repeat' (first | (with_reducible assumption) | (with_reducible exact Below.refl _ _) | (with_reducible refine bdn ?_ _) | (with_reducible refine Below.drew ?_) | (with_reducible refine Below.setCell ?_ ?_ _) | (with_reducible refine Below.alloc ?_ ?_ _) | go_size))⟩
    · rw [show fitF E F b = 0 from by unfold fitF; rw [show 1 + E + F = 64 from by omega, if_neg (by omega)]]
      have hd : decide ((E : Int) + (F : Int) < 63) = false := by rw [decide_eq_false_iff_not]; omega
      go_enter Tryd.func32, Tryd.ntmps32
      go_wp2_with fail
      refine (ref_Check _ _ _).mono ?_
      rintro r w1 ⟨rfl, hb1⟩
      rw [HC.out]
      obtain ⟨hc1, hf1⟩ := bcell hb1
      have hbw1 : Below w.heap.size w w1 := Below.trans (b := _) (by repeat' (first | (with_reducible assumption) | (with_reducible exact Below.refl _ _) | (with_reducible refine bdn ?_ _) | (with_reducible refine Below.drew ?_) | (with_reducible refine Below.setCell ?_ ?_ _) | (with_reducible refine Below.alloc ?_ ?_ _) | go_size)) (hb1.mono (by go_size))
      have hz1_0 : w.heap.size < w1.heap.size := by have := hb1.size; simp at this; omega
      go_wp2
      go_ret
      exact ⟨rfl, (by repeat' (first | (with_reducible assumption) | (with_reducible exact Below.refl _ _) | (with_reducible refine bdn ?_ _) | (with_reducible refine Below.drew ?_) | (with_reducible refine Below.setCell ?_ ?_ _) | (with_reducible refine Below.alloc ?_ ?_ _) | go_size))⟩
  · rw [show fitE e f b = 5 from by unfold fitE; rw [if_neg hc, chk_no hc]]
    have HC := Lib.hid (chk_no hc)
    clear hc
    go_enter Tryd.func32, Tryd.ntmps32
    go_wp2_with fail
    refine (ref_Check _ _ _).mono ?_
    rintro r w1 ⟨rfl, hb1⟩
    rw [HC.out]
    obtain ⟨hc1, hf1⟩ := bcell hb1
    have hbw1 : Below w.heap.size w w1 := Below.trans (b := _) (by repeat' (first | (with_reducible assumption) | (with_reducible exact Below.refl _ _) | (with_reducible refine bdn ?_ _) | (with_reducible refine Below.drew ?_) | (with_reducible refine Below.setCell ?_ ?_ _) | (with_reducible refine Below.alloc ?_ ?_ _) | go_size)) (hb1.mono (by go_size))
    have hz1_0 : w.heap.size < w1.heap.size := by have := hb1.size; simp at this; omega
    go_wp2
    go_ret
    exact ⟨rfl, hbw1⟩
end Go.Proofs.YtefhannaofknnaaDoor
