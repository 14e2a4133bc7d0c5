/- Forms: masks, powers of two, the check of a form. -/
import Derived.Test.YtmneicbagcimdaaProg
import Derived.WalkKit
import Derived.WalkSpells
import Derived.Lib.Hide
import Derived.Deep.Draws
import Derived.Deep.QuietTactic
import Derived.BigQuiet
import Derived.Handy
import Derived.Lib.BitFns
import Derived.Deep.RegionHeld3
namespace Go.Proofs.Ytmneicbagcimdaa
open Go.RowKit
set_option linter.unusedVariables false
set_option linter.unusedSimpArgs false
set_option maxHeartbeats 4000000
set_option maxRecDepth 100000

theorem bcell {W w1 : World} (hb : Below W.heap.size W w1) : (∀ b o, b < W.heap.size → w1.cell? ⟨b, o, none⟩ = W.cell? ⟨b, o, none⟩) ∧ (∀ b o, b < W.heap.size → w1.frozen? ⟨b, o, none⟩ = W.frozen? ⟨b, o, none⟩) :=
  ⟨fun b o h => hb.cell (p := ⟨b, o, none⟩) h, fun b o h => hb.frozen (p := ⟨b, o, none⟩) h⟩
theorem bdn {B : Nat} {a w : World} (h : Below B a w) (n : Nat) : Below B a (w.drewN n) := h.trans ⟨rfl, rfl, rfl, Nat.le_refl _, fun _ _ => rfl⟩
theorem quiet_add_left {P : Program} {f : FuncId} {args : Array Value} {w : World} {a n : Nat} {v : Value}
    (h : Calls P f args (w.drewN (a + n)) fun e w' => e = .returned v ∧ w.drewN (a + n) = w') :
    Calls P f args (w.drewN (a + n)) fun e w'' => e = .returned v ∧ ∃ m, w'' = w.drewN (a + m) :=
  h.mono fun _ _ ⟨he, hm⟩ => ⟨he, n, hm.symm⟩
theorem quiet_left {P : Program} {f : FuncId} {args : Array Value} {w : World} {n : Nat} {v : Value}
    (h : Calls P f args (w.drewN n) fun e w' => e = .returned v ∧ w.drewN n = w') : Calls P f args (w.drewN n) fun e w'' => e = .returned v ∧ ∃ m, w'' = w.drewN m :=
  h.mono fun _ _ ⟨he, hm⟩ => ⟨he, n, hm.symm⟩
theorem cell_lt {w : World} {a : Addr} {v : Value} (h : w.cell? a = some v) : a.block < w.heap.size := by
  unfold World.cell? at h
  rcases Nat.lt_or_ge a.block w.heap.size with hlt | hge
  · exact hlt
  · rw [Array.getElem?_eq_none hge] at h; cases h
theorem cell_keep {W w1 : World} {a : Addr} {v : Value} (hb : Below W.heap.size W w1) (h : W.cell? a = some v) : w1.cell? a = some v := by
  rw [hb.cell (cell_lt h)]; exact h
def Says (w : World) (v : Value) (e : Ending) (w' : World) : Prop := e = .returned v ∧ Below w.heap.size w w'
/-- May a form be? -/
def chkF (e f : Int) : Int := if e < 2 ∨ 11 < e ∨ f < 1 ∨ 52 < f then 5 else 0

theorem mask_eq : ∀ s : Nat, s < 64 → bits BinOp.andNot IntKind.u64 18446744073709551615 (IntKind.u64.wrap (18446744073709551615 * 2 ^ s)) = ((2 ^ s - 1 : Nat) : Int) := by decide +kernel
theorem pow_le63 {s : Nat} (h : s < 64) : 2 ^ s ≤ 2 ^ 63 := Nat.pow_le_pow_right (by decide) (by omega)
theorem forms_mask (S : Int) (s M : Nat) (hS : S = (s : Int)) (hs : s < 64) (hM : M + 1 = 2 ^ s) (w : World) :
    Calls Try.prog 46 #[.int .i64 S] w fun e w' => e = .returned (.int .u64 (M : Int)) ∧ w = w' := by
  subst hS
  have hm : bits BinOp.andNot IntKind.u64 18446744073709551615 (IntKind.u64.wrap (18446744073709551615 * 2 ^ s)) = (M : Int) := by
    rw [mask_eq s hs, ← hM]; rfl
  have h1 : (0 : Int) ≤ (s : Int) := by omega
  have h2 : (s : Int) < 64 := by omega
  clear hM
  go_enter Try.func46, Try.ntmps46
  go_wp2
  go_ret
  exact ⟨rfl, rfl⟩
theorem ref_Pow2 (S : Int) (s P : Nat) (hS : S = (s : Int)) (hs : s < 64) (hP : P = 2 ^ s) (w : World) :
    Calls Try.prog 49 #[.int .i64 S] w fun e w' => e = .returned (.int .u64 (P : Int)) ∧ w = w' := by
  subst hS
  have HPP := Lib.hid hP
  clear hP
  go_enter Try.func49, Try.ntmps49
  go_wp2
  go_loop [3, 4] (fun v i => ∃ (k p : Nat), k ≤ s ∧ i = .int .i64 (k : Int) ∧ p = 2 ^ k ∧ v = .int .u64 (p : Int)) (fun _ i => s - (intOf i).toNat)
  case atStart => exact ⟨0, 1, Nat.zero_le _, rfl, rfl, rfl⟩
  case round =>
    obtain ⟨k, p, hk, rfl, hp, rfl⟩ := hrel
    have HP := Lib.hid hp
    by_cases hk1 : k < s
    · have hlt : p < 9223372036854775808 := by
        have h1 : 2 ^ k ≤ 2 ^ 62 := Nat.pow_le_pow_right (by decide) (by omega)
        rw [hp]; omega
      clear hp
      go_wp2
      go_round
      case rel => exact ⟨k + 1, p * 2, by omega, by go_num, by rw [HP.out, Nat.pow_succ], by go_num⟩
      case measure => first | (simp [intOf]; done) | (simp [intOf]; omega)
    · have hks : k = s := by omega
      clear hp
      go_wp2
      go_ret
      have hps : p = P := by rw [HP.out, hks, HPP.out]
      subst hps
      exact ⟨rfl, rfl⟩
theorem forms_Check (e f : Int) (w : World) :
    Calls Try.prog 19 #[.agg #[.int .i64 e, .int .i64 f]] w (Says w (.int .i64 (chkF e f))) := by
  have hb : Below w.heap.size w (w.alloc (.cells #[.int .i64 e, .int .i64 f] 23)) := (Below.refl _ _).alloc (Nat.le_refl _) _
  by_cases h : e < 2 ∨ 11 < e ∨ f < 1 ∨ 52 < f
  · rw [show chkF e f = 5 from by unfold chkF; rw [if_pos h]]
    have hc : e < 2 ∨ (¬ e < 2 ∧ 11 < e) ∨ (¬ e < 2 ∧ ¬ 11 < e ∧ f < 1) ∨ (¬ e < 2 ∧ ¬ 11 < e ∧ ¬ f < 1 ∧ 52 < f) := by omega
    clear h
    rcases hc with h1 | ⟨h1, h2⟩ | ⟨h1, h2, h3⟩ | ⟨h1, h2, h3, h4⟩
    all_goals (
      go_enter Try.func19, Try.ntmps19
      go_wp2
      go_ret
      exact ⟨rfl, hb⟩)
  · rw [show chkF e f = 0 from by unfold chkF; rw [if_neg h]]
    have h1 : ¬ e < 2 := by omega
    have h2 : ¬ 11 < e := by omega
    have h3 : ¬ f < 1 := by omega
    have h4 : ¬ 52 < f := by omega
    go_enter Try.func19, Try.ntmps19
    go_wp2
    go_ret
    exact ⟨rfl, hb⟩
theorem ref_Check (e f : Int) (w : World) :
    Calls Try.prog 20 #[.agg #[.int .i64 e, .int .i64 f]] w (Says w (.int .i64 (chkF e f))) := by
  have hb : Below w.heap.size w (w.alloc (.cells #[.int .i64 e, .int .i64 f] 23)) := (Below.refl _ _).alloc (Nat.le_refl _) _
  by_cases h : e < 2 ∨ 11 < e ∨ f < 1 ∨ 52 < f
  · rw [show chkF e f = 5 from by unfold chkF; rw [if_pos h]]
    have hc : e < 2 ∨ (¬ e < 2 ∧ 11 < e) ∨ (¬ e < 2 ∧ ¬ 11 < e ∧ f < 1) ∨ (¬ e < 2 ∧ ¬ 11 < e ∧ ¬ f < 1 ∧ 52 < f) := by omega
    clear h
    rcases hc with h1 | ⟨h1, h2⟩ | ⟨h1, h2, h3⟩ | ⟨h1, h2, h3, h4⟩
    all_goals (
      go_enter Try.func20, Try.ntmps20
      go_wp2
      go_ret
      exact ⟨rfl, hb⟩)
  · rw [show chkF e f = 0 from by unfold chkF; rw [if_neg h]]
    have h1 : ¬ e < 2 := by omega
    have h2 : ¬ 11 < e := by omega
    have h3 : ¬ f < 1 := by omega
    have h4 : ¬ 52 < f := by omega
    go_enter Try.func20, Try.ntmps20
    go_wp2
    go_ret
    exact ⟨rfl, hb⟩
theorem forms_layout (e f : Nat) (he : e ≤ 11) (hf : f ≤ 52) (w : World) :
    Calls Try.prog 51 #[.agg #[.int .i64 (e : Int), .int .i64 (f : Int)]] w (Says w (.agg #[.int .i64 0, .int .i64 (f : Int), .int .i64 (f : Int), .int .i64 (e : Int), .int .i64 ((f : Int) + (e : Int)), .int .i64 1])) := by
  go_enter Try.func51, Try.ntmps51
  go_wp2
  go_returns
  exact ⟨rfl, ((Below.refl w.heap.size w).alloc (Nat.le_refl _) _).alloc (by simp) _⟩
theorem shl_eq (m k : Nat) (hk : k < 64) (h : m * 2 ^ k < 18446744073709551616) : IntKind.u64.wrap ((m : Int) * 2 ^ k) = ((m * 2 ^ k : Nat) : Int) := by
  have h3 : ((m : Int) * 2 ^ k) = ((m * 2 ^ k : Nat) : Int) := by push_cast; rfl
  rw [h3, IntKind.wrap_u64]; omega
theorem andNot_low (x from_ m : Nat) (hf : from_ < 64) (hx : x < 2 ^ from_) (h : m * 2 ^ from_ < 18446744073709551616) : bits BinOp.andNot IntKind.u64 (x : Int) ((m * 2 ^ from_ : Nat) : Int) = (x : Int) := by
  have hx64 : x < 18446744073709551616 := by
    have := Nat.pow_le_pow_right (n := 2) (by decide) (show from_ ≤ 64 by omega)
    omega
  rw [u64_andNot_nat x _ hx64 h]
  congr 1
  refine Nat.eq_of_testBit_eq fun i => ?_
  rw [Nat.testBit_and]
  by_cases hi : i < from_
  · have h2 : (18446744073709551615 - m * 2 ^ from_).testBit i = true := by
      rw [show 18446744073709551615 - m * 2 ^ from_ = 2 ^ 64 - (m * 2 ^ from_ + 1) from by omega, Nat.testBit_two_pow_sub_succ (by omega)]
      have h3 : (m * 2 ^ from_).testBit i = false := by
        rw [Nat.mul_comm, Nat.testBit_two_pow_mul]; simp; omega
      rw [h3]; simp; omega
    rw [h2, Bool.and_true]
  · have h3 : x.testBit i = false := Nat.testBit_lt_two_pow (Nat.lt_of_lt_of_le hx (Nat.pow_le_pow_right (by decide) (by omega)))
    rw [h3, Bool.false_and]
theorem or_high (x from_ y : Nat) (hf : from_ < 64) (hx : x < 2 ^ from_) (h : y * 2 ^ from_ < 18446744073709551616) : bits BinOp.or IntKind.u64 (x : Int) ((y * 2 ^ from_ : Nat) : Int) = ((x + y * 2 ^ from_ : Nat) : Int) := by
  have hx64 : x < 18446744073709551616 := by
    have := Nat.pow_le_pow_right (n := 2) (by decide) (show from_ ≤ 64 by omega)
    omega
  rw [u64_or_nat x _ hx64 h]
  have := Nat.two_pow_add_eq_or_of_lt (i := from_) (b := x) hx y
  congr 1
  rw [Nat.or_comm, Nat.mul_comm y, ← this]; omega
theorem and_mask (b s M : Nat) (hM : M + 1 = 2 ^ s) (hs : s < 64) (hb : b < 18446744073709551616) : bits BinOp.and IntKind.u64 (b : Int) (M : Int) = ((b % 2 ^ s : Nat) : Int) := by
  have h64 := Nat.pow_le_pow_right (n := 2) (by decide) (show s ≤ 64 by omega)
  rw [u64_and_nat b M hb (by omega), show M = 2 ^ s - 1 from by omega, Nat.and_two_pow_sub_one_eq_mod]
theorem pow_m1 (s : Nat) : ∃ M, M + 1 = 2 ^ s := ⟨2 ^ s - 1, by have := Nat.two_pow_pos s; omega⟩

theorem forms_take (F S B : Int) (from_ size b R : Nat) (hF : F = (from_ : Int)) (hS : S = (size : Int)) (hB : B = (b : Int)) (hf : from_ < 64) (hs : size < 64) (hb : b < 18446744073709551616) (hR : R = b / 2 ^ from_ % 2 ^ size) (w : World) :
    Calls Try.prog 52 #[.agg #[.int .i64 F, .int .i64 S], .int .u64 B] w (Says w (.int .u64 (R : Int))) := by
  subst hF hS hB
  have h1 : (0 : Int) ≤ (from_ : Int) := by omega
  have h2 : (from_ : Int) < 64 := by omega
  obtain ⟨M, hM⟩ := pow_m1 size
  obtain ⟨q, hq⟩ : ∃ q, q = b / 2 ^ from_ := ⟨_, rfl⟩
  have hqe : (b : Int) / 2 ^ from_ = (q : Int) := by rw [hq]; push_cast; rfl
  have hq64 : q < 18446744073709551616 := by rw [hq]; exact Nat.lt_of_le_of_lt (Nat.div_le_self _ _) hb
  have hand : bits BinOp.and IntKind.u64 (q : Int) (M : Int) = (R : Int) := by rw [and_mask q size M hM hs hq64, hR, hq]
  clear hR hq
  have HM := Lib.hid hM
  clear hM
  go_enter Try.func52, Try.ntmps52
  go_wp2_with fail
  refine (forms_mask _ size M rfl hs HM.out _).mono ?_
  rintro e w1 ⟨rfl, rfl⟩
  go_wp2
  go_ret
  exact ⟨rfl, (Below.refl _ _).alloc (Nat.le_refl _) _⟩
theorem forms_put (F S B X : Int) (from_ size b x R : Nat) (hF : F = (from_ : Int)) (hS : S = (size : Int)) (hB : B = (b : Int)) (hX : X = (x : Int)) (hf : from_ < 64) (hs : size < 64) (hfs : from_ + size ≤ 64) (hb : b < 2 ^ from_) (hx : x < 2 ^ size) (hR : R = b + x * 2 ^ from_) (w : World) :
    Calls Try.prog 61 #[.agg #[.int .i64 F, .int .i64 S], .int .u64 B, .int .u64 X] w (Says w (.int .u64 (R : Int))) := by
  subst hF hS hB hX
  have h1 : (0 : Int) ≤ (from_ : Int) := by omega
  have h2 : (from_ : Int) < 64 := by omega
  obtain ⟨M, hM⟩ := pow_m1 size
  have hp : 2 ^ size * 2 ^ from_ ≤ 18446744073709551616 := by
    rw [← Nat.pow_add]
    exact Nat.le_trans (Nat.pow_le_pow_right (by decide) (show size + from_ ≤ 64 by omega)) (by decide)
  have hp0 := Nat.two_pow_pos from_
  have hlim : ∀ y, y < 2 ^ size → y * 2 ^ from_ < 18446744073709551616 := fun y hy => by
    have := Nat.mul_le_mul_right (2 ^ from_) (show y + 1 ≤ 2 ^ size from hy)
    rw [Nat.add_mul] at this
    omega
  have hM2 := hlim M (by omega)
  have hx2 := hlim x hx
  have e1 : IntKind.u64.wrap ((M : Int) * 2 ^ from_) = ((M * 2 ^ from_ : Nat) : Int) := shl_eq M from_ hf hM2
  have e2 : IntKind.u64.wrap ((x : Int) * 2 ^ from_) = ((x * 2 ^ from_ : Nat) : Int) := shl_eq x from_ hf hx2
  have a1 := andNot_low b from_ M hf hb hM2
  have a2 := or_high b from_ x hf hb hx2
  rw [← hR] at a2
  rw [← e1] at a1
  rw [← e2] at a2
  have HM := Lib.hid hM
  clear hM hR e1 e2 hM2 hx2 hlim hp hp0 hb hx
  go_enter Try.func61, Try.ntmps61
  go_wp2
  go_quiet ((go_at_call 46; exact quiet_left (forms_mask _ size M rfl hs HM.out _)))
  go_wp2
  go_ret
  exact ⟨rfl, by repeat (first | exact Below.refl _ _ | refine bdn ?_ _ | refine Below.drew ?_ | refine Below.alloc ?_ (Nat.le_refl _) _)⟩
end Go.Proofs.Ytmneicbagcimdaa
