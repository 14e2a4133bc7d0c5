/- Walks: the products. -/
import Derived.Test.YtenekbfnlbipiaaDoorE
import Derived.Test.YtenekbfnlbipiaaDoorM
namespace Go.Proofs.YtenekbfnlbipiaaDoor
open Go.RowKit
set_option linter.unusedVariables false
set_option linter.unusedSimpArgs false
set_option maxHeartbeats 4000000
set_option maxRecDepth 100000

theorem ref_Mul (A B : Option Addr) (a b : List Nat) (n m c d : Nat) (hn : n = a.length) (hm : m = b.length) (w : World) (ha : Rd w A a) (hb : Rd w B b) :
    Calls Tryd.prog 27 #[.agg #[.slice A n c], .agg #[.slice B m d]] w (NatAns 90 w (mulS a b)) := by
  subst hn hm
  have hla := ha.len
  have hlb := hb.len
  have ha2 := ((ha.alloc (Obj.cells #[Value.slice A a.length c] 56)).alloc (Obj.cells #[Value.slice B b.length d] 56)).alloc (Obj.cells #[Value.slice none 0 0] 56)
  have hb2 := ((hb.alloc (Obj.cells #[Value.slice A a.length c] 56)).alloc (Obj.cells #[Value.slice B b.length d] 56)).alloc (Obj.cells #[Value.slice none 0 0] 56)
  by_cases hz : chk2 a b = 0
  · have hl1 := (chk_zero (chk2_zero hz).1).1
    have hl2 := (chk_zero (chk2_zero hz).2).1
    have HZ := Lib.hid hz
    by_cases hbig : 16385 < a.length + b.length
    · have e : mulS a b = ([], 4) := by unfold mulS; rw [if_pos hz, if_pos hbig]
      rw [e]
      clear hz
      go_enter Tryd.func27, Tryd.ntmps27
      go_wp2_with fail
      refine (ref_two A B a b _ _ c d rfl rfl _ ha2 hb2).mono ?_
      rintro e w1 ⟨rfl, hb1⟩
      rw [HZ.out]
      obtain ⟨hc1, hf1⟩ := bcell hb1
      have hbw1 : Below w.heap.size w w1 := Below.trans (b := _) (by repeat' (first | (with_reducible assumption) | (with_reducible exact Below.refl _ _) | (with_reducible refine bdn ?_ _) | (with_reducible refine Below.drew ?_) | (with_reducible refine Below.setCell ?_ ?_ _) | (with_reducible refine Below.alloc ?_ ?_ _) | go_size)) (hb1.mono (by go_size))
      have hz1_0 : w.heap.size < w1.heap.size := by have := hb1.size; simp at this; omega
      have hz1_1 : w.heap.size + 1 < w1.heap.size := by have := hb1.size; simp at this; omega
      have hz1_2 : w.heap.size + 2 < w1.heap.size := by have := hb1.size; simp at this; omega
      go_wp2
      (try simp only [Exit.inBlock, Exit.then]); refine bodyPost_ret (by simp (maxDischargeDepth := 9) [results, Tryd.results27, go_sem, hc1, hz1_0, hz1_1, hz1_2]; try rfl) rfl ?_
      exact ⟨none, 0, rfl, Own.nil _ _ _, (by repeat' (first | (with_reducible assumption) | (with_reducible exact Below.refl _ _) | (with_reducible refine bdn ?_ _) | (with_reducible refine Below.drew ?_) | (with_reducible refine Below.setCell ?_ ?_ _) | (with_reducible refine Below.alloc ?_ ?_ _) | go_size))⟩
    · have e : mulS a b = fitS (val a * val b) := by unfold mulS; rw [if_pos hz, if_neg hbig]
      rw [e]
      clear hz
      go_enter Tryd.func27, Tryd.ntmps27
      go_wp2_with fail
      refine (ref_two A B a b _ _ c d rfl rfl _ ha2 hb2).mono ?_
      rintro e w1 ⟨rfl, hb1⟩
      rw [HZ.out]
      obtain ⟨hc1, hf1⟩ := bcell hb1
      have hbw1 : Below w.heap.size w w1 := Below.trans (b := _) (by repeat' (first | (with_reducible assumption) | (with_reducible exact Below.refl _ _) | (with_reducible refine bdn ?_ _) | (with_reducible refine Below.drew ?_) | (with_reducible refine Below.setCell ?_ ?_ _) | (with_reducible refine Below.alloc ?_ ?_ _) | go_size)) (hb1.mono (by go_size))
      have hz1_0 : w.heap.size < w1.heap.size := by have := hb1.size; simp at this; omega
      have hz1_1 : w.heap.size + 1 < w1.heap.size := by have := hb1.size; simp at this; omega
      have hz1_2 : w.heap.size + 2 < w1.heap.size := by have := hb1.size; simp at this; omega
      go_wp2_with fail
      refine (ref_times A B a b _ _ c d rfl rfl (by omega) _ (ha2.below hb1) (hb2.below hb1)).mono ?_
      rintro e w2 ⟨A2, c2, rfl, hle2, ho2, hb2'⟩
      have hz2 : w.heap.size + 2 < w2.heap.size := by have := hb2'.size; omega
      have hc2 : w2.cell? ⟨w.heap.size + 2, 0, none⟩ = some (Value.slice none 0 0) := by
        rw [below_cell hb2' (by omega), hc1 _ _ (by simp)]
        simp [go_sem]
      have hf2 : w2.frozen? ⟨w.heap.size + 2, 0, none⟩ = false := by
        rw [below_frozen hb2' (by omega), hf1 _ _ (by simp)]
        simp [go_sem]
      go_wp2_with fail
      refine (ref_fits A2 c2 _ w1.heap.size _ rfl hle2 _ ho2 hb2'.size).mono ?_
      rw [val_limbs]
      rintro e w3 ⟨A3, c3, rfl, ho3, hb3⟩
      have hz3 : w.heap.size + 2 < w3.heap.size := by have := hb3.size; omega
      have hc3 : w3.cell? ⟨w.heap.size + 2, 0, none⟩ = some (Value.slice none 0 0) := by rw [below_cell hb3 hz2]; exact hc2
      have hf3 : w3.frozen? ⟨w.heap.size + 2, 0, none⟩ = false := by rw [below_frozen hb3 hz2]; exact hf2
      have hbw3 : Below w.heap.size w w3 := (hbw1.trans (hb2'.mono (by omega))).trans (hb3.mono (by omega))
      clear hc1 hf1 hc2 hf2
      go_wp2
      (try simp only [Exit.inBlock, Exit.then]); refine bodyPost_ret (by simp (maxDischargeDepth := 9) [results, Tryd.results27, go_sem, hc3]; try rfl) rfl ?_
      exact ⟨_, _, rfl, (ho3.setCell (by simp; omega) _).mono (by omega), (by repeat' (first | (with_reducible assumption) | (with_reducible exact Below.refl _ _) | (with_reducible refine bdn ?_ _) | (with_reducible refine Below.drew ?_) | (with_reducible refine Below.setCell ?_ ?_ _) | (with_reducible refine Below.alloc ?_ ?_ _) | go_size))⟩
  · have e : mulS a b = ([], chk2 a b) := by unfold mulS; rw [if_neg hz]
    have hne : (chk2 a b != 0) = true := by rw [bne_iff_ne]; exact hz
    rw [e]
    clear hz
    go_enter Tryd.func27, Tryd.ntmps27
    go_wp2_with fail
    refine (ref_two A B a b _ _ c d rfl rfl _ ha2 hb2).mono ?_
    rintro e w1 ⟨rfl, hb1⟩
    obtain ⟨hc1, hf1⟩ := bcell hb1
    have hbw1 : Below w.heap.size w w1 := Below.trans (b := _) (by repeat' (first | (with_reducible assumption) | (with_reducible exact Below.refl _ _) | (with_reducible refine bdn ?_ _) | (with_reducible refine Below.drew ?_) | (with_reducible refine Below.setCell ?_ ?_ _) | (with_reducible refine Below.alloc ?_ ?_ _) | go_size)) (hb1.mono (by go_size))
    have hz1_0 : w.heap.size < w1.heap.size := by have := hb1.size; simp at this; omega
    have hz1_1 : w.heap.size + 1 < w1.heap.size := by have := hb1.size; simp at this; omega
    have hz1_2 : w.heap.size + 2 < w1.heap.size := by have := hb1.size; simp at this; omega
    go_wp2
    (try simp only [Exit.inBlock, Exit.then]); refine bodyPost_ret (by simp (maxDischargeDepth := 9) [results, Tryd.results27, go_sem, hc1, hz1_0, hz1_1, hz1_2]; try rfl) rfl ?_
    exact ⟨none, 0, rfl, Own.nil _ _ _, (by repeat' (first | (with_reducible assumption) | (with_reducible exact Below.refl _ _) | (with_reducible refine bdn ?_ _) | (with_reducible refine Below.drew ?_) | (with_reducible refine Below.setCell ?_ ?_ _) | (with_reducible refine Below.alloc ?_ ?_ _) | go_size))⟩
end Go.Proofs.YtenekbfnlbipiaaDoor
namespace Go.Proofs.YtenekbfnlbipiaaDoor
open Go.RowKit
set_option linter.unusedVariables false
set_option linter.unusedSimpArgs false
set_option maxHeartbeats 4000000
set_option maxRecDepth 100000

theorem par_shift {n : Nat} (hn : n ≤ 524288) (j : Nat) (h : n / 2 ^ j % 2 = 1) : (bits BinOp.and IntKind.i64 ((n : Int) / 2 ^ j) 1 == 1) = true := by
  have e : (n : Int) / 2 ^ j = ((n / 2 ^ j : Nat) : Int) := by push_cast; rfl
  rw [e]; exact par_odd (Nat.le_trans (Nat.div_le_self _ _) hn) h
theorem par_shift0 {n : Nat} (hn : n ≤ 524288) (j : Nat) (h : n / 2 ^ j % 2 = 0) : (bits BinOp.and IntKind.i64 ((n : Int) / 2 ^ j) 1 == 1) = false := by
  have e : (n : Int) / 2 ^ j = ((n / 2 ^ j : Nat) : Int) := by push_cast; rfl
  rw [e]; exact par_even (Nat.le_trans (Nat.div_le_self _ _) hn) h
theorem pow_up1 {b M q : Nat} (h : q = 2 * M + 1) : b ^ M * b ^ M * b = b ^ q := by
  rw [h, Nat.pow_succ, Nat.two_mul, Nat.pow_add]
theorem pow_up0 {b M q : Nat} (h : q = 2 * M) : b ^ M * b ^ M = b ^ q := by
  rw [h, Nat.two_mul, Nat.pow_add]
/-- The relation of the document's Pow: the base to the power of the exponent's first bits. -/
def PowUp (b n B : Nat) (w : World) (v6 v7 : Value) (wr : World) : Prop :=
  ∃ (j : Nat) (A : Option Addr) (c : Nat), j ≤ 20 ∧ v7 = .int .i64 ((j : Int) - 1) ∧ v6 = .slice A (limbs (b ^ (n / 2 ^ j))).length c ∧ (limbs (b ^ (n / 2 ^ j))).length ≤ 16384 ∧ (limbs (b ^ (n / 2 ^ j))).length ≤ c ∧
    Own wr 90 B A c (limbs (b ^ (n / 2 ^ j))) ∧ Blk wr B 56 #[.slice none 0 0] ∧ Below B w wr

theorem ref_Pow (X : Int) (b : Nat) (hX : X = (b : Int)) (hb : b < 4294967296) (n : Int) (hn1 : -9223372036854775808 ≤ n) (hn2 : n ≤ 9223372036854775807) (w : World) :
    Calls Tryd.prog 48 #[.int .u32 X, .int .i64 n] w (NatAns 90 w (powS b n)) := by
  subst hX
  by_cases h0 : n < 0
  · have e : powS b n = ([], 2) := by unfold powS; rw [if_pos h0]
    rw [e]
    go_enter Tryd.func48, Tryd.ntmps48
    go_wp2
    go_returns
    exact ⟨none, 0, rfl, Own.nil _ _ _, (by repeat' (first | (with_reducible assumption) | (with_reducible exact Below.refl _ _) | (with_reducible refine bdn ?_ _) | (with_reducible refine Below.drew ?_) | (with_reducible refine Below.setCell ?_ ?_ _) | (with_reducible refine Below.alloc ?_ ?_ _) | go_size))⟩
  by_cases h1 : n = 0
  · subst h1
    have e : powS b 0 = (limbs 1, 0) := by unfold powS; rw [if_neg h0, if_pos rfl]
    rw [e]
    go_enter Tryd.func48, Tryd.ntmps48
    go_wp2_with fail
    refine (ref_Of 1 1 rfl (by decide) _).mono ?_
    rintro e w1 ⟨A, c, rfl, ho, hb1⟩
    obtain ⟨hc1, hf1⟩ := bcell hb1
    have hbw1 : Below w.heap.size w w1 := Below.trans (b := _) (by repeat' (first | (with_reducible assumption) | (with_reducible exact Below.refl _ _) | (with_reducible refine bdn ?_ _) | (with_reducible refine Below.drew ?_) | (with_reducible refine Below.setCell ?_ ?_ _) | (with_reducible refine Below.alloc ?_ ?_ _) | go_size)) (hb1.mono (by go_size))
    have hz1_0 : w.heap.size < w1.heap.size := by have := hb1.size; simp at this; omega
    go_wp2
    (try simp only [Exit.inBlock, Exit.then]); refine bodyPost_ret (by simp (maxDischargeDepth := 9) [results, Tryd.results48, go_sem, hc1, hz1_0]; try rfl) rfl ?_
    exact ⟨_, _, rfl, (ho.setCell (by simp) _).mono (by simp), (by repeat' (first | (with_reducible assumption) | (with_reducible exact Below.refl _ _) | (with_reducible refine bdn ?_ _) | (with_reducible refine Below.drew ?_) | (with_reducible refine Below.setCell ?_ ?_ _) | (with_reducible refine Below.alloc ?_ ?_ _) | go_size))⟩
  have h1B : (n == 0) = false := by rw [beq_eq_false_iff_ne]; exact h1
  by_cases h2 : b < 2
  · have e : powS b n = (limbs b, 0) := by unfold powS; rw [if_neg h0, if_neg h1, if_pos h2]
    rw [e]
    clear h1
    go_enter Tryd.func48, Tryd.ntmps48
    go_wp2_with fail
    refine (ref_Of _ b rfl (by omega) _).mono ?_
    rintro e w1 ⟨A, c, rfl, ho, hb1⟩
    obtain ⟨hc1, hf1⟩ := bcell hb1
    have hbw1 : Below w.heap.size w w1 := Below.trans (b := _) (by repeat' (first | (with_reducible assumption) | (with_reducible exact Below.refl _ _) | (with_reducible refine bdn ?_ _) | (with_reducible refine Below.drew ?_) | (with_reducible refine Below.setCell ?_ ?_ _) | (with_reducible refine Below.alloc ?_ ?_ _) | go_size)) (hb1.mono (by go_size))
    have hz1_0 : w.heap.size < w1.heap.size := by have := hb1.size; simp at this; omega
    go_wp2
    (try simp only [Exit.inBlock, Exit.then]); refine bodyPost_ret (by simp (maxDischargeDepth := 9) [results, Tryd.results48, go_sem, hc1, hz1_0]; try rfl) rfl ?_
    exact ⟨_, _, rfl, (ho.setCell (by simp) _).mono (by simp), (by repeat' (first | (with_reducible assumption) | (with_reducible exact Below.refl _ _) | (with_reducible refine bdn ?_ _) | (with_reducible refine Below.drew ?_) | (with_reducible refine Below.setCell ?_ ?_ _) | (with_reducible refine Below.alloc ?_ ?_ _) | go_size))⟩
  by_cases h3 : 524288 < n
  · have e : powS b n = ([], 4) := by unfold powS; rw [if_neg h0, if_neg h1, if_neg h2, if_pos h3]
    rw [e]
    clear h1
    go_enter Tryd.func48, Tryd.ntmps48
    go_wp2
    go_returns
    exact ⟨none, 0, rfl, Own.nil _ _ _, (by repeat' (first | (with_reducible assumption) | (with_reducible exact Below.refl _ _) | (with_reducible refine bdn ?_ _) | (with_reducible refine Below.drew ?_) | (with_reducible refine Below.setCell ?_ ?_ _) | (with_reducible refine Below.alloc ?_ ?_ _) | go_size))⟩
  obtain ⟨n, rfl⟩ : ∃ k : Nat, n = (k : Int) := ⟨n.toNat, by omega⟩
  have e : powS b (n : Int) = fitS (b ^ n) := by unfold powS; rw [if_neg h0, if_neg h1, if_neg h2, if_neg h3, Int.toNat_natCast]
  rw [e]
  have hnp : 1 ≤ n := by omega
  have hn5 : n ≤ 524288 := by omega
  clear h1 e
  go_enter Tryd.func48, Tryd.ntmps48
  go_wp2
  go_loopw [6, 7] (fun v6 v7 wr => PowUp b n w.heap.size w v6 v7 wr) (fun _ v7 _ => (intOf v7 + 1).toNat)
  case atStart =>
    have e : limbs (b ^ (n / 2 ^ 20)) = [1] := by
      rw [Nat.div_eq_of_lt (by omega), Nat.pow_zero]; rfl
    refine ⟨20, some ⟨w.heap.size + 1, 0, none⟩, 1, by omega, rfl, by rw [e]; rfl, by rw [e]; simp, by rw [e]; simp, ?_, (Blk.new w _ _).alloc _, (by repeat' (first | (with_reducible assumption) | (with_reducible exact Below.refl _ _) | (with_reducible refine bdn ?_ _) | (with_reducible refine Below.drew ?_) | (with_reducible refine Below.setCell ?_ ?_ _) | (with_reducible refine Below.alloc ?_ ?_ _) | go_size))⟩
    rw [e]
    have hr : Row ((w.alloc (Obj.cells #[Value.slice none 0 0] 56)).alloc (Obj.cells #[Value.int IntKind.u32 1] 90)) 90 (w.heap.size + 1) [1] := row_new rfl (by simp)
    have := hr.own (B := w.heap.size) (c := 1) (Sm.cons (by decide) Sm.nil) (by simp) (by omega) 1 (Nat.le_refl _) (by simp)
    simpa using this
  case round =>
    obtain ⟨j, A, c, hj, rfl, rfl, hlen, hcl, ho, hk, hbl⟩ := hrel
    have cr := hk.cell0
    have fr := hk.frozen 0
    by_cases hj0 : j = 0
    · subst hj0
      have e1 : b ^ (n / 2 ^ 0) = b ^ n := by rw [Nat.pow_zero, Nat.div_one]
      rw [e1] at hlen hcl ho
      have E1 := Lib.hid e1
      rw [e1]
      clear e1
      have hlt := hk.lt
      go_wp2_with fail
      refine (ref_nat _ _ _ _).mono ?_
      rintro e w1 ⟨rfl, hb1⟩
      have hkk := hk.below hb1 hlt
      have d0 := hkk.cell0
      have d1 := hkk.frozen 0
      have hbw := hbl.trans (hb1.mono (by omega))
      have ho1 := ho.below hb1 (Nat.le_refl _)
      have hsz := hkk.lt
      go_wp2
      (try simp only [Exit.inBlock, Exit.then]); refine bodyPost_ret (by simp (maxDischargeDepth := 9) [results, Tryd.results48, go_sem, d0]; try rfl) rfl ?_
      rw [fitS_ok hlen]
      exact ⟨_, _, rfl, ho1.setT hkk (by decide) _, (by repeat' (first | (with_reducible assumption) | (with_reducible exact Below.refl _ _) | (with_reducible refine bdn ?_ _) | (with_reducible refine Below.drew ?_) | (with_reducible refine Below.setCell ?_ ?_ _) | (with_reducible refine Below.alloc ?_ ?_ _) | go_size))⟩
    · obtain ⟨j, rfl⟩ : ∃ i, j = i + 1 := ⟨j - 1, by omega⟩
      have hM : n / 2 ^ j = 2 * (n / 2 ^ (j + 1)) + n / 2 ^ j % 2 := by
        rw [Nat.pow_succ, ← Nat.div_div_eq_div_mul]; omega
      have hlt := hk.lt
      by_cases hbit : n / 2 ^ j % 2 = 1
      · have hpar := par_shift hn5 j hbit
        have hV : b ^ (n / 2 ^ (j + 1)) * b ^ (n / 2 ^ (j + 1)) * val [b] = b ^ (n / 2 ^ j) := by
          rw [show val [b] = b from by simp [val]]
          exact pow_up1 (by omega)
        have HV := Lib.hid hV
        clear hM hbit hV
        go_wp2_with fail
        refine (ref_times A A _ _ _ _ c c rfl rfl (by omega) _ ho.rd ho.rd).mono ?_
        rw [val_limbs]
        rintro e w1 ⟨A1, c1, rfl, hle1, ho1, hb1⟩
        have hl2 : (limbs (b ^ (n / 2 ^ (j + 1)) * b ^ (n / 2 ^ (j + 1)))).length ≤ 32768 := by
          have := limbs_mul_le (b ^ (n / 2 ^ (j + 1))) (b ^ (n / 2 ^ (j + 1)))
          omega
        have hr : Row (w1.alloc (Obj.cells #[Value.int IntKind.u32 (b : Int)] 90)) 90 w1.heap.size [b] := row_new rfl rfl
        go_wp2_with fail
        refine (ref_times A1 _ _ [b] _ _ c1 1 rfl rfl (by simp; omega) _ (ho1.rd.alloc _) (hr.rd0 (Sm.cons hb Sm.nil) (by simp))).mono ?_
        rw [val_limbs, HV.out]
        rintro e w2 ⟨A2, c2, rfl, hle2, ho2, hb2⟩
        have hb12 : Below wr.heap.size wr w2 := (hb1.alloc hb1.size _).trans (hb2.mono (by have := hb1.size; simp; omega))
        have hkk := hk.below hb12 hlt
        have d0 := hkk.cell0
        have d1 := hkk.frozen 0
        have hbw := hbl.trans (hb12.mono (by omega))
        have hsz := hkk.lt
        have ho2' := ho2.mono (B' := w.heap.size) (by have := hb1.size; simp; omega)
        by_cases hbig : 16384 < (limbs (b ^ (n / 2 ^ j))).length
        · have e : fitS (b ^ n) = ([], 4) := fitS_many (Nat.lt_of_lt_of_le hbig (limbs_mono (Nat.pow_le_pow_right (by omega) (Nat.div_le_self _ _))))
          have E := Lib.hid e
          clear e
          go_wp2
          (try simp only [Exit.inBlock, Exit.then]); refine bodyPost_ret (by simp (maxDischargeDepth := 9) [results, Tryd.results48, go_sem, d0]; try rfl) rfl ?_
          rw [E.out]
          exact ⟨none, 0, rfl, Own.nil _ _ _, (by repeat' (first | (with_reducible assumption) | (with_reducible exact Below.refl _ _) | (with_reducible refine bdn ?_ _) | (with_reducible refine Below.drew ?_) | (with_reducible refine Below.setCell ?_ ?_ _) | (with_reducible refine Below.alloc ?_ ?_ _) | go_size))⟩
        · go_wp2
          go_roundw
          case rel => exact ⟨j, _, _, by omega, by go_num, rfl, by omega, hle2, ho2', hkk, hbw⟩
          case measure => first | (simp [intOf]; done) | (simp [intOf]; omega)
      · have hbit0 : n / 2 ^ j % 2 = 0 := by omega
        have hpar := par_shift0 hn5 j hbit0
        have hV : b ^ (n / 2 ^ (j + 1)) * b ^ (n / 2 ^ (j + 1)) = b ^ (n / 2 ^ j) := by
          exact pow_up0 (by omega)
        have HV := Lib.hid hV
        clear hM hbit hbit0 hV
        go_wp2_with fail
        refine (ref_times A A _ _ _ _ c c rfl rfl (by omega) _ ho.rd ho.rd).mono ?_
        rw [val_limbs, HV.out]
        rintro e w1 ⟨A1, c1, rfl, hle1, ho1, hb1⟩
        have hkk := hk.below hb1 hlt
        have d0 := hkk.cell0
        have d1 := hkk.frozen 0
        have hbw := hbl.trans (hb1.mono (by omega))
        have hsz := hkk.lt
        have ho2' := ho1.mono (B' := w.heap.size) (by omega)
        by_cases hbig : 16384 < (limbs (b ^ (n / 2 ^ j))).length
        · have e : fitS (b ^ n) = ([], 4) := fitS_many (Nat.lt_of_lt_of_le hbig (limbs_mono (Nat.pow_le_pow_right (by omega) (Nat.div_le_self _ _))))
          have E := Lib.hid e
          clear e
          go_wp2
          (try simp only [Exit.inBlock, Exit.then]); refine bodyPost_ret (by simp (maxDischargeDepth := 9) [results, Tryd.results48, go_sem, d0]; try rfl) rfl ?_
          rw [E.out]
          exact ⟨none, 0, rfl, Own.nil _ _ _, (by repeat' (first | (with_reducible assumption) | (with_reducible exact Below.refl _ _) | (with_reducible refine bdn ?_ _) | (with_reducible refine Below.drew ?_) | (with_reducible refine Below.setCell ?_ ?_ _) | (with_reducible refine Below.alloc ?_ ?_ _) | go_size))⟩
        · go_wp2
          go_roundw
          case rel => exact ⟨j, _, _, by omega, by go_num, rfl, by omega, hle1, ho2', hkk, hbw⟩
          case measure => first | (simp [intOf]; done) | (simp [intOf]; omega)
end Go.Proofs.YtenekbfnlbipiaaDoor
