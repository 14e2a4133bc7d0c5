/- Walks: nat.Pow. -/
import Derived.Test.YtkepjhgafpbecaaM
import Derived.Test.YtkepjhgafpbecaaPl2
namespace Go.Proofs.Ytkepjhgafpbecaa
open Go.RowKit
set_option linter.unusedVariables false
set_option linter.unusedSimpArgs false
set_option maxHeartbeats 4000000
set_option maxRecDepth 100000

theorem Own.setT {w : World} {B c : Nat} {t t' : TypeId} {A : Option Addr} {l : List Nat} {cs : Array Value} (h : Own w t B A c l) {p : Addr} (hb : Blk w p.block t' cs) (hne : t ≠ t') (u : Value) : Own (w.setCell p u) t B A c l := by
  refine ⟨h.1, h.2.1, ?_⟩
  rcases h.2.2 with h | ⟨g', cur, e, hg, hk, r⟩
  · exact .inl h
  · refine .inr ⟨g', cur, e, hg, hk.far ?_ u, r⟩
    intro e'
    unfold Blk at hk hb
    rw [e', hb] at hk
    injection hk with hk; injection hk with _ hk
    exact hne hk.symm

theorem and_one (k : Nat) (hk : k < 9223372036854775808) : bits BinOp.and IntKind.i64 (k : Int) 1 = ((k % 2 : Nat) : Int) := by
  have h1 : ∀ a : Nat, a < 9223372036854775808 → (BitVec.ofInt 64 (a : Int)).toNat = a := fun a ha => by
    rw [BitVec.ofInt_natCast, BitVec.toNat_ofNat]; exact Nat.mod_eq_of_lt (by omega)
  show IntKind.i64.wrap ((BitVec.ofInt 64 (k : Int) &&& BitVec.ofInt 64 ((1 : Nat) : Int)).toNat : Int) = _
  rw [BitVec.toNat_and, h1 k hk, h1 1 (by decide), IntKind.wrap_i64, Nat.and_one_is_mod]
  omega
theorem par_odd {k : Nat} (hk : k ≤ 524288) (h : k % 2 = 1) : (bits BinOp.and IntKind.i64 (k : Int) 1 == 1) = true := by
  rw [and_one k (by omega), h]; rfl
theorem par_even {k : Nat} (hk : k ≤ 524288) (h : k % 2 = 0) : (bits BinOp.and IntKind.i64 (k : Int) 1 == 1) = false := by
  rw [and_one k (by omega), h]; rfl
theorem Blk.set0 {w : World} {g : Nat} {t : TypeId} {u0 : Value} (h : Blk w g t #[u0]) (u : Value) : Blk (w.setCell ⟨g, 0, none⟩ u) g t #[u] := by
  have := h.set_ 0 u
  simpa using this
theorem Blk.cell0 {w : World} {g : Nat} {t : TypeId} {u0 : Value} (h : Blk w g t #[u0]) : w.cell? ⟨g, 0, none⟩ = some u0 := by
  have := h.cell 0
  simpa using this
theorem limbs_len1 {n : Nat} (h : n < 4294967296) : (limbs n).length ≤ 1 := by rw [length_limbs_le]; exact h
/-- The relation of Pow's loop: out times square to the power of what is left. -/
def PowRel (N B g6 g7 : Nat) (w : World) (v1 : Value) (wr : World) : Prop :=
  ∃ (x y k : Nat) (A1 A2 : Option Addr) (c1 c2 : Nat), 1 ≤ k ∧ k ≤ 524288 ∧ v1 = .int .i64 (k : Int) ∧ 0 < x ∧ 0 < y ∧ x * y ^ k = N ∧ (limbs x).length ≤ 16384 ∧ (limbs y).length ≤ 16384 ∧
    Blk wr B 35 #[.slice none 0 0] ∧ Blk wr g6 35 #[.slice A1 (limbs x).length c1] ∧ Blk wr g7 35 #[.slice A2 (limbs y).length c2] ∧
    Own wr 28 B A1 c1 (limbs x) ∧ Own wr 28 B A2 c2 (limbs y) ∧ Below B w wr

theorem nat_Pow (X : Int) (b : Nat) (hX : X = (b : Int)) (hb : b < 4294967296) (n : Int) (hn1 : -9223372036854775808 ≤ n) (hn2 : n ≤ 9223372036854775807) (w : World) :
    Calls Try.prog 19 #[.int .u32 X, .int .i64 n] w (NatAns 28 w (powS b n)) := by
  subst hX
  by_cases h0 : n < 0
  · have e : powS b n = ([], 2) := by unfold powS; rw [if_pos h0]
    rw [e]
    go_enter Try.func19, Try.ntmps19
    go_wp2
    go_returns
    exact ⟨none, 0, rfl, Own.nil _ _ _, (by repeat' (first | (with_reducible assumption) | (with_reducible exact Below.refl _ _) | (with_reducible refine bdn ?_ _) | (with_reducible refine Below.drew ?_) | (with_reducible refine Below.setCell ?_ ?_ _) | (with_reducible refine Below.alloc ?_ ?_ _) | go_size))⟩
  by_cases h1 : n = 0
  · subst h1
    have e : powS b 0 = (limbs 1, 0) := by unfold powS; rw [if_neg h0, if_pos rfl]
    rw [e]
    go_enter Try.func19, Try.ntmps19
    go_wp2_with fail
    refine (nat_Of 1 1 rfl (by decide) _).mono ?_
    rintro e w1 ⟨A, c, rfl, ho, hb1⟩
    obtain ⟨hc1, hf1⟩ := bcell hb1
    have hbw1 : Below w.heap.size w w1 := Below.trans (b := _) (by repeat' (first | (with_reducible assumption) | (with_reducible exact Below.refl _ _) | (with_reducible refine bdn ?_ _) | (with_reducible refine Below.drew ?_) | (with_reducible refine Below.setCell ?_ ?_ _) | (with_reducible refine Below.alloc ?_ ?_ _) | go_size)) (hb1.mono (by go_size))
    have hz1_0 : w.heap.size < w1.heap.size := by have := hb1.size; simp at this; omega
    go_wp2
    (try simp only [Exit.inBlock, Exit.then]); refine bodyPost_ret (by simp (maxDischargeDepth := 9) [results, Try.results19, go_sem, hc1, hz1_0]; try rfl) rfl ?_
    exact ⟨_, _, rfl, (ho.setCell (by simp) _).mono (by simp), (by repeat' (first | (with_reducible assumption) | (with_reducible exact Below.refl _ _) | (with_reducible refine bdn ?_ _) | (with_reducible refine Below.drew ?_) | (with_reducible refine Below.setCell ?_ ?_ _) | (with_reducible refine Below.alloc ?_ ?_ _) | go_size))⟩
  have h1B : (n == 0) = false := by rw [beq_eq_false_iff_ne]; exact h1
  by_cases h2 : b < 2
  · have e : powS b n = (limbs b, 0) := by unfold powS; rw [if_neg h0, if_neg h1, if_pos h2]
    rw [e]
    clear h1
    go_enter Try.func19, Try.ntmps19
    go_wp2_with fail
    refine (nat_Of _ b rfl (by omega) _).mono ?_
    rintro e w1 ⟨A, c, rfl, ho, hb1⟩
    obtain ⟨hc1, hf1⟩ := bcell hb1
    have hbw1 : Below w.heap.size w w1 := Below.trans (b := _) (by repeat' (first | (with_reducible assumption) | (with_reducible exact Below.refl _ _) | (with_reducible refine bdn ?_ _) | (with_reducible refine Below.drew ?_) | (with_reducible refine Below.setCell ?_ ?_ _) | (with_reducible refine Below.alloc ?_ ?_ _) | go_size)) (hb1.mono (by go_size))
    have hz1_0 : w.heap.size < w1.heap.size := by have := hb1.size; simp at this; omega
    go_wp2
    (try simp only [Exit.inBlock, Exit.then]); refine bodyPost_ret (by simp (maxDischargeDepth := 9) [results, Try.results19, go_sem, hc1, hz1_0]; try rfl) rfl ?_
    exact ⟨_, _, rfl, (ho.setCell (by simp) _).mono (by simp), (by repeat' (first | (with_reducible assumption) | (with_reducible exact Below.refl _ _) | (with_reducible refine bdn ?_ _) | (with_reducible refine Below.drew ?_) | (with_reducible refine Below.setCell ?_ ?_ _) | (with_reducible refine Below.alloc ?_ ?_ _) | go_size))⟩
  by_cases h3 : 524288 < n
  · have e : powS b n = ([], 4) := by unfold powS; rw [if_neg h0, if_neg h1, if_neg h2, if_pos h3]
    rw [e]
    clear h1
    go_enter Try.func19, Try.ntmps19
    go_wp2
    go_returns
    exact ⟨none, 0, rfl, Own.nil _ _ _, (by repeat' (first | (with_reducible assumption) | (with_reducible exact Below.refl _ _) | (with_reducible refine bdn ?_ _) | (with_reducible refine Below.drew ?_) | (with_reducible refine Below.setCell ?_ ?_ _) | (with_reducible refine Below.alloc ?_ ?_ _) | go_size))⟩
  obtain ⟨n, rfl⟩ : ∃ k : Nat, n = (k : Int) := ⟨n.toNat, by omega⟩
  have e : powS b (n : Int) = fitS (b ^ n) := by unfold powS; rw [if_neg h0, if_neg h1, if_neg h2, if_neg h3, Int.toNat_natCast]
  rw [e]
  have hnp : 1 ≤ n := by omega
  have hn5 : n ≤ 524288 := by omega
  clear h1 e
  go_enter Try.func19, Try.ntmps19
  go_wp2_with fail
  refine (nat_Of 1 1 rfl (by decide) _).mono ?_
  rintro e w1 ⟨A1, c1, rfl, ho1, hb1⟩
  go_wp2_with fail
  refine (nat_Of _ b rfl (by omega) _).mono ?_
  rintro e w2 ⟨A2, c2, rfl, ho2, hb2⟩
  go_wp2
  have hbw2 : Below w.heap.size w w2 := ((((Below.refl _ _).alloc (Nat.le_refl _) _).trans (hb1.mono (by simp))).trans (hb2.mono (by have := hb1.size; simp at this; omega)))
  have hz2 := hb2.size
  have hz1 := hb1.size
  simp at hz1
  go_loopw [1] (fun v1 wr => PowRel (b ^ n) w.heap.size w2.heap.size (w2.heap.size + 1) w v1 wr) (fun v1 _ => (intOf v1).toNat)
  case atStart =>
    have hk0 : Blk ((w2.alloc (Obj.cells #[Value.slice A1 (limbs 1).length c1] 35)).alloc (Obj.cells #[Value.slice A2 (limbs b).length c2] 35)) w.heap.size 35 #[.slice none 0 0] :=
      ((((Blk.new w _ _).below hb1 (by simp)).below hb2 (by omega)).alloc _).alloc _
    exact ⟨1, b, n, A1, A2, c1, c2, hnp, hn5, rfl, by decide, by omega, by rw [Nat.one_mul], by rw [limbs_small (by omega) (by omega)]; simp, by have := limbs_len1 hb; omega, hk0,
      (Blk.new w2 _ _).alloc _, by have := Blk.new (w2.alloc (Obj.cells #[Value.slice A1 (limbs 1).length c1] 35)) 35 #[Value.slice A2 (limbs b).length c2]; simpa using this,
      (((ho1.below hb2 (Nat.le_refl _)).mono (by simp)).alloc _).alloc _, ((ho2.mono (by omega)).alloc _).alloc _, ((hbw2.alloc (by omega) _).alloc (by simp; omega) _)⟩
  case round =>
    obtain ⟨x, y, k, A3, A4, c3, c4, hk1, hk5, rfl, hx0, hy0, hpow, hlx, hly, hkr, hk6, hk7, hox, hoy, hbl⟩ := hrel
    have HPOW := Lib.hid hpow
    clear hpow
    have cr := hkr.cell0
    have c6 := hk6.cell0
    have c7 := hk7.cell0
    have fr := hkr.frozen 0
    have f6 := hk6.frozen 0
    have f7 := hk7.frozen 0
    by_cases hodd : k % 2 = 1
    · have hpar := par_odd hk5 hodd
      go_wp2_with fail
      refine (nat_Mul A3 A4 (limbs x) (limbs y) _ _ c3 c4 rfl rfl _ hox.rd hoy.rd).mono ?_
      rw [mulS_limbs hlx hly]
      by_cases hfx : 16384 < (limbs (x * y)).length
      · have e : fitS (b ^ n) = ([], 4) := fitS_many (Nat.lt_of_lt_of_le hfx (limbs_mono (le_of_pow hx0 hy0 hk1 HPOW.out)))
        have E := Lib.hid e
        clear e
        rw [fitS_many hfx]
        rintro e w3 ⟨A5, c5, rfl, ho3, hb3⟩
        have hr3 := hkr.below hb3 hkr.lt
        have h63 := hk6.below hb3 hk6.lt
        have d0 := hr3.cell0
        have d1 := hr3.frozen 0
        have d2 := h63.cell0
        have d3 := h63.frozen 0
        have hlt3 := hr3.lt
        have hbw3 : Below w.heap.size w w3 := hbl.trans (hb3.mono (by have := hkr.lt; omega))
        clear cr c6 c7 fr f6 f7
        go_wp2
        (try simp only [Exit.inBlock, Exit.then]); refine bodyPost_ret (by simp (maxDischargeDepth := 9) [results, Try.results19, go_sem, d0]; try rfl) rfl ?_
        rw [E.out]
        exact ⟨none, 0, rfl, Own.nil _ _ _, (by repeat' (first | (with_reducible assumption) | (with_reducible exact Below.refl _ _) | (with_reducible refine bdn ?_ _) | (with_reducible refine Below.drew ?_) | (with_reducible refine Below.setCell ?_ ?_ _) | (with_reducible refine Below.alloc ?_ ?_ _) | go_size))⟩
      · rw [fitS_ok (by omega)]
        rintro e w3 ⟨A5, c5, rfl, ho3, hb3⟩
        have hr3 := (hkr.below hb3 hkr.lt).far (p := ⟨w2.heap.size, 0, none⟩) (by simp; omega) (Value.slice A5 (limbs (x * y)).length c5)
        have h63 := hk6.below hb3 hk6.lt
        have h63' := h63.set0 (Value.slice A5 (limbs (x * y)).length c5)
        have h73 := (hk7.below hb3 hk7.lt).far (p := ⟨w2.heap.size, 0, none⟩) (by simp) (Value.slice A5 (limbs (x * y)).length c5)
        have hox3 : Own (w3.setCell ⟨w2.heap.size, 0, none⟩ (Value.slice A5 (limbs (x * y)).length c5)) 28 w.heap.size A5 c5 (limbs (x * y)) := (ho3.mono (by have := hkr.lt; omega)).setT h63 (by decide) _
        have hoy3 : Own (w3.setCell ⟨w2.heap.size, 0, none⟩ (Value.slice A5 (limbs (x * y)).length c5)) 28 w.heap.size A4 c4 (limbs y) := (hoy.below hb3 (Nat.le_refl _)).setT h63 (by decide) _
        have hbw3 : Below w.heap.size w (w3.setCell ⟨w2.heap.size, 0, none⟩ (Value.slice A5 (limbs (x * y)).length c5)) := (hbl.trans (hb3.mono (by have := hkr.lt; omega))).setCell (by simp; omega) _
        have e0 := (hkr.below hb3 hkr.lt).cell0
        have e1 := (hkr.below hb3 hkr.lt).frozen 0
        have e2 := h63.cell0
        have e3 := h63.frozen 0
        have e4 := (hk7.below hb3 hk7.lt).cell0
        have e5 := (hk7.below hb3 hk7.lt).frozen 0
        have hlt3 := (hkr.below hb3 hkr.lt).lt
        clear cr c6 c7 fr f6 f7
        by_cases hk0 : k = 1
        · subst hk0
          have E := Lib.hid HPOW.out
          have hN : x * y = b ^ n := by have := HPOW.out; rw [Nat.pow_one] at this; exact this
          have HN := Lib.hid hN
          clear hN
          go_wp2
          (try simp only [Exit.inBlock, Exit.then]); refine bodyPost_ret (by simp (maxDischargeDepth := 9) [results, Try.results19, go_sem, e0, e2]; try rfl) rfl ?_
          rw [← HN.out, fitS_ok (by omega)]
          exact ⟨_, _, rfl, hox3.setT hr3 (by decide) _, (by repeat' (first | (with_reducible assumption) | (with_reducible exact Below.refl _ _) | (with_reducible refine bdn ?_ _) | (with_reducible refine Below.drew ?_) | (with_reducible refine Below.setCell ?_ ?_ _) | (with_reducible refine Below.alloc ?_ ?_ _) | go_size))⟩
        · have hk2 : ((k : Int) / 2 == 0) = false := by rw [beq_eq_false_iff_ne]; omega
          go_wp2_with fail
          refine (nat_Mul A4 A4 (limbs y) (limbs y) _ _ c4 c4 rfl rfl _ hoy3.rd hoy3.rd).mono ?_
          rw [mulS_limbs hly hly]
          by_cases hfy : 16384 < (limbs (y * y)).length
          · have e : fitS (b ^ n) = ([], 4) := fitS_many (Nat.lt_of_lt_of_le hfy (limbs_mono (sq_le_of_pow hx0 hy0 (by omega) HPOW.out)))
            have E := Lib.hid e
            clear e
            rw [fitS_many hfy]
            rintro e w5 ⟨A6, c6', rfl, ho5, hb5⟩
            have hr5 := hr3.below hb5 hr3.lt
            have h75 := h73.below hb5 h73.lt
            have d0 := hr5.cell0
            have d1 := hr5.frozen 0
            have d2 := h75.cell0
            have d3 := h75.frozen 0
            have hbw5 : Below w.heap.size w w5 := hbw3.trans (hb5.mono (by have := hr3.lt; omega))
            have hlt5 := hr5.lt
            go_wp2
            (try simp only [Exit.inBlock, Exit.then]); refine bodyPost_ret (by simp (maxDischargeDepth := 9) [results, Try.results19, go_sem, d0]; try rfl) rfl ?_
            rw [E.out]
            exact ⟨none, 0, rfl, Own.nil _ _ _, (by repeat' (first | (with_reducible assumption) | (with_reducible exact Below.refl _ _) | (with_reducible refine bdn ?_ _) | (with_reducible refine Below.drew ?_) | (with_reducible refine Below.setCell ?_ ?_ _) | (with_reducible refine Below.alloc ?_ ?_ _) | go_size))⟩
          · rw [fitS_ok (by omega)]
            rintro e w5 ⟨A6, c6', rfl, ho5, hb5⟩
            have hr5 := hr3.below hb5 hr3.lt
            have h65 := h63'.below hb5 h63'.lt
            have h75 := h73.below hb5 h73.lt
            have hox5 := hox3.below hb5 (Nat.le_refl _)
            have d2 := h75.cell0
            have d3 := h75.frozen 0
            have hbw5 : Below w.heap.size w w5 := hbw3.trans (hb5.mono (by have := hr3.lt; omega))
            have hk2 : 1 ≤ k / 2 := by omega
            go_wp2
            go_roundw
            case rel =>
              exact ⟨x * y, y * y, k / 2, _, A6, _, c6', hk2, by omega, vi (by omega), Nat.mul_pos hx0 hy0, Nat.mul_pos hy0 hy0, pow_odd hodd HPOW.out, by omega, by omega, hr5.far (by simp; omega) _, h65.far (by simp) _, h75.set0 _, hox5.setT h75 (by decide) _, (ho5.mono (by have := hr3.lt; omega)).setT h75 (by decide) _, (by repeat' (first | (with_reducible assumption) | (with_reducible exact Below.refl _ _) | (with_reducible refine bdn ?_ _) | (with_reducible refine Below.drew ?_) | (with_reducible refine Below.setCell ?_ ?_ _) | (with_reducible refine Below.alloc ?_ ?_ _) | go_size))⟩
            case measure => first | (simp [intOf]; done) | (simp [intOf]; omega)
    · have hpar := par_even hk5 (show k % 2 = 0 by omega)
      have hk2 : ((k : Int) / 2 == 0) = false := by rw [beq_eq_false_iff_ne]; omega
      go_wp2_with fail
      refine (nat_Mul A4 A4 (limbs y) (limbs y) _ _ c4 c4 rfl rfl _ hoy.rd hoy.rd).mono ?_
      rw [mulS_limbs hly hly]
      by_cases hfy : 16384 < (limbs (y * y)).length
      · have e : fitS (b ^ n) = ([], 4) := fitS_many (Nat.lt_of_lt_of_le hfy (limbs_mono (sq_le_of_pow hx0 hy0 (by omega) HPOW.out)))
        have E := Lib.hid e
        clear e
        rw [fitS_many hfy]
        rintro e w5 ⟨A6, c6', rfl, ho5, hb5⟩
        have hr5 := hkr.below hb5 hkr.lt
        have h75 := hk7.below hb5 hk7.lt
        have d0 := hr5.cell0
        have d1 := hr5.frozen 0
        have d2 := h75.cell0
        have d3 := h75.frozen 0
        have hbw5 : Below w.heap.size w w5 := hbl.trans (hb5.mono (by have := hkr.lt; omega))
        have hlt5 := hr5.lt
        go_wp2
        (try simp only [Exit.inBlock, Exit.then]); refine bodyPost_ret (by simp (maxDischargeDepth := 9) [results, Try.results19, go_sem, d0]; try rfl) rfl ?_
        rw [E.out]
        exact ⟨none, 0, rfl, Own.nil _ _ _, (by repeat' (first | (with_reducible assumption) | (with_reducible exact Below.refl _ _) | (with_reducible refine bdn ?_ _) | (with_reducible refine Below.drew ?_) | (with_reducible refine Below.setCell ?_ ?_ _) | (with_reducible refine Below.alloc ?_ ?_ _) | go_size))⟩
      · rw [fitS_ok (by omega)]
        rintro e w5 ⟨A6, c6', rfl, ho5, hb5⟩
        have hr5 := hkr.below hb5 hkr.lt
        have h65 := hk6.below hb5 hk6.lt
        have h75 := hk7.below hb5 hk7.lt
        have hox5 := hox.below hb5 (Nat.le_refl _)
        have d2 := h75.cell0
        have d3 := h75.frozen 0
        have hbw5 : Below w.heap.size w w5 := hbl.trans (hb5.mono (by have := hkr.lt; omega))
        have hk2 : 1 ≤ k / 2 := by omega
        go_wp2
        go_roundw
        case rel =>
          exact ⟨x, y * y, k / 2, _, A6, _, c6', hk2, by omega, vi (by omega), hx0, Nat.mul_pos hy0 hy0, pow_even (by omega) HPOW.out, hlx, by omega, hr5.far (by simp; omega) _, h65.far (by simp) _, h75.set0 _, hox5.setT h75 (by decide) _, (ho5.mono (by have := hkr.lt; omega)).setT h75 (by decide) _, (by repeat' (first | (with_reducible assumption) | (with_reducible exact Below.refl _ _) | (with_reducible refine bdn ?_ _) | (with_reducible refine Below.drew ?_) | (with_reducible refine Below.setCell ?_ ?_ _) | (with_reducible refine Below.alloc ?_ ?_ _) | go_size))⟩
        case measure => first | (simp [intOf]; done) | (simp [intOf]; omega)
end Go.Proofs.Ytkepjhgafpbecaa
