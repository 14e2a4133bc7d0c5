/- Walks: nat.Mul. -/
import Derived.Test.YtenekbfnlbipiaaDoorE
import Derived.Test.YtenekbfnlbipiaaDoorPl2
namespace Go.Proofs.YtenekbfnlbipiaaDoor
open Go.RowKit
set_option linter.unusedVariables false
set_option linter.unusedSimpArgs false
set_option maxHeartbeats 4000000
set_option maxRecDepth 100000

theorem nat_Mul (A B : Option Addr) (a b : List Nat) (n m c d : Nat) (hn : n = a.length) (hm : m = b.length) (w : World) (ha : Rd w A a) (hb : Rd w B b) :
    Calls Tryd.prog 75 #[.agg #[.slice A n c], .agg #[.slice B m d]] w (NatAns 90 w (mulS a b)) := by
  subst hn hm
  have hla := ha.len
  have hlb := hb.len
  have ha2 := (((ha.alloc (Obj.cells #[Value.slice A a.length c] 56)).alloc (Obj.cells #[Value.slice B b.length d] 56)).alloc (Obj.cells #[Value.slice none 0 0] 56)).alloc (Obj.cells #[Value.slice A a.length c, Value.slice B b.length d] 56)
  have hb2 := (((hb.alloc (Obj.cells #[Value.slice A a.length c] 56)).alloc (Obj.cells #[Value.slice B b.length d] 56)).alloc (Obj.cells #[Value.slice none 0 0] 56)).alloc (Obj.cells #[Value.slice A a.length c, Value.slice B b.length d] 56)
  by_cases hz : chk2 a b = 0
  · have hl1 := (chk_zero (chk2_zero hz).1).1
    have hl2 := (chk_zero (chk2_zero hz).2).1
    have HZ := Lib.hid hz
    by_cases hbig : 16385 < a.length + b.length
    · have e : mulS a b = ([], 4) := by unfold mulS; rw [if_pos hz, if_pos hbig]
      rw [e]
      clear hz
      go_enter Tryd.func75, Tryd.ntmps75
      go_wp2_with fail
      refine (nat_checks _ A B a b _ _ c d rfl rfl _ ha2 hb2 (by simp [go_sem]) (by simp [go_sem])).mono ?_
      rintro e w1 ⟨rfl, hb1⟩
      rw [HZ.out]
      obtain ⟨hc1, hf1⟩ := bcell hb1
      have hbw1 : Below w.heap.size w w1 := Below.trans (b := _) (by repeat' (first | (with_reducible assumption) | (with_reducible exact Below.refl _ _) | (with_reducible refine bdn ?_ _) | (with_reducible refine Below.drew ?_) | (with_reducible refine Below.setCell ?_ ?_ _) | (with_reducible refine Below.alloc ?_ ?_ _) | go_size)) (hb1.mono (by go_size))
      have hz1_0 : w.heap.size < w1.heap.size := by have := hb1.size; simp at this; omega
      have hz1_1 : w.heap.size + 1 < w1.heap.size := by have := hb1.size; simp at this; omega
      have hz1_2 : w.heap.size + 2 < w1.heap.size := by have := hb1.size; simp at this; omega
      have hz1_3 : w.heap.size + 3 < w1.heap.size := by have := hb1.size; simp at this; omega
      go_wp2
      go_quiet (fail)
      go_wp2
      (try simp only [Exit.inBlock, Exit.then]); refine bodyPost_ret (by simp (maxDischargeDepth := 9) [results, Tryd.results75, go_sem, hc1, hz1_0, hz1_1, hz1_2, hz1_3]; try rfl) rfl ?_
      exact ⟨none, 0, rfl, Own.nil _ _ _, (by repeat' (first | (with_reducible assumption) | (with_reducible exact Below.refl _ _) | (with_reducible refine bdn ?_ _) | (with_reducible refine Below.drew ?_) | (with_reducible refine Below.setCell ?_ ?_ _) | (with_reducible refine Below.alloc ?_ ?_ _) | go_size))⟩
    · have e : mulS a b = fitS (val a * val b) := by unfold mulS; rw [if_pos hz, if_neg hbig]
      have hmk := fun W => mk32 (a.length + b.length) ((a.length : Int) + (b.length : Int)) (by omega) (by omega) W
      rw [e]
      clear hz
      go_enter Tryd.func75, Tryd.ntmps75
      go_wp2_with fail
      refine (nat_checks _ A B a b _ _ c d rfl rfl _ ha2 hb2 (by simp [go_sem]) (by simp [go_sem])).mono ?_
      rintro e w1 ⟨rfl, hb1⟩
      rw [HZ.out]
      obtain ⟨hc1, hf1⟩ := bcell hb1
      have hbw1 : Below w.heap.size w w1 := Below.trans (b := _) (by repeat' (first | (with_reducible assumption) | (with_reducible exact Below.refl _ _) | (with_reducible refine bdn ?_ _) | (with_reducible refine Below.drew ?_) | (with_reducible refine Below.setCell ?_ ?_ _) | (with_reducible refine Below.alloc ?_ ?_ _) | go_size)) (hb1.mono (by go_size))
      have hz1_0 : w.heap.size < w1.heap.size := by have := hb1.size; simp at this; omega
      have hz1_1 : w.heap.size + 1 < w1.heap.size := by have := hb1.size; simp at this; omega
      have hz1_2 : w.heap.size + 2 < w1.heap.size := by have := hb1.size; simp at this; omega
      have hz1_3 : w.heap.size + 3 < w1.heap.size := by have := hb1.size; simp at this; omega
      go_wp2
      go_quiet (fail)
      go_wp2
      clear ha2 hb2
      have hb1' := hb1.size
      simp at hb1'
      have ha1 := ha.below hbw1
      have hb1b := hb.below hbw1
      have hcr : w1.cell? ⟨w.heap.size + 2, 0, none⟩ = some (Value.slice none 0 0) := by
        rw [hc1 _ _ (by simp)]; simp [go_sem]
      have hfr : w1.frozen? ⟨w.heap.size + 2, 0, none⟩ = false := by
        rw [hf1 _ _ (by simp)]; simp [go_sem]
      have hbase := w1.heap.size
      clear hc1 hf1 hb1
      go_loopw [43] (fun i wr => ∃ (k : Nat) (o : List Nat), k ≤ a.length ∧ i = .int .i64 (k : Int) ∧ o.length = a.length + b.length ∧ Sm o ∧ (∀ j, k + b.length ≤ j → nth o j = 0) ∧ val o = val (a.take k) * val b ∧ Row wr 90 w1.heap.size o ∧ Below w1.heap.size w1 wr) (fun i _ => a.length - (intOf i).toNat)
      case atStart =>
        exact ⟨0, List.replicate (a.length + b.length) 0, Nat.zero_le _, rfl, by simp, Sm.replicate _, fun j _ => nth_replicate _ _, by rw [val_replicate]; simp [val], row_new rfl (by simp), (by repeat' (first | (with_reducible assumption) | (with_reducible exact Below.refl _ _) | (with_reducible refine bdn ?_ _) | (with_reducible refine Below.drew ?_) | (with_reducible refine Below.setCell ?_ ?_ _) | (with_reducible refine Below.alloc ?_ ?_ _) | go_size))⟩
      case round =>
        obtain ⟨wo, rfl⟩ : ∃ wo : World, wo = wr := ⟨_, rfl⟩
        obtain ⟨i, o, hi, rfl, hol, hos, hoz, hov, hrow, hbl⟩ := hrel
        have HOL := Lib.hid hol
        have HOZ := Lib.hid hoz
        have HOV := Lib.hid hov
        clear hol hoz hov
        by_cases hi1 : i < a.length
        · obtain ⟨ba, oa, rfl, hca⟩ := rd_at ha1 hbl (k := i) hi1
          go_wp2
          go_loopw [12, 63] (fun v7 v8 wr => RowRel w1 w1.heap.size a b i (a.length + b.length) (val o) v7 v8 wr) (fun _ v8 _ => b.length - (intOf v8).toNat)
          case atStart =>
            exact ⟨0, 0, o, Nat.zero_le _, rfl, rfl, by decide, HOL.out, hos, HOZ.out, by simp [val], hrow, hbl⟩
          case round =>
            obtain ⟨k, cy, o2, hk, rfl, rfl, hcy, hol2, hos2, hoz2, hov2, hrow2, hbl2⟩ := hrel
            have HOL2 := Lib.hid hol2
            have HOZ2 := Lib.hid hoz2
            have HOV2 := Lib.hid hov2
            clear hol2 hoz2 hov2 hca
            by_cases hk1 : k < b.length
            · obtain ⟨bb, ob, rfl, hcb⟩ := rd_at hb1b hbl2 (k := k) (by omega)
              have hco := hrow2.cell (i + k) (by rw [HOL2.out]; omega)
              have hfz := hrow2.frozen (i + k)
              have hx := ha.sm.nth i
              have hy := hb.sm.nth k
              have ho := hos2.nth (i + k)
              have hPb := prod_le hx hy
              obtain ⟨P, hP⟩ : ∃ P : Nat, P = nth a i * nth b k := ⟨_, rfl⟩
              rw [← hP] at hPb
              have hPe : ((nth a i : Nat) : Int) * ((nth b k : Nat) : Int) = (P : Int) := by rw [hP, Int.natCast_mul]
              have HP := Lib.hid hP
              clear hP
              go_wp2
              go_roundw
              case rel =>
                have st := row_step (P := nth a i * nth b k) (by rw [HOL2.out]; omega) HOV2.out
                rw [← HP.out] at st
                refine ⟨k + 1, (P + nth o2 (i + k) + cy) / 4294967296, o2.set (i + k) ((P + nth o2 (i + k) + cy) % 4294967296), by omega, by go_num, vi (by omega), by omega, by simp [HOL2.out], hos2.set _ _ (by omega), ?_, ?_, hrow2.setE _ _ (by omega), (by repeat' (first | (with_reducible assumption) | (with_reducible exact Below.refl _ _) | (with_reducible refine bdn ?_ _) | (with_reducible refine Below.drew ?_) | (with_reducible refine Below.setCell ?_ ?_ _) | (with_reducible refine Below.alloc ?_ ?_ _) | go_size))⟩
                · intro j hj
                  rw [nth_set_ne _ _ _ _ (by omega)]
                  exact HOZ2.out j hj
                · rw [← Nat.add_assoc, st, val_take_succ', HP.out]
                  congr 1
                  rw [Nat.pow_add, Nat.mul_add, Nat.mul_add]
                  congr 1
                  simp only [Nat.mul_assoc, Nat.mul_left_comm]
              case measure => first | (simp [intOf]; done) | (simp [intOf]; omega)
            · have hkb : k = b.length := by omega
              have hco := hrow2.cell (i + b.length) (by rw [HOL2.out]; omega)
              have hfz := hrow2.frozen (i + b.length)
              have HKB := Lib.hid hkb
              clear hkb
              go_wp2
              go_roundw
              case rel =>
                have hv := HOV2.out
                rw [HKB.out, List.take_length] at hv
                have hz0 := HOZ2.out (i + b.length) (Nat.le_refl _)
                have hs := val_set o2 (i + b.length) cy (by rw [HOL2.out]; omega)
                refine ⟨i + 1, o2.set (i + b.length) cy, by omega, by go_num, by simp [HOL2.out], hos2.set _ _ hcy, ?_, ?_, hrow2.setE _ _ (by omega), (by repeat' (first | (with_reducible assumption) | (with_reducible exact Below.refl _ _) | (with_reducible refine bdn ?_ _) | (with_reducible refine Below.drew ?_) | (with_reducible refine Below.setCell ?_ ?_ _) | (with_reducible refine Below.alloc ?_ ?_ _) | go_size))⟩
                · intro j hj
                  rw [nth_set_ne _ _ _ _ (by omega)]
                  exact HOZ2.out j (by omega)
                · rw [hz0, Nat.mul_zero, Nat.add_zero] at hs
                  rw [hs, hv, HOV.out, val_take_succ', Nat.add_mul, Nat.mul_assoc]
              case measure => first | (simp [intOf]; done) | (simp [intOf]; omega)
        · have hia : i = a.length := by omega
          have hfin : val o = val a * val b := by rw [HOV.out, hia, List.take_length]
          have HF := Lib.hid hfin
          clear hfin hia
          go_wp2_with fail
          refine (nat_fits w1.heap.size o _ (a.length + b.length) w1.heap.size HOL.out.symm (Nat.le_refl _) _ hrow hos (by rw [HOL.out]; omega) (Nat.le_refl _) hbl.size).mono ?_
          rw [HF.out]
          rintro e w3 ⟨A3, c3, rfl, ho3, hb3⟩
          have hz3 : w.heap.size + 2 < w3.heap.size := by have := hb3.size; have := hbl.size; omega
          have hc3 : w3.cell? ⟨w.heap.size + 2, 0, none⟩ = some (Value.slice none 0 0) := by
            rw [below_cell hb3 (by have := hbl.size; omega), below_cell hbl (by omega)]; exact hcr
          have hf3 : w3.frozen? ⟨w.heap.size + 2, 0, none⟩ = false := by
            rw [below_frozen hb3 (by have := hbl.size; omega), below_frozen hbl (by omega)]; exact hfr
          have hbw3 : Below w.heap.size w w3 := (hbw1.trans (hbl.mono (by omega))).trans (hb3.mono (by have := hbl.size; omega))
          clear hcr hfr
          go_wp2
          (try simp only [Exit.inBlock, Exit.then]); refine bodyPost_ret (by simp (maxDischargeDepth := 9) [results, Tryd.results75, go_sem, hc3]; try rfl) rfl ?_
          exact ⟨_, _, rfl, (ho3.setCell (by simp; omega) _).mono (by omega), (by repeat' (first | (with_reducible assumption) | (with_reducible exact Below.refl _ _) | (with_reducible refine bdn ?_ _) | (with_reducible refine Below.drew ?_) | (with_reducible refine Below.setCell ?_ ?_ _) | (with_reducible refine Below.alloc ?_ ?_ _) | go_size))⟩
  · have e : mulS a b = ([], chk2 a b) := by unfold mulS; rw [if_neg hz]
    have hne : (chk2 a b != 0) = true := by rw [bne_iff_ne]; exact hz
    rw [e]
    clear hz
    go_enter Tryd.func75, Tryd.ntmps75
    go_wp2_with fail
    refine (nat_checks _ A B a b _ _ c d rfl rfl _ ha2 hb2 (by simp [go_sem]) (by simp [go_sem])).mono ?_
    rintro e w1 ⟨rfl, hb1⟩
    obtain ⟨hc1, hf1⟩ := bcell hb1
    have hbw1 : Below w.heap.size w w1 := Below.trans (b := _) (by repeat' (first | (with_reducible assumption) | (with_reducible exact Below.refl _ _) | (with_reducible refine bdn ?_ _) | (with_reducible refine Below.drew ?_) | (with_reducible refine Below.setCell ?_ ?_ _) | (with_reducible refine Below.alloc ?_ ?_ _) | go_size)) (hb1.mono (by go_size))
    have hz1_0 : w.heap.size < w1.heap.size := by have := hb1.size; simp at this; omega
    have hz1_1 : w.heap.size + 1 < w1.heap.size := by have := hb1.size; simp at this; omega
    have hz1_2 : w.heap.size + 2 < w1.heap.size := by have := hb1.size; simp at this; omega
    have hz1_3 : w.heap.size + 3 < w1.heap.size := by have := hb1.size; simp at this; omega
    go_wp2
    (try simp only [Exit.inBlock, Exit.then]); refine bodyPost_ret (by simp (maxDischargeDepth := 9) [results, Tryd.results75, go_sem, hc1, hz1_0, hz1_1, hz1_2, hz1_3]; try rfl) rfl ?_
    exact ⟨none, 0, rfl, Own.nil _ _ _, (by repeat' (first | (with_reducible assumption) | (with_reducible exact Below.refl _ _) | (with_reducible refine bdn ?_ _) | (with_reducible refine Below.drew ?_) | (with_reducible refine Below.setCell ?_ ?_ _) | (with_reducible refine Below.alloc ?_ ?_ _) | go_size))⟩
end Go.Proofs.YtenekbfnlbipiaaDoor
namespace Go.Proofs.YtenekbfnlbipiaaDoor
open Go.RowKit
set_option linter.unusedVariables false
set_option linter.unusedSimpArgs false
set_option maxHeartbeats 4000000
set_option maxRecDepth 100000

theorem Own.setT {w : World} {B c : Nat} {t t' : TypeId} {A : Option Addr} {l : List Nat} {cs : Array Value} (h : Own w t B A c l) {p : Addr} (hb : Blk w p.block t' cs) (hne : t ≠ t') (u : Value) : Own (w.setCell p u) t B A c l := by
  refine ⟨h.1, h.2.1, ?_⟩
  rcases h.2.2 with h | ⟨g', cur, e, hg, hk, r⟩
  · exact .inl h
  · refine .inr ⟨g', cur, e, hg, hk.far ?_ u, r⟩
    intro e'
    unfold Blk at hk hb
    rw [e', hb] at hk
    injection hk with hk; injection hk with _ hk
    exact hne hk.symm

theorem and_one (k : Nat) (hk : k < 9223372036854775808) : bits BinOp.and IntKind.i64 (k : Int) 1 = ((k % 2 : Nat) : Int) := by
  have h1 : ∀ a : Nat, a < 9223372036854775808 → (BitVec.ofInt 64 (a : Int)).toNat = a := fun a ha => by
    rw [BitVec.ofInt_natCast, BitVec.toNat_ofNat]; exact Nat.mod_eq_of_lt (by omega)
  show IntKind.i64.wrap ((BitVec.ofInt 64 (k : Int) &&& BitVec.ofInt 64 ((1 : Nat) : Int)).toNat : Int) = _
  rw [BitVec.toNat_and, h1 k hk, h1 1 (by decide), IntKind.wrap_i64, Nat.and_one_is_mod]
  omega
theorem par_odd {k : Nat} (hk : k ≤ 524288) (h : k % 2 = 1) : (bits BinOp.and IntKind.i64 (k : Int) 1 == 1) = true := by
  rw [and_one k (by omega), h]; rfl
theorem par_even {k : Nat} (hk : k ≤ 524288) (h : k % 2 = 0) : (bits BinOp.and IntKind.i64 (k : Int) 1 == 1) = false := by
  rw [and_one k (by omega), h]; rfl
theorem Blk.set0 {w : World} {g : Nat} {t : TypeId} {u0 : Value} (h : Blk w g t #[u0]) (u : Value) : Blk (w.setCell ⟨g, 0, none⟩ u) g t #[u] := by
  have := h.set_ 0 u
  simpa using this
theorem Blk.cell0 {w : World} {g : Nat} {t : TypeId} {u0 : Value} (h : Blk w g t #[u0]) : w.cell? ⟨g, 0, none⟩ = some u0 := by
  have := h.cell 0
  simpa using this
theorem limbs_len1 {n : Nat} (h : n < 4294967296) : (limbs n).length ≤ 1 := by rw [length_limbs_le]; exact h
/-- The relation of Pow's loop: out times square to the power of what is left. -/
def PowRel (N B g6 g7 : Nat) (w : World) (v1 : Value) (wr : World) : Prop :=
  ∃ (x y k : Nat) (A1 A2 : Option Addr) (c1 c2 : Nat), 1 ≤ k ∧ k ≤ 524288 ∧ v1 = .int .i64 (k : Int) ∧ 0 < x ∧ 0 < y ∧ x * y ^ k = N ∧ (limbs x).length ≤ 16384 ∧ (limbs y).length ≤ 16384 ∧
    Blk wr B 56 #[.slice none 0 0] ∧ Blk wr g6 56 #[.slice A1 (limbs x).length c1] ∧ Blk wr g7 56 #[.slice A2 (limbs y).length c2] ∧
    Own wr 90 B A1 c1 (limbs x) ∧ Own wr 90 B A2 c2 (limbs y) ∧ Below B w wr

end Go.Proofs.YtenekbfnlbipiaaDoor
