/- Walks: the document's product. -/
import Derived.Test.YtenekbfnlbipiaaDoorI
namespace Go.Proofs.YtenekbfnlbipiaaDoor
open Go.RowKit
set_option linter.unusedVariables false
set_option linter.unusedSimpArgs false
set_option maxHeartbeats 4000000
set_option maxRecDepth 100000

/-- What the document's lists of its own answer: the limbs of a number. -/
def LimbsOne (w : World) (v : Nat) (e : Ending) (w' : World) : Prop :=
  ∃ A c, e = .returned (.slice A (limbs v).length c) ∧ (limbs v).length ≤ c ∧ Own w' 90 w.heap.size A c (limbs v) ∧ Below w.heap.size w w'

theorem Row.drewN {w : World} {t : TypeId} {g : Nat} {l : List Nat} (h : Row w t g l) (n : Nat) : Row (w.drewN n) t g l := h
/-- In the midst of a row of a product. -/
def RowRel (w : World) (g : Nat) (x y : List Nat) (i n : Nat) (v0 : Nat) (v7 v8 : Value) (wr : World) : Prop :=
  ∃ (k c : Nat) (o : List Nat), k ≤ y.length ∧ v8 = .int .i64 (k : Int) ∧ v7 = .int .u64 (c : Int) ∧ c < 4294967296 ∧ o.length = n ∧ Sm o ∧ (∀ j, i + y.length ≤ j → nth o j = 0) ∧
    val o + 4294967296 ^ (i + k) * c = v0 + 4294967296 ^ i * (nth x i * val (y.take k)) ∧ Row wr 90 g o ∧ Below w.heap.size w wr

theorem ref_times (A B : Option Addr) (a b : List Nat) (n m c d : Nat) (hn : n = a.length) (hm : m = b.length) (ha16 : a.length + b.length ≤ 1000000) (w : World) (ha : Rd w A a) (hb : Rd w B b) :
    Calls Tryd.prog 53 #[.slice A n c, .slice B m d] w (LimbsOne w (val a * val b)) := by
  subst hn hm
  have hmk := fun W => mk32 (a.length + b.length) ((a.length : Int) + (b.length : Int)) (by omega) (by omega) W
  go_enter Tryd.func53, Tryd.ntmps53
  go_wp2
  go_loopw [6] (fun i wr => ∃ (k : Nat) (o : List Nat), k ≤ a.length ∧ i = .int .i64 (k : Int) ∧ o.length = a.length + b.length ∧ Sm o ∧ (∀ j, k + b.length ≤ j → nth o j = 0) ∧ val o = val (a.take k) * val b ∧ Row wr 90 w.heap.size o ∧ Below w.heap.size w wr) (fun i _ => a.length - (intOf i).toNat)
  case atStart =>
    exact ⟨0, List.replicate (a.length + b.length) 0, Nat.zero_le _, rfl, by simp, Sm.replicate _, fun j _ => nth_replicate _ _, by rw [val_replicate]; simp [val], row_new rfl rfl, (by repeat' (first | (with_reducible assumption) | (with_reducible exact Below.refl _ _) | (with_reducible refine bdn ?_ _) | (with_reducible refine Below.drew ?_) | (with_reducible refine Below.setCell ?_ ?_ _) | (with_reducible refine Below.alloc ?_ ?_ _) | go_size))⟩
  case round =>
    obtain ⟨wo, rfl⟩ : ∃ wo : World, wo = wr := ⟨_, rfl⟩
    obtain ⟨i, o, hi, rfl, hol, hos, hoz, hov, hrow, hbl⟩ := hrel
    have HOL := Lib.hid hol
    have HOZ := Lib.hid hoz
    have HOV := Lib.hid hov
    clear hol hoz hov
    by_cases hi1 : i < a.length
    · go_wp2
      go_loopw [7, 8] (fun v7 v8 wr => RowRel w w.heap.size a b i (a.length + b.length) (val o) v7 v8 wr) (fun _ v8 _ => b.length - (intOf v8).toNat)
      case atStart =>
        exact ⟨0, 0, o, Nat.zero_le _, rfl, rfl, by decide, HOL.out, hos, HOZ.out, by simp [val], hrow, hbl⟩
      case round =>
        obtain ⟨k, cy, o2, hk, rfl, rfl, hcy, hol2, hos2, hoz2, hov2, hrow2, hbl2⟩ := hrel
        have HOL2 := Lib.hid hol2
        have HOZ2 := Lib.hid hoz2
        have HOV2 := Lib.hid hov2
        clear hol2 hoz2 hov2
        by_cases hk1 : k < b.length
        · obtain ⟨ba, oa, rfl, hca⟩ := rd_at ha hbl2 (k := i) (by omega)
          obtain ⟨bb, ob, rfl, hcb⟩ := rd_at hb hbl2 (k := k) (by omega)
          have hco := hrow2.cell (i + k) (by rw [HOL2.out]; omega)
          have hfz := hrow2.frozen (i + k)
          have hx := ha.sm.nth i
          have hy := hb.sm.nth k
          have ho := hos2.nth (i + k)
          have hPb := prod_le hx hy
          obtain ⟨P, hP⟩ : ∃ P : Nat, P = nth a i * nth b k := ⟨_, rfl⟩
          rw [← hP] at hPb
          have hPe : ((nth a i : Nat) : Int) * ((nth b k : Nat) : Int) = (P : Int) := by rw [hP, Int.natCast_mul]
          have HP := Lib.hid hP
          have i1 : (0 : Int) ≤ (i : Int) + (k : Int) := by omega
          have i2 : (i : Int) + (k : Int) < ((a.length + b.length : Nat) : Int) := by omega
          clear hP
          go_wp2
          go_quiet (fail)
          go_wp2
          go_roundw
          case rel =>
            have st := row_step (P := nth a i * nth b k) (by rw [HOL2.out]; omega) HOV2.out
            rw [← HP.out] at st
            refine ⟨k + 1, (P + nth o2 (i + k) + cy) / 4294967296, o2.set (i + k) ((P + nth o2 (i + k) + cy) % 4294967296), by omega, by go_num, vi (by omega), by omega, by simp [HOL2.out], hos2.set _ _ (by omega), ?_, ?_, (Row.drewN hrow2 _).setE _ _ (by omega), (by repeat' (first | (with_reducible assumption) | (with_reducible exact Below.refl _ _) | (with_reducible refine bdn ?_ _) | (with_reducible refine Below.drew ?_) | (with_reducible refine Below.setCell ?_ ?_ _) | (with_reducible refine Below.alloc ?_ ?_ _) | go_size))⟩
            · intro j hj
              rw [nth_set_ne _ _ _ _ (by omega)]
              exact HOZ2.out j hj
            · rw [← Nat.add_assoc, st, val_take_succ', HP.out]
              congr 1
              rw [Nat.pow_add, Nat.mul_add, Nat.mul_add]
              congr 1
              simp only [Nat.mul_assoc, Nat.mul_left_comm]
          case measure => first | (simp [intOf]; done) | (simp [intOf]; omega)
        · have hkb : k = b.length := by omega
          have hco := hrow2.cell (i + b.length) (by rw [HOL2.out]; omega)
          have hfz := hrow2.frozen (i + b.length)
          have HKB := Lib.hid hkb
          clear hkb
          go_wp2
          go_roundw
          case rel =>
            have hv := HOV2.out
            rw [HKB.out, List.take_length] at hv
            have hz0 := HOZ2.out (i + b.length) (Nat.le_refl _)
            have hs := val_set o2 (i + b.length) cy (by rw [HOL2.out]; omega)
            refine ⟨i + 1, o2.set (i + b.length) cy, by omega, by go_num, by simp [HOL2.out], hos2.set _ _ hcy, ?_, ?_, hrow2.setE _ _ (by omega), (by repeat' (first | (with_reducible assumption) | (with_reducible exact Below.refl _ _) | (with_reducible refine bdn ?_ _) | (with_reducible refine Below.drew ?_) | (with_reducible refine Below.setCell ?_ ?_ _) | (with_reducible refine Below.alloc ?_ ?_ _) | go_size))⟩
            · intro j hj
              rw [nth_set_ne _ _ _ _ (by omega)]
              exact HOZ2.out j (by omega)
            · rw [hz0, Nat.mul_zero, Nat.add_zero] at hs
              rw [hs, hv, HOV.out, val_take_succ', Nat.add_mul, Nat.mul_assoc]
          case measure => first | (simp [intOf]; done) | (simp [intOf]; omega)
    · have hia : i = a.length := by omega
      have hfin : val o = val a * val b := by rw [HOV.out, hia, List.take_length]
      have HF := Lib.hid hfin
      clear hfin hia
      go_wp2_with fail
      refine (ref_Trim _ o _ (a.length + b.length) HOL.out.symm (Nat.le_refl _) _ (hrow.rd0 hos (by rw [HOL.out]; omega))).mono ?_
      rintro e w1 ⟨rfl, rfl⟩
      go_wp2
      go_ret
      have ho := (hrow.own hos (by rw [HOL.out]; omega) (Nat.le_refl _) o.length (Nat.le_refl _) (Nat.le_refl _)).trim
      have hle := limbs_length_le hos
      rw [HOL.out] at ho hle
      rw [List.take_of_length_le (by rw [HOL.out]; omega), HF.out] at ho
      rw [HF.out] at hle
      exact ⟨_, _, by rw [HF.out]; rfl, hle, ho, hbl⟩
end Go.Proofs.YtenekbfnlbipiaaDoor
