/- Walks: Add. -/
import Derived.Test.YtkepjhgafpbecaaK
import Derived.Test.YtkepjhgafpbecaaPlus
namespace Go.Proofs.Ytkepjhgafpbecaa
open Go.RowKit
set_option linter.unusedVariables false
set_option linter.unusedSimpArgs false
set_option maxHeartbeats 4000000
set_option maxRecDepth 100000

theorem ref_Add (A B : Option Addr) (a b : List Nat) (n m c d : Nat) (hn : n = a.length) (hm : m = b.length) (w : World) (ha : Rd w A a) (hb : Rd w B b) :
    Calls Try.prog 69 #[.agg #[.slice A n c], .agg #[.slice B m d]] w (NatAns 28 w (addS a b)) := by
  subst hn hm
  have hla := ha.len
  have hlb := hb.len
  have ha2 := ((ha.alloc (Obj.cells #[Value.slice A a.length c] 35)).alloc (Obj.cells #[Value.slice B b.length d] 35)).alloc (Obj.cells #[Value.slice none 0 0] 35)
  have hb2 := ((hb.alloc (Obj.cells #[Value.slice A a.length c] 35)).alloc (Obj.cells #[Value.slice B b.length d] 35)).alloc (Obj.cells #[Value.slice none 0 0] 35)
  by_cases hz : chk2 a b = 0
  · have hl1 := (chk_zero (chk2_zero hz).1).1
    have hl2 := (chk_zero (chk2_zero hz).2).1
    have hca := limbs_of ha.sm (chk_zero (chk2_zero hz).1).2
    have hcb := limbs_of hb.sm (chk_zero (chk2_zero hz).2).2
    have HZ := Lib.hid hz
    have HCA := Lib.hid hca
    have HCB := Lib.hid hcb
    have e : addS a b = fitS (val a + val b) := by unfold addS; rw [if_pos hz]
    rw [e]
    clear hz hca hcb e
    go_enter Try.func69, Try.ntmps69
    go_wp2_with fail
    refine (ref_two A B a b _ _ c d rfl rfl _ ha2 hb2).mono ?_
    rintro e w1 ⟨rfl, hb1⟩
    rw [HZ.out]
    obtain ⟨hc1, hf1⟩ := bcell hb1
    have hbw1 : Below w.heap.size w w1 := Below.trans (b := _) (by repeat' (first | (with_reducible assumption) | (with_reducible exact Below.refl _ _) | (with_reducible refine bdn ?_ _) | (with_reducible refine Below.drew ?_) | (with_reducible refine Below.setCell ?_ ?_ _) | (with_reducible refine Below.alloc ?_ ?_ _) | go_size)) (hb1.mono (by go_size))
    have hz1_0 : w.heap.size < w1.heap.size := by have := hb1.size; simp at this; omega
    have hz1_1 : w.heap.size + 1 < w1.heap.size := by have := hb1.size; simp at this; omega
    have hz1_2 : w.heap.size + 2 < w1.heap.size := by have := hb1.size; simp at this; omega
    go_wp2_with fail
    refine (ref_plus A B a b (val a) (val b) HCA.out.symm HCB.out.symm _ _ c d rfl rfl (by omega) _ (ha2.below hb1) (hb2.below hb1)).mono ?_
    rintro e w2 ⟨A2, c2, rfl, hle2, ho2, hb2'⟩
    have hz2 : w.heap.size + 2 < w2.heap.size := by have := hb2'.size; omega
    have hc2 : w2.cell? ⟨w.heap.size + 2, 0, none⟩ = some (Value.slice none 0 0) := by
      rw [below_cell hb2' (by omega), hc1 _ _ (by simp)]
      simp [go_sem]
    have hf2 : w2.frozen? ⟨w.heap.size + 2, 0, none⟩ = false := by
      rw [below_frozen hb2' (by omega), hf1 _ _ (by simp)]
      simp [go_sem]
    go_wp2_with fail
    refine (ref_fits A2 c2 _ w1.heap.size _ rfl hle2 _ ho2 hb2'.size).mono ?_
    rw [val_limbs]
    rintro e w3 ⟨A3, c3, rfl, ho3, hb3⟩
    have hz3 : w.heap.size + 2 < w3.heap.size := by have := hb3.size; omega
    have hc3 : w3.cell? ⟨w.heap.size + 2, 0, none⟩ = some (Value.slice none 0 0) := by rw [below_cell hb3 hz2]; exact hc2
    have hf3 : w3.frozen? ⟨w.heap.size + 2, 0, none⟩ = false := by rw [below_frozen hb3 hz2]; exact hf2
    have hbw3 : Below w.heap.size w w3 := (hbw1.trans (hb2'.mono (by omega))).trans (hb3.mono (by omega))
    clear hc1 hf1 hc2 hf2
    go_wp2
    (try simp only [Exit.inBlock, Exit.then]); refine bodyPost_ret (by simp (maxDischargeDepth := 9) [results, Try.results69, go_sem, hc3]; try rfl) rfl ?_
    exact ⟨_, _, rfl, (ho3.setCell (by simp; omega) _).mono (by omega), (by repeat' (first | (with_reducible assumption) | (with_reducible exact Below.refl _ _) | (with_reducible refine bdn ?_ _) | (with_reducible refine Below.drew ?_) | (with_reducible refine Below.setCell ?_ ?_ _) | (with_reducible refine Below.alloc ?_ ?_ _) | go_size))⟩
  · have e : addS a b = ([], chk2 a b) := by unfold addS; rw [if_neg hz]
    have hne : (chk2 a b != 0) = true := by rw [bne_iff_ne]; exact hz
    rw [e]
    clear hz
    go_enter Try.func69, Try.ntmps69
    go_wp2_with fail
    refine (ref_two A B a b _ _ c d rfl rfl _ ha2 hb2).mono ?_
    rintro e w1 ⟨rfl, hb1⟩
    obtain ⟨hc1, hf1⟩ := bcell hb1
    have hbw1 : Below w.heap.size w w1 := Below.trans (b := _) (by repeat' (first | (with_reducible assumption) | (with_reducible exact Below.refl _ _) | (with_reducible refine bdn ?_ _) | (with_reducible refine Below.drew ?_) | (with_reducible refine Below.setCell ?_ ?_ _) | (with_reducible refine Below.alloc ?_ ?_ _) | go_size)) (hb1.mono (by go_size))
    have hz1_0 : w.heap.size < w1.heap.size := by have := hb1.size; simp at this; omega
    have hz1_1 : w.heap.size + 1 < w1.heap.size := by have := hb1.size; simp at this; omega
    have hz1_2 : w.heap.size + 2 < w1.heap.size := by have := hb1.size; simp at this; omega
    go_wp2
    (try simp only [Exit.inBlock, Exit.then]); refine bodyPost_ret (by simp (maxDischargeDepth := 9) [results, Try.results69, go_sem, hc1, hz1_0, hz1_1, hz1_2]; try rfl) rfl ?_
    exact ⟨none, 0, rfl, Own.nil _ _ _, (by repeat' (first | (with_reducible assumption) | (with_reducible exact Below.refl _ _) | (with_reducible refine bdn ?_ _) | (with_reducible refine Below.drew ?_) | (with_reducible refine Below.setCell ?_ ?_ _) | (with_reducible refine Below.alloc ?_ ?_ _) | go_size))⟩

def AddRel (w : World) (g : Nat) (x y : List Nat) (v10 v39 : Value) (wr : World) : Prop :=
  ∃ (k cy : Nat) (o : List Nat), k ≤ x.length ∧ v39 = .int .i64 (k : Int) ∧ v10 = .int .u32 (cy : Int) ∧ cy ≤ 1 ∧ o.length = x.length + 1 ∧ Sm o ∧ (∀ j, k ≤ j → nth o j = 0) ∧
    val o + 4294967296 ^ k * cy = val (x.take k) + val (y.take k) ∧ Row wr 28 g o ∧ Below w.heap.size w wr
theorem add_step {a b o : List Nat} {k cy : Nat} (hk : k < o.length) (hz : nth o k = 0) (hv : val o + 4294967296 ^ k * cy = val (a.take k) + val (b.take k)) :
    val (o.set k ((nth a k + nth b k + cy) % 4294967296)) + 4294967296 ^ (k + 1) * ((nth a k + nth b k + cy) / 4294967296) = val (a.take (k + 1)) + val (b.take (k + 1)) := by
  rw [val_take_succ', val_take_succ']
  obtain ⟨s, hs⟩ : ∃ s, s = nth a k + nth b k + cy := ⟨_, rfl⟩
  rw [← hs]
  have h1 := val_set o k (s % 4294967296) hk
  rw [hz, Nat.mul_zero, Nat.add_zero] at h1
  rw [h1, Nat.pow_succ]
  have h2 : 4294967296 ^ k * (s % 4294967296) + 4294967296 ^ k * 4294967296 * (s / 4294967296) = 4294967296 ^ k * s := by
    rw [Nat.mul_assoc, ← Nat.mul_add, Nat.mod_add_div]
  have h3 : 4294967296 ^ k * s = 4294967296 ^ k * nth a k + 4294967296 ^ k * nth b k + 4294967296 ^ k * cy := by rw [hs, Nat.mul_add, Nat.mul_add]
  omega

theorem nat_Add (A B : Option Addr) (a b : List Nat) (n m c d : Nat) (hn : n = a.length) (hm : m = b.length) (w : World) (ha : Rd w A a) (hb : Rd w B b) :
    Calls Try.prog 50 #[.agg #[.slice A n c], .agg #[.slice B m d]] w (NatAns 28 w (addS a b)) := by
  subst hn hm
  have hla := ha.len
  have hlb := hb.len
  have ha2 := (((ha.alloc (Obj.cells #[Value.slice A a.length c] 35)).alloc (Obj.cells #[Value.slice B b.length d] 35)).alloc (Obj.cells #[Value.slice none 0 0] 35)).alloc (Obj.cells #[Value.slice A a.length c, Value.slice B b.length d] 35)
  have hb2 := (((hb.alloc (Obj.cells #[Value.slice A a.length c] 35)).alloc (Obj.cells #[Value.slice B b.length d] 35)).alloc (Obj.cells #[Value.slice none 0 0] 35)).alloc (Obj.cells #[Value.slice A a.length c, Value.slice B b.length d] 35)
  by_cases hz : chk2 a b = 0
  · have hl1 := (chk_zero (chk2_zero hz).1).1
    have hl2 := (chk_zero (chk2_zero hz).2).1
    have HZ := Lib.hid hz
    have e : addS a b = fitS (val a + val b) := by unfold addS; rw [if_pos hz]
    rw [e]
    clear hz e
    by_cases hab : a.length < b.length
    · skip
      have hmk := fun W => mk32 (b.length + 1) ((b.length : Int) + 1) (by omega) (by omega) W
      go_enter Try.func50, Try.ntmps50
      go_wp2_with fail
      refine (nat_checks _ A B a b _ _ c d rfl rfl _ ha2 hb2 (by simp [go_sem]) (by simp [go_sem])).mono ?_
      rintro e w1 ⟨rfl, hb1⟩
      rw [HZ.out]
      obtain ⟨hc1, hf1⟩ := bcell hb1
      have hbw1 : Below w.heap.size w w1 := Below.trans (b := _) (by repeat' (first | (with_reducible assumption) | (with_reducible exact Below.refl _ _) | (with_reducible refine bdn ?_ _) | (with_reducible refine Below.drew ?_) | (with_reducible refine Below.setCell ?_ ?_ _) | (with_reducible refine Below.alloc ?_ ?_ _) | go_size)) (hb1.mono (by go_size))
      have hz1_0 : w.heap.size < w1.heap.size := by have := hb1.size; simp at this; omega
      have hz1_1 : w.heap.size + 1 < w1.heap.size := by have := hb1.size; simp at this; omega
      have hz1_2 : w.heap.size + 2 < w1.heap.size := by have := hb1.size; simp at this; omega
      have hz1_3 : w.heap.size + 3 < w1.heap.size := by have := hb1.size; simp at this; omega
      go_wp2
      go_quiet (fail)
      go_wp2
      clear ha2 hb2
      have hb1' := hb1.size
      simp at hb1'
      have hx1 := hb.below hbw1
      have hy1 := ha.below hbw1
      have hcr : w1.cell? ⟨w.heap.size + 2, 0, none⟩ = some (Value.slice none 0 0) := by
        rw [hc1 _ _ (by simp)]; simp [go_sem]
      have hfr : w1.frozen? ⟨w.heap.size + 2, 0, none⟩ = false := by
        rw [hf1 _ _ (by simp)]; simp [go_sem]
      clear hc1 hf1 hb1
      go_loopw [10, 39] (fun v10 v39 wr => AddRel w1 w1.heap.size b a v10 v39 wr) (fun _ v _ => b.length - (intOf v).toNat)
      case atStart =>
        exact ⟨0, 0, List.replicate (b.length + 1) 0, Nat.zero_le _, rfl, rfl, by decide, by simp, Sm.replicate _, fun j _ => nth_replicate _ _, by rw [val_replicate]; simp [val], row_new rfl (by simp), (by repeat' (first | (with_reducible assumption) | (with_reducible exact Below.refl _ _) | (with_reducible refine bdn ?_ _) | (with_reducible refine Below.drew ?_) | (with_reducible refine Below.setCell ?_ ?_ _) | (with_reducible refine Below.alloc ?_ ?_ _) | go_size))⟩
      case round =>
        obtain ⟨k, cy, o, hk, rfl, rfl, hcy, hol, hos, hoz, hov, hrow, hbl⟩ := hrel
        have HOL := Lib.hid hol
        have HOZ := Lib.hid hoz
        have HOV := Lib.hid hov
        clear hol hoz hov
        have hfz := fun j => hrow.frozen j
        by_cases hk1 : k < b.length
        · obtain ⟨bx, ox, rfl, hcx⟩ := rd_at hx1 hbl (k := k) hk1
          have hco := hrow.cell k (by rw [HOL.out]; omega)
          have hfk := hrow.frozen k
          have hsx := hb.sm.nth k
          have hsy := ha.sm.nth k
          have i2 : (k : Int) < ((b.length + 1 : Nat) : Int) := by omega
          clear hfz
          by_cases hk2 : k < a.length
          · obtain ⟨by_, oy, rfl, hcy2⟩ := rd_at hy1 hbl (k := k) hk2
            go_wp2_with fail
            refine (bits_Add32 _ _ _ (nth b k) (nth a k) cy rfl rfl rfl hsx hsy hcy _).mono ?_
            rintro e w2 ⟨rfl, rfl⟩
            go_wp2
            go_roundw
            case rel =>
              exact ⟨k + 1, (nth b k + nth a k + cy) / 4294967296, o.set k ((nth b k + nth a k + cy) % 4294967296), by omega, by go_num, vi (by omega), by omega, by simp [HOL.out], hos.set _ _ (by omega), (fun j hj => by rw [nth_set_ne _ _ _ _ (by omega)]; exact HOZ.out j (by omega)), add_step (by rw [HOL.out]; omega) (HOZ.out k (Nat.le_refl _)) HOV.out, hrow.setE _ _ (by omega), (by repeat' (first | (with_reducible assumption) | (with_reducible exact Below.refl _ _) | (with_reducible refine bdn ?_ _) | (with_reducible refine Below.drew ?_) | (with_reducible refine Below.setCell ?_ ?_ _) | (with_reducible refine Below.alloc ?_ ?_ _) | go_size))⟩
            case measure => first | (simp [intOf]; done) | (simp [intOf]; omega)
          · have hz0 : nth a k = 0 := nth_ge _ (by omega)
            have HZ0 := Lib.hid hz0
            clear hz0
            go_wp2_with fail
            refine (bits_Add32 _ _ _ (nth b k) 0 cy rfl rfl rfl hsx (by decide) hcy _).mono ?_
            rintro e w2 ⟨rfl, rfl⟩
            go_wp2
            go_roundw
            case rel =>
              have st := add_step (a := b) (b := a) (by rw [HOL.out]; omega) (HOZ.out k (Nat.le_refl _)) HOV.out
              rw [HZ0.out] at st
              exact ⟨k + 1, (nth b k + 0 + cy) / 4294967296, o.set k ((nth b k + 0 + cy) % 4294967296), by omega, by go_num, vi (by omega), by omega, by simp [HOL.out], hos.set _ _ (by omega), (fun j hj => by rw [nth_set_ne _ _ _ _ (by omega)]; exact HOZ.out j (by omega)), st, hrow.setE _ _ (by omega), (by repeat' (first | (with_reducible assumption) | (with_reducible exact Below.refl _ _) | (with_reducible refine bdn ?_ _) | (with_reducible refine Below.drew ?_) | (with_reducible refine Below.setCell ?_ ?_ _) | (with_reducible refine Below.alloc ?_ ?_ _) | go_size))⟩
            case measure => first | (simp [intOf]; done) | (simp [intOf]; omega)
        · have hka : k = b.length := by omega
          have hfin : val (o.set b.length cy) = val a + val b := by
            have h1 := val_set o b.length cy (by rw [HOL.out]; omega)
            have h2 := HOZ.out b.length (by omega)
            have h3 := HOV.out
            rw [hka, List.take_length, List.take_of_length_le (by omega)] at h3
            rw [h2, Nat.mul_zero, Nat.add_zero] at h1
            omega
          have HF := Lib.hid hfin
          have hco := hrow.cell b.length (by rw [HOL.out]; omega)
          have hfk := hrow.frozen b.length
          have i2 : (b.length : Int) < ((b.length + 1 : Nat) : Int) := by omega
          have hrow2 := hrow.setE b.length cy (E := (cy : Int)) rfl
          have hos2 := hos.set b.length cy (by omega)
          have HOL2 : Hid ((o.set b.length cy).length = b.length + 1) := by show (o.set _ _).length = _; simp [HOL.out]
          clear hfin hka hfz
          go_wp2_with fail
          refine (nat_fits w1.heap.size (o.set b.length cy) _ (b.length + 1) w1.heap.size HOL2.out.symm (Nat.le_refl _) _ hrow2 hos2 (by rw [HOL2.out]; omega) (Nat.le_refl _) (by simp; exact hbl.size)).mono ?_
          rw [HF.out]
          rintro e w3 ⟨A3, c3, rfl, ho3, hb3⟩
          have hs3 := hb3.size
          simp at hs3
          have hsz := hbl.size
          have hz3 : w.heap.size + 2 < w3.heap.size := by omega
          have hc3 : w3.cell? ⟨w.heap.size + 2, 0, none⟩ = some (Value.slice none 0 0) := by
            rw [below_cell hb3 (by simp; omega), World.cell?_setCell_other _ _ _ _ (by simp <;> omega), below_cell hbl (by omega)]; exact hcr
          have hf3 : w3.frozen? ⟨w.heap.size + 2, 0, none⟩ = false := by
            rw [below_frozen hb3 (by simp; omega)]; simp; rw [below_frozen hbl (by omega)]; exact hfr
          have hbw3 : Below w.heap.size w w3 := ((hbw1.trans (hbl.mono (by omega))).setCell (p := ⟨w1.heap.size, b.length, none⟩) hbw1.size _).trans (hb3.mono (by simp; omega))
          clear hcr hfr
          go_wp2
          (try simp only [Exit.inBlock, Exit.then]); refine bodyPost_ret (by simp (maxDischargeDepth := 9) [results, Try.results50, go_sem, hc3]; try rfl) rfl ?_
          exact ⟨_, _, rfl, Own.mono (Own.setCell (p := ⟨w.heap.size + 2, 0, none⟩) ho3 hz1_2 _) hbw1.size, (by repeat' (first | (with_reducible assumption) | (with_reducible exact Below.refl _ _) | (with_reducible refine bdn ?_ _) | (with_reducible refine Below.drew ?_) | (with_reducible refine Below.setCell ?_ ?_ _) | (with_reducible refine Below.alloc ?_ ?_ _) | go_size))⟩
    · skip
      have hmk := fun W => mk32 (a.length + 1) ((a.length : Int) + 1) (by omega) (by omega) W
      go_enter Try.func50, Try.ntmps50
      go_wp2_with fail
      refine (nat_checks _ A B a b _ _ c d rfl rfl _ ha2 hb2 (by simp [go_sem]) (by simp [go_sem])).mono ?_
      rintro e w1 ⟨rfl, hb1⟩
      rw [HZ.out]
      obtain ⟨hc1, hf1⟩ := bcell hb1
      have hbw1 : Below w.heap.size w w1 := Below.trans (b := _) (by repeat' (first | (with_reducible assumption) | (with_reducible exact Below.refl _ _) | (with_reducible refine bdn ?_ _) | (with_reducible refine Below.drew ?_) | (with_reducible refine Below.setCell ?_ ?_ _) | (with_reducible refine Below.alloc ?_ ?_ _) | go_size)) (hb1.mono (by go_size))
      have hz1_0 : w.heap.size < w1.heap.size := by have := hb1.size; simp at this; omega
      have hz1_1 : w.heap.size + 1 < w1.heap.size := by have := hb1.size; simp at this; omega
      have hz1_2 : w.heap.size + 2 < w1.heap.size := by have := hb1.size; simp at this; omega
      have hz1_3 : w.heap.size + 3 < w1.heap.size := by have := hb1.size; simp at this; omega
      go_wp2
      go_quiet (fail)
      go_wp2
      clear ha2 hb2
      have hb1' := hb1.size
      simp at hb1'
      have hx1 := ha.below hbw1
      have hy1 := hb.below hbw1
      have hcr : w1.cell? ⟨w.heap.size + 2, 0, none⟩ = some (Value.slice none 0 0) := by
        rw [hc1 _ _ (by simp)]; simp [go_sem]
      have hfr : w1.frozen? ⟨w.heap.size + 2, 0, none⟩ = false := by
        rw [hf1 _ _ (by simp)]; simp [go_sem]
      clear hc1 hf1 hb1
      go_loopw [10, 39] (fun v10 v39 wr => AddRel w1 w1.heap.size a b v10 v39 wr) (fun _ v _ => a.length - (intOf v).toNat)
      case atStart =>
        exact ⟨0, 0, List.replicate (a.length + 1) 0, Nat.zero_le _, rfl, rfl, by decide, by simp, Sm.replicate _, fun j _ => nth_replicate _ _, by rw [val_replicate]; simp [val], row_new rfl (by simp), (by repeat' (first | (with_reducible assumption) | (with_reducible exact Below.refl _ _) | (with_reducible refine bdn ?_ _) | (with_reducible refine Below.drew ?_) | (with_reducible refine Below.setCell ?_ ?_ _) | (with_reducible refine Below.alloc ?_ ?_ _) | go_size))⟩
      case round =>
        obtain ⟨k, cy, o, hk, rfl, rfl, hcy, hol, hos, hoz, hov, hrow, hbl⟩ := hrel
        have HOL := Lib.hid hol
        have HOZ := Lib.hid hoz
        have HOV := Lib.hid hov
        clear hol hoz hov
        have hfz := fun j => hrow.frozen j
        by_cases hk1 : k < a.length
        · obtain ⟨bx, ox, rfl, hcx⟩ := rd_at hx1 hbl (k := k) hk1
          have hco := hrow.cell k (by rw [HOL.out]; omega)
          have hfk := hrow.frozen k
          have hsx := ha.sm.nth k
          have hsy := hb.sm.nth k
          have i2 : (k : Int) < ((a.length + 1 : Nat) : Int) := by omega
          clear hfz
          by_cases hk2 : k < b.length
          · obtain ⟨by_, oy, rfl, hcy2⟩ := rd_at hy1 hbl (k := k) hk2
            go_wp2_with fail
            refine (bits_Add32 _ _ _ (nth a k) (nth b k) cy rfl rfl rfl hsx hsy hcy _).mono ?_
            rintro e w2 ⟨rfl, rfl⟩
            go_wp2
            go_roundw
            case rel =>
              exact ⟨k + 1, (nth a k + nth b k + cy) / 4294967296, o.set k ((nth a k + nth b k + cy) % 4294967296), by omega, by go_num, vi (by omega), by omega, by simp [HOL.out], hos.set _ _ (by omega), (fun j hj => by rw [nth_set_ne _ _ _ _ (by omega)]; exact HOZ.out j (by omega)), add_step (by rw [HOL.out]; omega) (HOZ.out k (Nat.le_refl _)) HOV.out, hrow.setE _ _ (by omega), (by repeat' (first | (with_reducible assumption) | (with_reducible exact Below.refl _ _) | (with_reducible refine bdn ?_ _) | (with_reducible refine Below.drew ?_) | (with_reducible refine Below.setCell ?_ ?_ _) | (with_reducible refine Below.alloc ?_ ?_ _) | go_size))⟩
            case measure => first | (simp [intOf]; done) | (simp [intOf]; omega)
          · have hz0 : nth b k = 0 := nth_ge _ (by omega)
            have HZ0 := Lib.hid hz0
            clear hz0
            go_wp2_with fail
            refine (bits_Add32 _ _ _ (nth a k) 0 cy rfl rfl rfl hsx (by decide) hcy _).mono ?_
            rintro e w2 ⟨rfl, rfl⟩
            go_wp2
            go_roundw
            case rel =>
              have st := add_step (a := a) (b := b) (by rw [HOL.out]; omega) (HOZ.out k (Nat.le_refl _)) HOV.out
              rw [HZ0.out] at st
              exact ⟨k + 1, (nth a k + 0 + cy) / 4294967296, o.set k ((nth a k + 0 + cy) % 4294967296), by omega, by go_num, vi (by omega), by omega, by simp [HOL.out], hos.set _ _ (by omega), (fun j hj => by rw [nth_set_ne _ _ _ _ (by omega)]; exact HOZ.out j (by omega)), st, hrow.setE _ _ (by omega), (by repeat' (first | (with_reducible assumption) | (with_reducible exact Below.refl _ _) | (with_reducible refine bdn ?_ _) | (with_reducible refine Below.drew ?_) | (with_reducible refine Below.setCell ?_ ?_ _) | (with_reducible refine Below.alloc ?_ ?_ _) | go_size))⟩
            case measure => first | (simp [intOf]; done) | (simp [intOf]; omega)
        · have hka : k = a.length := by omega
          have hfin : val (o.set a.length cy) = val a + val b := by
            have h1 := val_set o a.length cy (by rw [HOL.out]; omega)
            have h2 := HOZ.out a.length (by omega)
            have h3 := HOV.out
            rw [hka, List.take_length, List.take_of_length_le (by omega)] at h3
            rw [h2, Nat.mul_zero, Nat.add_zero] at h1
            omega
          have HF := Lib.hid hfin
          have hco := hrow.cell a.length (by rw [HOL.out]; omega)
          have hfk := hrow.frozen a.length
          have i2 : (a.length : Int) < ((a.length + 1 : Nat) : Int) := by omega
          have hrow2 := hrow.setE a.length cy (E := (cy : Int)) rfl
          have hos2 := hos.set a.length cy (by omega)
          have HOL2 : Hid ((o.set a.length cy).length = a.length + 1) := by show (o.set _ _).length = _; simp [HOL.out]
          clear hfin hka hfz
          go_wp2_with fail
          refine (nat_fits w1.heap.size (o.set a.length cy) _ (a.length + 1) w1.heap.size HOL2.out.symm (Nat.le_refl _) _ hrow2 hos2 (by rw [HOL2.out]; omega) (Nat.le_refl _) (by simp; exact hbl.size)).mono ?_
          rw [HF.out]
          rintro e w3 ⟨A3, c3, rfl, ho3, hb3⟩
          have hs3 := hb3.size
          simp at hs3
          have hsz := hbl.size
          have hz3 : w.heap.size + 2 < w3.heap.size := by omega
          have hc3 : w3.cell? ⟨w.heap.size + 2, 0, none⟩ = some (Value.slice none 0 0) := by
            rw [below_cell hb3 (by simp; omega), World.cell?_setCell_other _ _ _ _ (by simp <;> omega), below_cell hbl (by omega)]; exact hcr
          have hf3 : w3.frozen? ⟨w.heap.size + 2, 0, none⟩ = false := by
            rw [below_frozen hb3 (by simp; omega)]; simp; rw [below_frozen hbl (by omega)]; exact hfr
          have hbw3 : Below w.heap.size w w3 := ((hbw1.trans (hbl.mono (by omega))).setCell (p := ⟨w1.heap.size, a.length, none⟩) hbw1.size _).trans (hb3.mono (by simp; omega))
          clear hcr hfr
          go_wp2
          (try simp only [Exit.inBlock, Exit.then]); refine bodyPost_ret (by simp (maxDischargeDepth := 9) [results, Try.results50, go_sem, hc3]; try rfl) rfl ?_
          exact ⟨_, _, rfl, Own.mono (Own.setCell (p := ⟨w.heap.size + 2, 0, none⟩) ho3 hz1_2 _) hbw1.size, (by repeat' (first | (with_reducible assumption) | (with_reducible exact Below.refl _ _) | (with_reducible refine bdn ?_ _) | (with_reducible refine Below.drew ?_) | (with_reducible refine Below.setCell ?_ ?_ _) | (with_reducible refine Below.alloc ?_ ?_ _) | go_size))⟩
  · have e : addS a b = ([], chk2 a b) := by unfold addS; rw [if_neg hz]
    have hne : (chk2 a b != 0) = true := by rw [bne_iff_ne]; exact hz
    rw [e]
    clear hz
    go_enter Try.func50, Try.ntmps50
    go_wp2_with fail
    refine (nat_checks _ A B a b _ _ c d rfl rfl _ ha2 hb2 (by simp [go_sem]) (by simp [go_sem])).mono ?_
    rintro e w1 ⟨rfl, hb1⟩
    obtain ⟨hc1, hf1⟩ := bcell hb1
    have hbw1 : Below w.heap.size w w1 := Below.trans (b := _) (by repeat' (first | (with_reducible assumption) | (with_reducible exact Below.refl _ _) | (with_reducible refine bdn ?_ _) | (with_reducible refine Below.drew ?_) | (with_reducible refine Below.setCell ?_ ?_ _) | (with_reducible refine Below.alloc ?_ ?_ _) | go_size)) (hb1.mono (by go_size))
    have hz1_0 : w.heap.size < w1.heap.size := by have := hb1.size; simp at this; omega
    have hz1_1 : w.heap.size + 1 < w1.heap.size := by have := hb1.size; simp at this; omega
    have hz1_2 : w.heap.size + 2 < w1.heap.size := by have := hb1.size; simp at this; omega
    have hz1_3 : w.heap.size + 3 < w1.heap.size := by have := hb1.size; simp at this; omega
    go_wp2
    (try simp only [Exit.inBlock, Exit.then]); refine bodyPost_ret (by simp (maxDischargeDepth := 9) [results, Try.results50, go_sem, hc1, hz1_0, hz1_1, hz1_2, hz1_3]; try rfl) rfl ?_
    exact ⟨none, 0, rfl, Own.nil _ _ _, (by repeat' (first | (with_reducible assumption) | (with_reducible exact Below.refl _ _) | (with_reducible refine bdn ?_ _) | (with_reducible refine Below.drew ?_) | (with_reducible refine Below.setCell ?_ ?_ _) | (with_reducible refine Below.alloc ?_ ?_ _) | go_size))⟩
end Go.Proofs.Ytkepjhgafpbecaa
