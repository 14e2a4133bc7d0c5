/- Walks: Sub. -/
import Derived.Test.YtkepjhgafpbecaaSub
import Derived.Test.YtkepjhgafpbecaaDvA
namespace Go.Proofs.Ytkepjhgafpbecaa
open Go.RowKit
set_option linter.unusedVariables false
set_option linter.unusedSimpArgs false
set_option maxHeartbeats 4000000
set_option maxRecDepth 100000

theorem nat_Sub (A B : Option Addr) (a b : List Nat) (n m c d : Nat) (hn : n = a.length) (hm : m = b.length) (w : World) (ha : Rd w A a) (hb : Rd w B b) :
    Calls Try.prog 52 #[.agg #[.slice A n c], .agg #[.slice B m d]] w (NatSub w (subS a b)) := by
  have ha2 := (((ha.alloc (Obj.cells #[Value.slice A n c] 35)).alloc (Obj.cells #[Value.slice B m d] 35)).alloc (Obj.cells #[Value.slice none 0 0] 35)).alloc (Obj.cells #[Value.slice A n c, Value.slice B m d] 35)
  have hb2 := (((hb.alloc (Obj.cells #[Value.slice A n c] 35)).alloc (Obj.cells #[Value.slice B m d] 35)).alloc (Obj.cells #[Value.slice none 0 0] 35)).alloc (Obj.cells #[Value.slice A n c, Value.slice B m d] 35)
  have HN := Lib.hid hn
  have HM := Lib.hid hm
  by_cases hz : chk2 a b = 0
  · have hl1 : n ≤ 16384 := by rw [hn]; exact (chk_zero (chk2_zero hz).1).1
    have hl2 : m ≤ 16384 := by rw [hm]; exact (chk_zero (chk2_zero hz).2).1
    have HZ := Lib.hid hz
    have hneg := cmp_neg hz ha.sm hb.sm
    by_cases hlt : val a < val b
    · have e : subS a b = ([], false, 0) := by unfold subS; rw [if_pos hz, if_pos hlt]
      have hcmp : decide (cmpL a b < 0) = true := by rw [decide_eq_true_iff]; exact hneg.2 hlt
      rw [e]
      clear hz e hn hm hneg hlt
      go_enter Try.func52, Try.ntmps52
      go_wp2_with fail
      refine (nat_checks _ A B a b _ _ c d HN.out HM.out _ ha2 hb2 (by simp [go_sem]) (by simp [go_sem])).mono ?_
      rintro e w1 ⟨rfl, hb1⟩
      rw [HZ.out]
      obtain ⟨hc1, hf1⟩ := bcell hb1
      have hbw1 : Below w.heap.size w w1 := Below.trans (b := _) (by repeat' (first | (with_reducible assumption) | (with_reducible exact Below.refl _ _) | (with_reducible refine bdn ?_ _) | (with_reducible refine Below.drew ?_) | (with_reducible refine Below.setCell ?_ ?_ _) | (with_reducible refine Below.alloc ?_ ?_ _) | go_size)) (hb1.mono (by go_size))
      have hz1_0 : w.heap.size < w1.heap.size := by have := hb1.size; simp at this; omega
      have hz1_1 : w.heap.size + 1 < w1.heap.size := by have := hb1.size; simp at this; omega
      have hz1_2 : w.heap.size + 2 < w1.heap.size := by have := hb1.size; simp at this; omega
      have hz1_3 : w.heap.size + 3 < w1.heap.size := by have := hb1.size; simp at this; omega
      go_wp2_with fail
      refine (nat_cmp A B a b _ _ c d HN.out HM.out _ (ha2.below hb1) (hb2.below hb1)).mono ?_
      rintro e w2 ⟨rfl, hb2'⟩
      have hbw2 := hbw1.trans (hb2'.mono hbw1.size)
      have c2 : w2.cell? ⟨w.heap.size + 2, 0, none⟩ = some (Value.slice none 0 0) := by rw [below_cell hb2' hz1_2, hc1 _ _ (by go_size)]; simp [go_sem]
      have f2 : w2.frozen? ⟨w.heap.size + 2, 0, none⟩ = false := by rw [below_frozen hb2' hz1_2, hf1 _ _ (by go_size)]; simp [go_sem]
      have z2 := cell_lt c2
      simp only at z2
      clear ha2 hb2 hb1 hc1 hf1
      go_wp2
      (try simp only [Exit.inBlock, Exit.then]); refine bodyPost_ret (by simp (maxDischargeDepth := 9) [results, Try.results52, go_sem, c2, z2]; try rfl) rfl ?_
      exact ⟨none, 0, rfl, Own.nil _ _ _, hbw2.setCell (p := ⟨w.heap.size + 2, 0, none⟩) (Nat.le_add_right _ _) _⟩
    · have e : subS a b = (limbs (val a - val b), true, 0) := by unfold subS; rw [if_pos hz, if_neg hlt]
      have hcmp : decide (cmpL a b < 0) = false := by rw [decide_eq_false_iff_not]; exact fun h => hlt (hneg.1 h)
      have hlen : m ≤ n := by rw [hn, hm]; exact len_le_of_val ha.sm (chk_zero (chk2_zero hz).2).2 hb.sm (by omega)
      have hle : val b ≤ val a := by omega
      have hmk := fun W => mk32 n (n : Int) rfl (by omega) W
      rw [e]
      clear hz e hn hm hneg hlt
      go_enter Try.func52, Try.ntmps52
      go_wp2_with fail
      refine (nat_checks _ A B a b _ _ c d HN.out HM.out _ ha2 hb2 (by simp [go_sem]) (by simp [go_sem])).mono ?_
      rintro e w1 ⟨rfl, hb1⟩
      rw [HZ.out]
      obtain ⟨hc1, hf1⟩ := bcell hb1
      have hbw1 : Below w.heap.size w w1 := Below.trans (b := _) (by repeat' (first | (with_reducible assumption) | (with_reducible exact Below.refl _ _) | (with_reducible refine bdn ?_ _) | (with_reducible refine Below.drew ?_) | (with_reducible refine Below.setCell ?_ ?_ _) | (with_reducible refine Below.alloc ?_ ?_ _) | go_size)) (hb1.mono (by go_size))
      have hz1_0 : w.heap.size < w1.heap.size := by have := hb1.size; simp at this; omega
      have hz1_1 : w.heap.size + 1 < w1.heap.size := by have := hb1.size; simp at this; omega
      have hz1_2 : w.heap.size + 2 < w1.heap.size := by have := hb1.size; simp at this; omega
      have hz1_3 : w.heap.size + 3 < w1.heap.size := by have := hb1.size; simp at this; omega
      go_wp2_with fail
      refine (nat_cmp A B a b _ _ c d HN.out HM.out _ (ha2.below hb1) (hb2.below hb1)).mono ?_
      rintro e w2 ⟨rfl, hb2'⟩
      have hbw2 := hbw1.trans (hb2'.mono hbw1.size)
      have c0 : w2.cell? ⟨w.heap.size, 0, none⟩ = some (Value.slice A n c) := by rw [below_cell hb2' hz1_0, hc1 _ _ (by go_size)]; simp [go_sem]
      have c1 : w2.cell? ⟨w.heap.size + 1, 0, none⟩ = some (Value.slice B m d) := by rw [below_cell hb2' hz1_1, hc1 _ _ (by go_size)]; simp [go_sem]
      have c2 : w2.cell? ⟨w.heap.size + 2, 0, none⟩ = some (Value.slice none 0 0) := by rw [below_cell hb2' hz1_2, hc1 _ _ (by go_size)]; simp [go_sem]
      have f2 : w2.frozen? ⟨w.heap.size + 2, 0, none⟩ = false := by rw [below_frozen hb2' hz1_2, hf1 _ _ (by go_size)]; simp [go_sem]
      have z0 := cell_lt c0
      have z1 := cell_lt c1
      have z2 := cell_lt c2
      simp only at z0 z1 z2
      have hx := (ha2.below hb1).below hb2'
      have hy := (hb2.below hb1).below hb2'
      clear ha2 hb2 hb1 hc1 hf1 hb2' hbw1 hz1_0 hz1_1 hz1_2 hz1_3
      go_wp2_with fail
      go_loopw [9, 35] (fun v9 v35 wr => ∃ (k cy : Nat) (o : List Nat), k ≤ n ∧ v35 = .int .i64 (k : Int) ∧ v9 = .int .u32 (cy : Int) ∧ cy ≤ 1 ∧ o.length = n ∧ Sm o ∧ (∀ j, k ≤ j → nth o j = 0) ∧ val o + val (b.take k) = val (a.take k) + 4294967296 ^ k * cy ∧ Row wr 28 w2.heap.size o ∧ Below w2.heap.size w2 wr) (fun _ v _ => n - (intOf v).toNat)
      case atStart => exact ⟨0, 0, List.replicate n 0, Nat.zero_le _, rfl, rfl, by decide, List.length_replicate, Sm.replicate _, fun j _ => nth_replicate _ _, by rw [val_replicate]; simp [val], row_new rfl rfl, (by repeat' (first | (with_reducible assumption) | (with_reducible exact Below.refl _ _) | (with_reducible refine bdn ?_ _) | (with_reducible refine Below.drew ?_) | (with_reducible refine Below.setCell ?_ ?_ _) | (with_reducible refine Below.alloc ?_ ?_ _) | go_size))⟩
      case round =>
        obtain ⟨k, cy, o, hk, rfl, rfl, hcy, hol, hos, hoz, hov, hrow, hbl⟩ := hrel
        have HOL := Lib.hid hol
        have HOZ := Lib.hid hoz
        have HOV := Lib.hid hov
        clear hol hoz hov
        have d1 := cell_keep hbl c1
        have d2 := cell_keep hbl c2
        have df2 := (below_frozen hbl (b := w.heap.size + 2) (o := 0) z2).trans f2
        have y1 := cell_lt d1
        have y2 := cell_lt d2
        simp only at y1 y2
        by_cases hk1 : k < n
        · obtain ⟨bx, ox, rfl, hcx⟩ := rd_at hx hbl (k := k) (by have := HN.out; omega)
          have hco := hrow.cell k (by rw [HOL.out]; omega)
          have hfk := hrow.frozen k
          have hsx := hx.sm.nth k
          have hsy := hy.sm.nth k
          have hoz := HOZ.out k (Nat.le_refl _)
          have core := sub_core (nth a k) (nth b k) cy hsx hsy hcy
          have st := sub_alg (M := 4294967296 ^ k) core HOV.out
          have hst := val_set o k ((nth a k + 4294967296 - nth b k - cy) % 4294967296) (by rw [HOL.out]; omega)
          rw [hoz, Nat.mul_zero, Nat.add_zero] at hst
          have HST : Hid (val (o.set k ((nth a k + 4294967296 - nth b k - cy) % 4294967296)) + val (b.take (k + 1)) = val (a.take (k + 1)) + 4294967296 ^ (k + 1) * (1 - (nth a k + 4294967296 - nth b k - cy) / 4294967296)) := by
            show _ = _
            rw [hst, val_take_succ', val_take_succ', Nat.pow_succ]; exact st
          have HZ2 : Hid (∀ j, k + 1 ≤ j → nth (o.set k ((nth a k + 4294967296 - nth b k - cy) % 4294967296)) j = 0) := by
            intro j hj
            rw [nth_set_ne _ _ _ _ (by omega)]; exact HOZ.out j (by omega)
          clear core st hst hoz
          by_cases hk2 : k < m
          · obtain ⟨by_, oy, rfl, hcy2⟩ := rd_at hy hbl (k := k) (by have := HM.out; omega)
            go_wp2_with fail
            refine (bits_Sub32 _ _ _ (nth a k) (nth b k) cy rfl rfl rfl hsx hsy hcy _).mono ?_
            rintro e w3 ⟨rfl, rfl⟩
            go_wp2
            go_roundw
            case rel => exact ⟨k + 1, 1 - (nth a k + 4294967296 - nth b k - cy) / 4294967296, o.set k ((nth a k + 4294967296 - nth b k - cy) % 4294967296), hk1, by go_num, rfl, Nat.sub_le _ _, by rw [List.length_set]; exact HOL.out, hos.set _ _ (mod_ltB _), HZ2.out, HST.out, hrow.setE _ _ (by omega), (by repeat' (first | (with_reducible assumption) | (with_reducible exact Below.refl _ _) | (with_reducible refine bdn ?_ _) | (with_reducible refine Below.drew ?_) | (with_reducible refine Below.setCell ?_ ?_ _) | (with_reducible refine Below.alloc ?_ ?_ _) | go_size))⟩
            case measure => first | (simp [intOf]; done) | (simp [intOf]; omega)
          · have hb0 : nth b k = 0 := nth_ge _ (by have := HM.out; omega)
            have HB0 := Lib.hid hb0
            clear hb0
            have hs2 := HST.out
            have hz2 := HZ2.out
            rw [HB0.out] at hs2 hz2
            have HS2 := Lib.hid hs2
            have HZ3 := Lib.hid hz2
            clear hs2 hz2
            go_wp2_with fail
            refine (bits_Sub32 _ _ _ (nth a k) 0 cy rfl rfl rfl hsx (by decide) hcy _).mono ?_
            rintro e w3 ⟨rfl, rfl⟩
            go_wp2
            go_roundw
            case rel => exact ⟨k + 1, 1 - (nth a k + 4294967296 - 0 - cy) / 4294967296, o.set k ((nth a k + 4294967296 - 0 - cy) % 4294967296), hk1, by go_num, vi (by omega), Nat.sub_le _ _, by rw [List.length_set]; exact HOL.out, hos.set _ _ (mod_ltB _), HZ3.out, HS2.out, hrow.setE _ _ (by omega), (by repeat' (first | (with_reducible assumption) | (with_reducible exact Below.refl _ _) | (with_reducible refine bdn ?_ _) | (with_reducible refine Below.drew ?_) | (with_reducible refine Below.setCell ?_ ?_ _) | (with_reducible refine Below.alloc ?_ ?_ _) | go_size))⟩
            case measure => first | (simp [intOf]; done) | (simp [intOf]; omega)
        · have hkn : k = n := by omega
          have hfin : val o = val a - val b := by
            have h1 := HOV.out
            rw [hkn, HN.out, List.take_length, List.take_of_length_le (by rw [← HN.out, ← HM.out]; exact hlen)] at h1
            exact sub_end (by rw [← HN.out, ← HOL.out]; exact val_lt hos) h1 hcy hle
          have HF := Lib.hid hfin
          clear hfin hkn
          go_wp2_with fail
          refine (trimmed_at w2.heap.size o _ _ w2.heap.size HOL.out.symm (Nat.le_refl _) _ hrow hos (by rw [HOL.out]; omega) (Nat.le_refl _) _ HF.out).mono ?_
          rintro e w3 ⟨A3, c3, rfl, ho3, _, hb3⟩
          have e2 := cell_keep hb3 d2
          have ef2 := (below_frozen hb3 (b := w.heap.size + 2) (o := 0) y2).trans df2
          have x2 := cell_lt e2
          simp only at x2
          have hbw3 := hbw2.trans ((hbl.trans (hb3.mono hbl.size)).mono hbw2.size)
          go_wp2
          (try simp only [Exit.inBlock, Exit.then]); refine bodyPost_ret (by simp (maxDischargeDepth := 9) [results, Try.results52, go_sem, e2, x2]; try rfl) rfl ?_
          exact ⟨A3, c3, rfl, (ho3.setCell (p := ⟨w.heap.size + 2, 0, none⟩) z2 _).mono hbw2.size, hbw3.setCell (p := ⟨w.heap.size + 2, 0, none⟩) (Nat.le_add_right _ _) _⟩
  · have e : subS a b = ([], false, chk2 a b) := by unfold subS; rw [if_neg hz]
    have hne : (chk2 a b != 0) = true := by rw [bne_iff_ne]; exact hz
    rw [e]
    clear hz e hn hm
    go_enter Try.func52, Try.ntmps52
    go_wp2_with fail
    refine (nat_checks _ A B a b _ _ c d HN.out HM.out _ ha2 hb2 (by simp [go_sem]) (by simp [go_sem])).mono ?_
    rintro e w1 ⟨rfl, hb1⟩
    obtain ⟨hc1, hf1⟩ := bcell hb1
    have hbw1 : Below w.heap.size w w1 := Below.trans (b := _) (by repeat' (first | (with_reducible assumption) | (with_reducible exact Below.refl _ _) | (with_reducible refine bdn ?_ _) | (with_reducible refine Below.drew ?_) | (with_reducible refine Below.setCell ?_ ?_ _) | (with_reducible refine Below.alloc ?_ ?_ _) | go_size)) (hb1.mono (by go_size))
    have hz1_0 : w.heap.size < w1.heap.size := by have := hb1.size; simp at this; omega
    have hz1_1 : w.heap.size + 1 < w1.heap.size := by have := hb1.size; simp at this; omega
    have hz1_2 : w.heap.size + 2 < w1.heap.size := by have := hb1.size; simp at this; omega
    have hz1_3 : w.heap.size + 3 < w1.heap.size := by have := hb1.size; simp at this; omega
    go_wp2
    (try simp only [Exit.inBlock, Exit.then]); refine bodyPost_ret (by simp (maxDischargeDepth := 9) [results, Try.results52, go_sem, hc1, hz1_2]; try rfl) rfl ?_
    exact ⟨none, 0, rfl, Own.nil _ _ _, (by repeat' (first | (with_reducible assumption) | (with_reducible exact Below.refl _ _) | (with_reducible refine bdn ?_ _) | (with_reducible refine Below.drew ?_) | (with_reducible refine Below.setCell ?_ ?_ _) | (with_reducible refine Below.alloc ?_ ?_ _) | go_size))⟩
end Go.Proofs.Ytkepjhgafpbecaa
