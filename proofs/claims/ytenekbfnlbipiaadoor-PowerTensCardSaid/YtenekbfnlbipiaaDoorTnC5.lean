/- Walk: the document's Div, of a divisor that has no more bits. -/
import Derived.Test.YtenekbfnlbipiaaDoorTnC4
import Derived.Test.YtenekbfnlbipiaaDoorK
import Derived.Test.YtenekbfnlbipiaaDoorDvA
namespace Go.Proofs.YtenekbfnlbipiaaDoor
open Go.RowKit
set_option linter.unusedVariables false
set_option linter.unusedSimpArgs false
set_option maxHeartbeats 4000000
set_option maxRecDepth 100000

theorem ref_Div_ok (A B : Option Addr) (a b : List Nat) (n m c d : Nat) (hn : n = a.length) (hm : m = b.length) (hz : chk2 a b = 0) (hb0 : val b ≠ 0) (N : Nat) (hN : bitLen (val a) = bitLen (val b) + N) (w : World) (ha : Rd w A a) (hb : Rd w B b) :
    Calls Tryd.prog 50 #[.agg #[.slice A n c], .agg #[.slice B m d]] w (DivAns w (limbs (val a / val b), limbs (val a % val b), 0)) := by
  subst hn hm
  have hl1 := (chk_zero (chk2_zero hz).1)
  have hl2 := (chk_zero (chk2_zero hz).2)
  have hbl0 : ((b.length : Int) == 0) = false := by
    rw [beq_eq_false_iff_ne]
    intro h
    have : b = [] := List.eq_nil_of_length_eq_zero (by omega)
    rw [this] at hb0; exact hb0 rfl
  have hqu := fun W h1 h2 => ref_quotient A B a b a.length b.length c d rfl rfl (by omega) (by omega) hl1.2 hl2.2 hb0 N hN W h1 h2
  have HZ := Lib.hid hz
  obtain ⟨q, hq⟩ : ∃ q, q = val a / val b := ⟨_, rfl⟩
  obtain ⟨r, hr⟩ : ∃ r, r = val a % val b := ⟨_, rfl⟩
  have hql : (limbs q).length ≤ 16384 := by
    rw [hq]; exact Nat.le_trans (limbs_div_length ha.sm (Nat.le_refl _) _) hl1.1
  have hrl : (limbs r).length ≤ 16384 := by
    rw [hr]
    exact Nat.le_trans (limbs_mono (Nat.le_of_lt (Nat.mod_lt _ (by omega)))) (Nat.le_trans (limbs_length_le hb.sm) hl2.1)
  rw [← hq, ← hr] at hqu ⊢
  have hb0' : Below w.heap.size w ((((w.alloc (.cells #[.slice A a.length c] 56)).alloc (.cells #[.slice B b.length d] 56)).alloc (.cells #[.slice none 0 0] 56)).alloc (.cells #[.slice none 0 0] 56)) := (by repeat' (first | (with_reducible assumption) | (with_reducible exact Below.refl _ _) | (with_reducible refine bdn ?_ _) | (with_reducible refine Below.drew ?_) | (with_reducible refine Below.setCell ?_ ?_ _) | (with_reducible refine Below.alloc ?_ ?_ _) | go_size))
  have hk0 : Blk ((((w.alloc (.cells #[.slice A a.length c] 56)).alloc (.cells #[.slice B b.length d] 56)).alloc (.cells #[.slice none 0 0] 56)).alloc (.cells #[.slice none 0 0] 56)) w.heap.size 56 #[.slice A a.length c] := (((Blk.new w _ _).alloc _).alloc _).alloc _
  have hk1 : Blk ((((w.alloc (.cells #[.slice A a.length c] 56)).alloc (.cells #[.slice B b.length d] 56)).alloc (.cells #[.slice none 0 0] 56)).alloc (.cells #[.slice none 0 0] 56)) (w.heap.size + 1) 56 #[.slice B b.length d] := by
    have := ((Blk.new (w.alloc (.cells #[.slice A a.length c] 56)) 56 #[.slice B b.length d]).alloc (.cells #[.slice none 0 0] 56)).alloc (.cells #[.slice none 0 0] 56)
    simpa using this
  have hk2 : Blk ((((w.alloc (.cells #[.slice A a.length c] 56)).alloc (.cells #[.slice B b.length d] 56)).alloc (.cells #[.slice none 0 0] 56)).alloc (.cells #[.slice none 0 0] 56)) (w.heap.size + 2) 56 #[.slice none 0 0] := by
    have := (Blk.new ((w.alloc (.cells #[.slice A a.length c] 56)).alloc (.cells #[.slice B b.length d] 56)) 56 #[.slice none 0 0]).alloc (.cells #[.slice none 0 0] 56)
    simpa using this
  have hk3 : Blk ((((w.alloc (.cells #[.slice A a.length c] 56)).alloc (.cells #[.slice B b.length d] 56)).alloc (.cells #[.slice none 0 0] 56)).alloc (.cells #[.slice none 0 0] 56)) (w.heap.size + 3) 56 #[.slice none 0 0] := by
    have := Blk.new (((w.alloc (.cells #[.slice A a.length c] 56)).alloc (.cells #[.slice B b.length d] 56)).alloc (.cells #[.slice none 0 0] 56)) 56 #[.slice none 0 0]
    simpa using this
  clear hz hb0 hN hq hr
  go_enter Tryd.func50, Tryd.ntmps50
  go_wp2_with fail
  generalize ((((w.alloc (.cells #[.slice A a.length c] 56)).alloc (.cells #[.slice B b.length d] 56)).alloc (.cells #[.slice none 0 0] 56)).alloc (.cells #[.slice none 0 0] 56)) = w0 at *
  refine (ref_two A B a b _ _ c d rfl rfl _ (ha.below hb0') (hb.below hb0')).mono ?_
  rintro e w1 ⟨rfl, hb1⟩
  rw [HZ.out]
  have k0 := hk0.below hb1 hk0.lt
  have k1 := hk1.below hb1 hk1.lt
  have k2 := hk2.below hb1 hk2.lt
  have k3 := hk3.below hb1 hk3.lt
  have c0 := k0.cell 0
  have c1 := k1.cell 0
  have c0z := k0.lt
  have c1z := k1.lt
  have hb01 := hb0'.trans (hb1.mono hb0'.size)
  clear hk0 hk1 hk2 hk3 hb1 hb0'
  go_wp2_with fail
  refine (hqu _ (ha.below hb01) (hb.below hb01)).mono ?_
  rintro e w2 ⟨V1, V2, rfl, o1, o2, hb2⟩
  obtain ⟨A1, c1', rfl⟩ := o1.len.2
  obtain ⟨A2, c2', rfl⟩ := o2.len.2
  have k2' := k2.below hb2 k2.lt
  have k3' := k3.below hb2 k3.lt
  have hb02 := hb01.trans (hb2.mono hb01.size)
  have hzw := hb01.size
  have hk3z := k3.lt
  clear k0 k1 k2 k3 c0 c1 c0z c1z hb2 hb01 hqu
  go_wp2_with fail
  refine (ref_nat A1 _ c1' _).mono ?_
  rintro e w3 ⟨rfl, hb3⟩
  go_wp2_with fail
  refine (ref_nat A2 _ c2' _).mono ?_
  rintro e w4 ⟨rfl, hb4⟩
  have hb24 := hb3.trans (hb4.mono hb3.size)
  have k2'' := k2'.below hb24 k2'.lt
  have k3'' := k3'.below hb24 k3'.lt
  have c2 := k2''.cell 0
  have c3 := k3''.cell 0
  have f2 := k2''.frozen 0
  have f3 := k3''.frozen 0
  have z2 := k2''.lt
  have z3 := k3''.lt
  obtain ⟨_, _, e1, _, p1⟩ := (o1.own (sm_limbs q) (by omega))
  injection e1 with a1 a2 a3
  subst a1 a3
  obtain ⟨_, _, e2, _, p2⟩ := (o2.own (sm_limbs r) (by omega))
  injection e2 with a1 a2 a3
  subst a1 a3
  have q1 := (((p1.below hb24 (Nat.le_refl _)).setCell (p := ⟨w.heap.size + 2, 0, none⟩) (by show w.heap.size + 2 < w1.heap.size; omega) (.slice A1 (limbs q).length c1')).setCell (p := ⟨w.heap.size + 3, 0, none⟩) (by show w.heap.size + 3 < w1.heap.size; omega) (.slice A2 (limbs r).length c2')).mono (B' := w.heap.size) hzw
  have q2 := (((p2.below hb24 (Nat.le_refl _)).setCell (p := ⟨w.heap.size + 2, 0, none⟩) (by show w.heap.size + 2 < w1.heap.size; omega) (.slice A1 (limbs q).length c1')).setCell (p := ⟨w.heap.size + 3, 0, none⟩) (by show w.heap.size + 3 < w1.heap.size; omega) (.slice A2 (limbs r).length c2')).mono (B' := w.heap.size) hzw
  have hbf := ((hb02.trans (hb24.mono hb02.size)).setCell (p := ⟨w.heap.size + 2, 0, none⟩) (by show w.heap.size ≤ w.heap.size + 2; omega) (.slice A1 (limbs q).length c1')).setCell (p := ⟨w.heap.size + 3, 0, none⟩) (by show w.heap.size ≤ w.heap.size + 3; omega) (.slice A2 (limbs r).length c2')
  clear k2' k3' k2'' k3'' hb3 hb4 hb24 o1 o2 p1 p2 hb02
  go_wp2
  (try simp only [Exit.inBlock, Exit.then]); refine bodyPost_ret (by simp (maxDischargeDepth := 9) [results, Tryd.results50, go_sem, c2, c3, f2, f3, z2, z3]; try rfl) rfl ?_
  exact ⟨_, _, _, _, rfl, q1, q2, hbf⟩
end Go.Proofs.YtenekbfnlbipiaaDoor
