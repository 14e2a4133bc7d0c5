/- Walks: nat.Gcd. -/
import Derived.Test.YtkepjhgafpbecaaSq
import Derived.Test.YtkepjhgafpbecaaN
import Derived.Deep.LoopGhost
namespace Go.Proofs.Ytkepjhgafpbecaa
open Go.RowKit
set_option linter.unusedVariables false
set_option linter.unusedSimpArgs false
set_option maxHeartbeats 4000000
set_option maxRecDepth 100000

def gcdS (a b : List Nat) : List Nat × Int := if chk2 a b = 0 then (limbs (Nat.gcd (val a) (val b)), 0) else ([], chk2 a b)
theorem chk_lg {x : Nat} (h : (limbs x).length ≤ 16384) : chk (limbs x) = 0 := by
  unfold chk; rw [if_neg (by omega), if_neg (last_limbs x)]
theorem divS_l {x y : Nat} (hx : (limbs x).length ≤ 16384) (hy : (limbs y).length ≤ 16384) (h0 : y ≠ 0) : divS (limbs x) (limbs y) = (limbs (x / y), limbs (x % y), 0) := by
  unfold divS
  rw [if_pos (by unfold chk2; rw [if_pos (chk_lg hx)]; exact chk_lg hy), val_limbs, val_limbs, if_neg h0]

def GcdRel (w w1 : World) (Bx By G : Nat) (g : Nat) (v9 : Value) (wr : World) : Prop :=
  ∃ (x y : Nat) (Ax Ay : Option Addr) (cx cy : Nat), g = y ∧ Nat.gcd x y = G ∧ (limbs x).length ≤ 16384 ∧ (limbs y).length ≤ 16384 ∧ Blk wr Bx 35 #[.slice Ax (limbs x).length cx] ∧ Blk wr By 35 #[.slice Ay (limbs y).length cy] ∧
    Own wr 28 w1.heap.size Ax cx (limbs x) ∧ Own wr 28 w1.heap.size Ay cy (limbs y) ∧ Below w1.heap.size w1 wr

theorem nat_Gcd (A B : Option Addr) (a b : List Nat) (n m c d : Nat) (hn : n = a.length) (hm : m = b.length) (w : World) (ha : Rd w A a) (hb : Rd w B b) :
    Calls Try.prog 46 #[.agg #[.slice A n c], .agg #[.slice B m d]] w (NatAns 28 w (gcdS a b)) := by
  have ha2 := (((ha.alloc (Obj.cells #[Value.slice A n c] 35)).alloc (Obj.cells #[Value.slice B m d] 35)).alloc (Obj.cells #[Value.slice none 0 0] 35)).alloc (Obj.cells #[Value.slice A n c, Value.slice B m d] 35)
  have hb2 := (((hb.alloc (Obj.cells #[Value.slice A n c] 35)).alloc (Obj.cells #[Value.slice B m d] 35)).alloc (Obj.cells #[Value.slice none 0 0] 35)).alloc (Obj.cells #[Value.slice A n c, Value.slice B m d] 35)
  have HN := Lib.hid hn
  have HM := Lib.hid hm
  by_cases hz : chk2 a b = 0
  · have hl1 : n ≤ 16384 := by rw [hn]; exact (chk_zero (chk2_zero hz).1).1
    have hl2 : m ≤ 16384 := by rw [hm]; exact (chk_zero (chk2_zero hz).2).1
    have hca := limbs_of ha.sm (chk_zero (chk2_zero hz).1).2
    have hcb := limbs_of hb.sm (chk_zero (chk2_zero hz).2).2
    have e : gcdS a b = (limbs (Nat.gcd (val a) (val b)), 0) := by unfold gcdS; rw [if_pos hz]
    have HZ := Lib.hid hz
    have HCA := Lib.hid hca
    have HCB := Lib.hid hcb
    rw [e]
    clear hz e hn hm hca hcb
    go_enter Try.func46, Try.ntmps46
    go_wp2_with fail
    refine (nat_checks _ A B a b _ _ c d HN.out HM.out _ ha2 hb2 (by simp [go_sem]) (by simp [go_sem])).mono ?_
    rintro e w1 ⟨rfl, hb1⟩
    rw [HZ.out]
    obtain ⟨hc1, hf1⟩ := bcell hb1
    have hbw1 : Below w.heap.size w w1 := Below.trans (b := _) (by repeat' (first | (with_reducible assumption) | (with_reducible exact Below.refl _ _) | (with_reducible refine bdn ?_ _) | (with_reducible refine Below.drew ?_) | (with_reducible refine Below.setCell ?_ ?_ _) | (with_reducible refine Below.alloc ?_ ?_ _) | go_size)) (hb1.mono (by go_size))
    have hz1_0 : w.heap.size < w1.heap.size := by have := hb1.size; simp at this; omega
    have hz1_1 : w.heap.size + 1 < w1.heap.size := by have := hb1.size; simp at this; omega
    have hz1_2 : w.heap.size + 2 < w1.heap.size := by have := hb1.size; simp at this; omega
    have hz1_3 : w.heap.size + 3 < w1.heap.size := by have := hb1.size; simp at this; omega
    have c1 : w1.cell? ⟨w.heap.size + 1, 0, none⟩ = some (Value.slice B m d) := by rw [hc1 _ _ (by go_size)]; simp [go_sem]
    have c2 : w1.cell? ⟨w.heap.size + 2, 0, none⟩ = some (Value.slice none 0 0) := by rw [hc1 _ _ (by go_size)]; simp [go_sem]
    have f2 : w1.frozen? ⟨w.heap.size + 2, 0, none⟩ = false := by rw [hf1 _ _ (by go_size)]; simp [go_sem]
    have hx := ha2.below hb1
    have hy := hb2.below hb1
    clear ha2 hb2
    go_wp2_with (at_builtin; refine wpList_apps elemU rfl _ _ rfl (OwnR.nil _ w1.heap.size _ _) rfl A a n c HN.out rfl (fun h0 => hx.open_ h0) (.inr ⟨rfl, bytesU, by have := HN.out; simp; omega⟩) (Nat.le_refl _) (fun v1 w2 hown1 hgr1 hb2 => ?_))
    rw [List.nil_append] at hown1
    obtain ⟨A1, k1, rfl, hle1, ho1⟩ := hown1.own ha.sm (by have := HN.out; omega)
    have hb2' : Below w1.heap.size w1 w2 := hb2
    clear hc1 hf1 hb1 hown1 hgr1 hb2
    go_wp2_with fail
    refine (nat_trimmed_own2 A1 a a.length k1 w1.heap.size rfl hle1 _ ho1).mono ?_
    rintro e w3 ⟨Ax, cx, rfl, hox, hb3⟩
    have hb13 := hb2'.trans (hb3.mono hb2'.size)
    have d1 := cell_keep hb13 c1
    have z1 := cell_lt d1
    simp only at z1
    have hBx := Blk.new w3 35 #[.slice Ax (limbs (val a)).length cx]
    have hox3 := hox.alloc (.cells #[.slice Ax (limbs (val a)).length cx] 35)
    have hb13' := hb13.alloc hb13.size (.cells #[.slice Ax (limbs (val a)).length cx] 35)
    have hy3 := hy.below hb13'
    have hsz3 : (w3.alloc (.cells #[.slice Ax (limbs (val a)).length cx] 35)).heap.size = w3.heap.size + 1 := by simp
    go_wp2_with (at_builtin; refine wpList_apps elemU rfl _ _ rfl (OwnR.nil _ (w3.heap.size + 1) _ _) rfl B b m d HM.out rfl (fun h0 => hy3.open_ h0) (.inr ⟨rfl, bytesU, by have := HM.out; simp; omega⟩) (by simp) (fun v2 w4 hown2 hgr2 hb4 => ?_))
    rw [List.nil_append] at hown2
    obtain ⟨A2, k2, rfl, hle2, ho2⟩ := hown2.own hb.sm (by have := HM.out; omega)
    rw [← hsz3] at hb4
    go_wp2_with fail
    refine (nat_trimmed_own2 A2 b b.length k2 (w3.heap.size + 1) rfl hle2 _ ho2).mono ?_
    rintro e w5 ⟨Ay, cy, rfl, hoy, hb5⟩
    have hb45 := hb4.trans (hb5.mono hb4.size)
    have hBx5 := hBx.below hb45 hBx.lt
    have hox5 := hox3.below hb45 (Nat.le_refl _)
    have hb15 := hb13'.trans (hb45.mono hb13'.size)
    have hBy := Blk.new w5 35 #[.slice Ay (limbs (val b)).length cy]
    have hBx6 := hBx5.alloc (.cells #[.slice Ay (limbs (val b)).length cy] 35)
    have hox6 := hox5.alloc (.cells #[.slice Ay (limbs (val b)).length cy] 35)
    have hoy6 := (hoy.mono (show w1.heap.size ≤ w3.heap.size + 1 by have := hb13.size; omega)).alloc (.cells #[.slice Ay (limbs (val b)).length cy] 35)
    have hb16 := hb15.alloc hb15.size (.cells #[.slice Ay (limbs (val b)).length cy] 35)
    have hBxy : w3.heap.size ≠ w5.heap.size := by have := hBx5.lt; omega
    have hBx1 : w1.heap.size ≤ w3.heap.size := hb13.size
    have hBy1 : w1.heap.size ≤ w5.heap.size := hb15.size
    have hla : (limbs (val a)).length ≤ 16384 := by rw [HCA.out, ← HN.out]; exact hl1
    have hlb : (limbs (val b)).length ≤ 16384 := by rw [HCB.out, ← HM.out]; exact hl2
    clear hgr2 hown2 ho2 hb5 hb4 hb45 hBx hBx5 hox hox3 hox5 hoy hb15 hb13 hb13' hb2' hb3 d1 c1 z1 hx hy hy3 ho1 hsz3
    generalize hG : Nat.gcd (val a) (val b) = G at *
    have HG := Lib.hid hG
    clear hG
    go_wp2_with fail
    generalize w3.heap.size = Bx at *
    generalize hW6 : w5.alloc (.cells #[.slice Ay (limbs (val b)).length cy] 35) = W6 at *
    generalize w5.heap.size = By at *
    clear hW6
    generalize val a = x0 at *
    generalize val b = y0 at *
    clear HCA HCB
    have l0 := hBx6.cell0
    have l1 := hBy.cell0
    go_loopg [9] y0 (fun g v9 wr => GcdRel w w1 Bx By G g v9 wr)
    case atStart => exact ⟨x0, y0, Ax, Ay, cx, cy, rfl, HG.out, hla, hlb, hBx6, hBy, hox6, hoy6, hb16⟩
    case round =>
      clear hBx6 hBy hox6 hoy6 hb16 hla hlb HG l0 l1
      obtain ⟨x, y, Ax, Ay, cx, cy, hgy, hg, hlx, hly, hBx, hBy, hox, hoy, hbl⟩ := hrel
      have HGY := Lib.hid hgy
      have HG := Lib.hid hg
      have lx := hBx.cell0
      have ly := hBy.cell0
      have lxz := hBx.lt
      have lyz := hBy.lt
      have fx := hBx.frozen 0
      have fy := hBy.frozen 0
      clear hgy hg
      by_cases h0 : y = 0
      · subst h0
        have hxG : x = G := by have := HG.out; rw [Nat.gcd_zero_right] at this; exact this
        subst hxG
        have r2 := cell_keep hbl c2
        have r2z := cell_lt r2
        simp only at r2z
        have rf2 := (below_frozen hbl (b := w.heap.size + 2) (o := 0) hz1_2).trans f2
        have hy00 : (limbs 0).length = 0 := rfl
        go_wp2
        (try simp only [Exit.inBlock, Exit.then]); refine bodyPost_ret (by simp (maxDischargeDepth := 9) [results, Try.results46, go_sem, r2, r2z]; try rfl) rfl ?_
        exact ⟨Ax, cx, rfl, (hox.setCell (p := ⟨w.heap.size + 2, 0, none⟩) hz1_2 _).mono hbw1.size, (hbw1.trans (hbl.mono hbw1.size)).setCell (p := ⟨w.heap.size + 2, 0, none⟩) (Nat.le_add_right _ _) _⟩
      · have hpos : 0 < (limbs y).length := limbs_pos h0
        have k1 := fun W h h' => nat_Div Ax Ay (limbs x) (limbs y) _ _ cx cy rfl rfl W h h'
        rw [divS_l hlx hly h0] at k1
        have hlm : (limbs (x % y)).length ≤ 16384 := Nat.le_trans (limbs_mono (Nat.mod_le _ _)) hlx
        have HMT : Hid (x % y < y) := Nat.mod_lt x (by omega)
        have HGG : Hid (Nat.gcd y (x % y) = G) := by
          show Nat.gcd y (x % y) = G
          rw [← HG.out, Nat.gcd_comm x y, Nat.gcd_rec y x, Nat.gcd_comm]
        generalize x % y = r at *
        generalize x / y = q at *
        go_wp2_with fail
        refine (k1 _ hox.rd hoy.rd).mono ?_
        rintro e w7 ⟨Aq, cq, Ar, cr, rfl, hoq, hor, hb7⟩
        have hBx7 := hBx.below hb7 hBx.lt
        have hBy7 := hBy.below hb7 hBy.lt
        have hoy7 := hoy.below hb7 (Nat.le_refl _)
        have hor7 := hor.mono hbl.size
        have hbl7 := hbl.trans (hb7.mono hbl.size)
        have m0 := hBx7.cell0
        have m1 := hBy7.cell0
        have m0z := hBx7.lt
        have m1z := hBy7.lt
        have m0f := hBx7.frozen 0
        have m1f := hBy7.frozen 0
        clear hBx hBy hox hoy hbl hoq hor hb7 lx ly lxz lyz fx fy k1
        go_wp2_with fail
        have hBx8 := (hBx7.alloc (.cells #[.slice Aq (limbs q).length cq] 35)).alloc (.cells #[.slice Ar (limbs r).length cr] 35)
        have hBy8 := (hBy7.alloc (.cells #[.slice Aq (limbs q).length cq] 35)).alloc (.cells #[.slice Ar (limbs r).length cr] 35)
        have hoy8 := (hoy7.alloc (.cells #[.slice Aq (limbs q).length cq] 35)).alloc (.cells #[.slice Ar (limbs r).length cr] 35)
        have hor8 := (hor7.alloc (.cells #[.slice Aq (limbs q).length cq] 35)).alloc (.cells #[.slice Ar (limbs r).length cr] 35)
        have hbl8 := (hbl7.alloc hbl7.size (.cells #[.slice Aq (limbs q).length cq] 35)).alloc (by have := hbl7.size; simp; omega) (.cells #[.slice Ar (limbs r).length cr] 35)
        have hBr8 := Blk.new (w7.alloc (.cells #[.slice Aq (limbs q).length cq] 35)) 35 #[.slice Ar (limbs r).length cr]
        rw [show (w7.alloc (.cells #[.slice Aq (limbs q).length cq] 35)).heap.size = w7.heap.size + 1 from by simp] at hBr8
        clear hBx7 hBy7 hoy7 hor7 hbl7 m0 m1 m0f m1f
        generalize hW8 : (w7.alloc (.cells #[.slice Aq (limbs q).length cq] 35)).alloc (.cells #[.slice Ar (limbs r).length cr] 35) = W8 at *
        have hrx : Bx ≠ w7.heap.size + 1 := by omega
        have hry : By ≠ w7.heap.size + 1 := by omega
        have hrx' := Ne.symm hrx
        have hry' := Ne.symm hry
        have hyx := Ne.symm hBxy
        clear hW8 m0z m1z
        generalize w7.heap.size + 1 = Br at *
        have n0 := hBx8.cell0
        have n1 := hBy8.cell0
        have n2 := hBr8.cell0
        have n0z := hBx8.lt
        have n1z := hBy8.lt
        have n2z := hBr8.lt
        have n0f := hBx8.frozen 0
        have n1f := hBy8.frozen 0
        go_region_with (fail)
        all_goals (
          go_wp2_with fail
          go_roundg r
          case measure => have := HMT.out; have := HGY.out; omega
          case rel =>
            refine ⟨y, r, Ay, Ar, cy, cr, rfl, HGG.out, hly, hlm, ?_, ?_, ?_, ?_, ?_⟩
            · first | exact ((hBx8.drew.set0 _).far hBxy _) | exact ((hBx8.drew.far hBxy _).set0 _)
            · first | exact ((hBy8.drew.far hyx _).set0 _) | exact ((hBy8.drew.set0 _).far hyx _)
            · first | exact (hoy8.drew.setT (p := ⟨Bx, 0, none⟩) hBx8 (by decide) _).setT (p := ⟨By, 0, none⟩) (hBy8.far (p := ⟨Bx, 0, none⟩) hyx _) (by decide) _ | exact (hoy8.drew.setT (p := ⟨By, 0, none⟩) hBy8 (by decide) _).setT (p := ⟨Bx, 0, none⟩) (hBx8.far (p := ⟨By, 0, none⟩) hBxy _) (by decide) _
            · first | exact (hor8.drew.setT (p := ⟨Bx, 0, none⟩) hBx8 (by decide) _).setT (p := ⟨By, 0, none⟩) (hBy8.far (p := ⟨Bx, 0, none⟩) hyx _) (by decide) _ | exact (hor8.drew.setT (p := ⟨By, 0, none⟩) hBy8 (by decide) _).setT (p := ⟨Bx, 0, none⟩) (hBx8.far (p := ⟨By, 0, none⟩) hBxy _) (by decide) _
            · first | exact (hbl8.drew.setCell (p := ⟨Bx, 0, none⟩) hBx1 _).setCell (p := ⟨By, 0, none⟩) hBy1 _ | exact (hbl8.drew.setCell (p := ⟨By, 0, none⟩) hBy1 _).setCell (p := ⟨Bx, 0, none⟩) hBx1 _)
  · have e : gcdS a b = ([], chk2 a b) := by unfold gcdS; rw [if_neg hz]
    have hne : (chk2 a b != 0) = true := by rw [bne_iff_ne]; exact hz
    rw [e]
    clear hz e hn hm
    go_enter Try.func46, Try.ntmps46
    go_wp2_with fail
    refine (nat_checks _ A B a b _ _ c d HN.out HM.out _ ha2 hb2 (by simp [go_sem]) (by simp [go_sem])).mono ?_
    rintro e w1 ⟨rfl, hb1⟩
    obtain ⟨hc1, hf1⟩ := bcell hb1
    have hbw1 : Below w.heap.size w w1 := Below.trans (b := _) (by repeat' (first | (with_reducible assumption) | (with_reducible exact Below.refl _ _) | (with_reducible refine bdn ?_ _) | (with_reducible refine Below.drew ?_) | (with_reducible refine Below.setCell ?_ ?_ _) | (with_reducible refine Below.alloc ?_ ?_ _) | go_size)) (hb1.mono (by go_size))
    have hz1_0 : w.heap.size < w1.heap.size := by have := hb1.size; simp at this; omega
    have hz1_1 : w.heap.size + 1 < w1.heap.size := by have := hb1.size; simp at this; omega
    have hz1_2 : w.heap.size + 2 < w1.heap.size := by have := hb1.size; simp at this; omega
    have hz1_3 : w.heap.size + 3 < w1.heap.size := by have := hb1.size; simp at this; omega
    go_wp2
    (try simp only [Exit.inBlock, Exit.then]); refine bodyPost_ret (by simp (maxDischargeDepth := 9) [results, Try.results46, go_sem, hc1, hz1_2]; try rfl) rfl ?_
    exact ⟨none, 0, rfl, Own.nil _ _ _, (by repeat' (first | (with_reducible assumption) | (with_reducible exact Below.refl _ _) | (with_reducible refine bdn ?_ _) | (with_reducible refine Below.drew ?_) | (with_reducible refine Below.setCell ?_ ?_ _) | (with_reducible refine Below.alloc ?_ ?_ _) | go_size))⟩
end Go.Proofs.Ytkepjhgafpbecaa
