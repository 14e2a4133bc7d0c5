/- Walk: TopPack. -/
import Derived.Test.YtefhannaofknnaaDoorPkQB
import Derived.Test.YtefhannaofknnaaDoorPkZH
namespace Go.Proofs.YtefhannaofknnaaDoor
open Go.RowKit
set_option linter.unusedVariables false
set_option linter.unusedSimpArgs false
set_option maxHeartbeats 4000000
set_option maxRecDepth 100000

theorem top_double (w : World) : Calls Tryd.prog 11 #[] w (Says w (.agg #[.int .i64 11, .int .i64 52])) := by
  go_enter Tryd.func11, Tryd.ntmps11
  go_wp2
  go_returns
  exact ⟨rfl, (Below.refl _ _).alloc (Nat.le_refl _) _⟩
theorem fitE_chk {e f : Int} {b : Nat} (h : chkF e f ≠ 0) : fitE e f b = 5 := by
  unfold fitE; rw [if_neg h]; exact chk_no h
theorem top_is (e f B : Int) (b : Nat) (hB : B = (b : Int)) (hb64 : b < 18446744073709551616) (w : World) :
    Calls Tryd.prog 14 #[.agg #[.int .i64 e, .int .i64 f], .int .u64 B] w (Says w (.bool (decide (fitE e f b = 0)))) := by
  by_cases hc : chkF e f = 0
  · have hfits := ref_Fits e f B b hB hb64
    have hd : decide (fitE e f b = 0) = (fitE e f b == 0) := rfl
    rw [hd]
    generalize fitE e f b = x at hfits ⊢
    have HC := Lib.hid hc
    clear hc hd hB hb64
    go_enter Tryd.func14, Tryd.ntmps14
    go_wp2_with fail
    refine (ref_Check _ _ _).mono ?_
    rintro r w1 ⟨rfl, hb1⟩
    rw [HC.out]
    have hb01 : Below w.heap.size w w1 := ((Below.refl w.heap.size w).alloc (Nat.le_refl _) _).trans (hb1.mono (by simp))
    have f0 : w1.cell? ⟨w.heap.size, 0, none⟩ = some (.int .i64 e) := by rw [hb1.cell (by simp)]; simp
    have f1 : w1.cell? ⟨w.heap.size, 1, none⟩ = some (.int .i64 f) := by rw [hb1.cell (by simp)]; simp
    clear hb1
    go_wp2_with fail
    refine (hfits _).mono ?_
    rintro r w2 ⟨rfl, hb2⟩
    have hb02 := hb01.trans (hb2.mono hb01.size)
    go_wp2
    go_ret
    exact ⟨rfl, hb02⟩
  · have hd : decide (fitE e f b = 0) = false := by rw [fitE_chk hc]; rfl
    rw [hd]
    have hz : (chkF e f == 0) = false := by simpa using hc
    clear hc hd
    go_enter Tryd.func14, Tryd.ntmps14
    go_wp2_with fail
    refine (ref_Check _ _ _).mono ?_
    rintro r w1 ⟨rfl, hb1⟩
    have hb01 : Below w.heap.size w w1 := ((Below.refl w.heap.size w).alloc (Nat.le_refl _) _).trans (hb1.mono (by simp))
    go_wp2
    go_ret
    exact ⟨rfl, hb01⟩
theorem packS_ok {E F : Nat} {l : List Nat} (h : rowErr (E : Int) (F : Int) l = 0) : packS (E : Int) (F : Int) l = (bstr (by8 (packB (1 + E + F) l)), 0) := by
  unfold packS; rw [if_pos h, Int.toNat_natCast, Int.toNat_natCast]
theorem sizeS_ok {E F : Nat} {l : List Nat} (h : rowErr (E : Int) (F : Int) l = 0) : sizeS (E : Int) (F : Int) l = ((((packB (1 + E + F) l).length : Nat) : Int), 0) := by
  unfold sizeS; rw [if_pos h, Int.toNat_natCast, Int.toNat_natCast]
theorem rowErr_z {E F : Nat} (hE1 : 2 ≤ E) (hE2 : E ≤ 11) (hF1 : 1 ≤ F) (hF2 : F ≤ 52) {l : List Nat} (hl : l.length ≤ 65536) (hv : ∀ v ∈ l, v < 2 ^ (1 + E + F)) : rowErr (E : Int) (F : Int) l = 0 := by
  unfold rowErr
  rw [if_neg (by rw [chkF_of hE1 hE2 hF1 hF2]; simp), if_neg (by omega), Int.toNat_natCast, Int.toNat_natCast, if_pos hv]
theorem packS_nil : packS 11 52 [] = (⟨#[0, 0, 0]⟩, 0) := by
  have h : rowErr (11 : Int) (52 : Int) [] = 0 := by decide
  have := packS_ok (E := 11) (F := 52) (l := []) h
  rw [show ((11 : Nat) : Int) = 11 from rfl, show ((52 : Nat) : Int) = 52 from rfl] at this
  rw [this]
  have e : bstr (by8 (packB (1 + 11 + 52) [])) = ⟨#[0, 0, 0]⟩ := by decide +kernel
  rw [e]
end Go.Proofs.YtefhannaofknnaaDoor
namespace Go.Proofs.YtefhannaofknnaaDoor
open Go.RowKit
set_option linter.unusedVariables false
set_option linter.unusedSimpArgs false
set_option maxHeartbeats 4000000
set_option maxRecDepth 100000

theorem law_half (w : World) : Calls Tryd.prog 42 #[] w (Says w (.agg #[.int .i64 5, .int .i64 10])) := by
  go_enter Tryd.func42, Tryd.ntmps42
  go_wp2
  go_returns
  exact ⟨rfl, (Below.refl _ _).alloc (Nat.le_refl _) _⟩
theorem aw_pack : packS 5 10 [15360] = (⟨#[0, 0, 225, 7, 224]⟩, 0) := by
  have h : rowErr (5 : Int) (10 : Int) [15360] = 0 := by decide +kernel
  have := packS_ok (E := 5) (F := 10) (l := [15360]) h
  rw [show ((5 : Nat) : Int) = 5 from rfl, show ((10 : Nat) : Int) = 10 from rfl] at this
  rw [this]
  have e : bstr (by8 (packB (1 + 5 + 10) [15360])) = ⟨#[0, 0, 225, 7, 224]⟩ := by decide +kernel
  rw [e]
theorem aw_size1 : sizeS 5 10 [15360, 14336] = (41, 0) := by decide +kernel
theorem aw_size2 : sizeS 5 10 [15360, 15361] = (50, 0) := by decide +kernel
theorem aw_un1 : unpS 5 10 [0, 0, 225, 7, 224] = ([15360], 0, 0) := by decide +kernel
theorem aw_un2 : unpS 5 10 [0, 0, 192] = ([], 2, 270) := by decide +kernel
theorem aw_s1 : bstr [0, 0, 225, 7, 224] = ⟨#[0, 0, 225, 7, 224]⟩ := by decide +kernel
theorem aw_s2 : bstr [0, 0, 192] = ⟨#[0, 0, 192]⟩ := by decide +kernel
theorem rd_new1 (w : World) (t : TypeId) (x : Nat) : RdK .u64 (w.alloc (.cells #[.int .u64 (x : Int)] t)) (some ⟨w.heap.size, 0, none⟩) [x] := fun _ => by
  refine ⟨w.heap.size, 0, rfl, fun j hj => ?_⟩
  obtain rfl : j = 0 := by simpa using hj
  simp [nth]
theorem rd_new2 (w : World) (t : TypeId) (x y : Nat) : RdK .u64 (w.alloc (.cells #[.int .u64 (x : Int), .int .u64 (y : Int)] t)) (some ⟨w.heap.size, 0, none⟩) [x, y] := fun _ => by
  refine ⟨w.heap.size, 0, rfl, fun j hj => ?_⟩
  have : j = 0 ∨ j = 1 := by simp at hj; omega
  rcases this with rfl | rfl <;> simp [nth]
theorem awake_any (w : World) (hT : Tab w) : Calls Tryd.prog 20 #[] w (Says w (.bool true)) := by
  have hP := fun W (h : Tab W) A c (hr : RdK .u64 W A [15360]) => pack_Pack 5 10 A [15360] 1 c rfl W (by decide) hr h (cell_lt (h 0 (by decide)))
  rw [aw_pack] at hP
  have hZ1 := fun W (h : Tab W) A c (hr : RdK .u64 W A [15360, 14336]) => pack_Size 5 10 A [15360, 14336] 2 c rfl W (by decide) hr h (cell_lt (h 0 (by decide)))
  rw [aw_size1] at hZ1
  have hZ2 := fun W (h : Tab W) A c (hr : RdK .u64 W A [15360, 15361]) => pack_Size 5 10 A [15360, 15361] 2 c rfl W (by decide) hr h (cell_lt (h 0 (by decide)))
  rw [aw_size2] at hZ2
  have hU1 := fun W => pack_Unpack 5 10 [0, 0, 225, 7, 224] (by unfold Bts; decide) W
  rw [aw_un1, aw_s1] at hU1
  have hU2 := fun W => pack_Unpack 5 10 [0, 0, 192] (by unfold Bts; decide) W
  rw [aw_un2, aw_s2] at hU2
  go_enter Tryd.func20, Tryd.ntmps20
  go_wp2_with fail
  refine (law_half _).mono ?_
  rintro r w1 ⟨rfl, hb1⟩
  have hr1 := rd_new1 w1 34 15360
  have hx1 : Below w1.heap.size w1 (w1.alloc (.cells #[.int .u64 ((15360 : Nat) : Int)] 34)) := (Below.refl _ _).alloc (Nat.le_refl _) _
  have hb01 := hb1.trans (hx1.mono hb1.size)
  clear hb1 hx1
  go_wp2_with fail
  refine (hP _ (hT.below hb01) _ _ hr1).mono ?_
  rintro r w2 ⟨rfl, hb2⟩
  have hb02 := hb01.trans (hb2.mono hb01.size)
  clear hr1 hb01 hb2 hP
  go_wp2_with fail
  refine (law_half _).mono ?_
  rintro r w3 ⟨rfl, hb3⟩
  have hr3 := rd_new2 w3 34 15360 14336
  have hb03 := hb02.trans (hb3.mono hb02.size)
  have hb04 : Below w.heap.size w (w3.alloc (.cells #[.int .u64 ((15360 : Nat) : Int), .int .u64 ((14336 : Nat) : Int)] 34)) := hb03.alloc hb03.size _
  clear hb3 hb02 hb03
  go_wp2_with fail
  refine (hZ1 _ (hT.below hb04) _ _ hr3).mono ?_
  rintro r w5 ⟨rfl, hb5⟩
  have hb05 := hb04.trans (hb5.mono hb04.size)
  clear hr3 hb04 hb5 hZ1
  go_wp2_with fail
  refine (law_half _).mono ?_
  rintro r w6 ⟨rfl, hb6⟩
  have hr6 := rd_new2 w6 34 15360 15361
  have hb06 := hb05.trans (hb6.mono hb05.size)
  have hb07 : Below w.heap.size w (w6.alloc (.cells #[.int .u64 ((15360 : Nat) : Int), .int .u64 ((15361 : Nat) : Int)] 34)) := hb06.alloc hb06.size _
  clear hb6 hb05 hb06
  go_wp2_with fail
  refine (hZ2 _ (hT.below hb07) _ _ hr6).mono ?_
  rintro r w8 ⟨rfl, hb8⟩
  have hb08 := hb07.trans (hb8.mono hb07.size)
  clear hr6 hb07 hb8 hZ2
  go_wp2_with fail
  refine (law_half _).mono ?_
  rintro r w9 ⟨rfl, hb9⟩
  have hb09 := hb08.trans (hb9.mono hb08.size)
  clear hb9 hb08
  go_wp2_with fail
  refine (hU1 _).mono ?_
  rintro r w10 ⟨vb, rfl, hown, hb10⟩
  have hb010 := hb09.trans (hb10.mono hb09.size)
  obtain ⟨A2, c2, rfl⟩ := hown.len.2
  have hrb := hown.rdK
  clear hb10 hb09 hU1 hown
  go_wp2_with fail
  refine (law_half _).mono ?_
  rintro r w11 ⟨rfl, hb11⟩
  have hb011 := hb010.trans (hb11.mono hb010.size)
  have hrb11 := hrb.below hb11
  clear hb11 hb010 hrb
  go_wp2_with fail
  refine (hU2 _).mono ?_
  rintro r w12 ⟨vc, rfl, hown, hb12⟩
  have hb012 := hb011.trans (hb12.mono hb011.size)
  obtain ⟨b1, off1, rfl, hcell⟩ := (hrb11.below hb12) (by decide)
  have hx := hcell 0 (by decide)
  have hx' : w12.cell? ⟨b1, off1, none⟩ = some (.int .u64 15360) := hx
  clear hb12 hb011 hrb11 hU2 hown hcell hx hT
  go_wp2
  go_ret
  exact ⟨rfl, hb012⟩
/-- Lists, number by number. -/
theorem law_same (A1 A2 : Option Addr) (l1 l2 : List Nat) (n1 n2 c1 c2 : Nat) (hn1 : n1 = l1.length) (hn2 : n2 = l2.length) (hs : l1.length ≤ 35184372088960) (w : World) (h1 : RdK .u64 w A1 l1) (h2 : RdK .u64 w A2 l2) :
    Calls Tryd.prog 24 #[.slice A1 n1 c1, .slice A2 n2 c2] w (Says w (.bool (decide (l1 = l2)))) := by
  subst hn1 hn2
  by_cases hl : l1.length = l2.length
  · obtain ⟨D, hD⟩ : ∃ D, D = decide (l1 = l2) := ⟨_, rfl⟩
    rw [← hD]
    have HD := Lib.hid hD
    have HL := Lib.hid hl
    have hg0 : ((l1.length : Int) != (l2.length : Int)) = false := by simp; omega
    rw [← hl] at hg0 ⊢
    clear hD hl
    go_enter Tryd.func24, Tryd.ntmps24
    go_wp2
    go_loopw [5] (fun v5 wx => ∃ i : Nat, i ≤ l1.length ∧ v5 = .int .i64 (i : Int) ∧ (∀ j, j < i → nth l1 j = nth l2 j) ∧ ∃ z, wx = w.drewN z) (fun v5 _ => l1.length - (intOf v5).toNat)
    case atStart => exact ⟨0, Nat.zero_le _, rfl, fun j hj => absurd hj (Nat.not_lt_zero _), 0, rfl⟩
    case round =>
      obtain ⟨i, hi, rfl, heq, z, rfl⟩ := hrel
      by_cases hi1 : i < l1.length
      · obtain ⟨b0, off, rfl, hcell⟩ := h1 (by omega)
        obtain ⟨b1, off1, rfl, hcell1⟩ := h2 (by have := HL.out; omega)
        have hx := hcell i hi1
        have hx1 := hcell1 i (by have := HL.out; omega)
        have hg9 : decide (((i : Nat) : Int) < ((l1.length : Nat) : Int)) = true := by simp; omega
        obtain ⟨x, hxe⟩ : ∃ x, x = nth l1 i := ⟨_, rfl⟩
        obtain ⟨y, hye⟩ : ∃ y, y = nth l2 i := ⟨_, rfl⟩
        rw [← hxe] at hx
        rw [← hye] at hx1
        have HX := Lib.hid hxe
        have HY := Lib.hid hye
        have HQ := Lib.hid heq
        clear hcell hcell1 hxe hye heq
        by_cases hxy : x = y
        · subst hxy
          go_wp2
          go_quiet (fail)
          go_wp2
          go_roundw
          case rel =>
            refine ⟨i + 1, hi1, vi (by omega), fun j hj => ?_, z + nq, by simp⟩
            rcases Nat.lt_or_ge j i with h | h
            · exact HQ.out j h
            · obtain rfl : j = i := by omega
              rw [← HX.out, ← HY.out]
          case measure => first | (simp [intOf]; done) | (simp [intOf]; omega)
        · have hne : ((x : Int) != (y : Int)) = true := by rw [bne_iff_ne]; omega
          have hD0 : D = false := by
            rw [HD.out]
            simp only [decide_eq_false_iff_not]
            intro h
            rw [HX.out, HY.out, h] at hxy
            exact hxy rfl
          subst hD0
          have HXY := Lib.hid hxy
          clear hxy
          go_wp2
          go_quiet (fail)
          go_wp2
          go_ret
          exact ⟨rfl, bdn (bdn (Below.refl _ _) _) _⟩
      · obtain rfl : i = l1.length := by omega
        have hD0 : D = true := by
          rw [HD.out]
          simp only [decide_eq_true_eq]
          exact ext_nth HL.out heq
        subst hD0
        clear heq
        go_wp2
        go_ret
        exact ⟨rfl, bdn (Below.refl _ _) _⟩
  · have hd : decide (l1 = l2) = false := by
      simp only [decide_eq_false_iff_not]
      intro h; rw [h] at hl; exact hl rfl
    rw [hd]
    have hg0 : ((l1.length : Int) != (l2.length : Int)) = true := by rw [bne_iff_ne]; omega
    clear hd hl
    go_enter Tryd.func24, Tryd.ntmps24
    go_wp2
    go_ret
    exact ⟨rfl, Below.refl _ _⟩
end Go.Proofs.YtefhannaofknnaaDoor
