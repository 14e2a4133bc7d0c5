/- Walks of numeralbig: words over words, the long division. -/
import Derived.Test.YtenekbfnlbipiaaGreatDoorBgH
namespace Go.Proofs.YtenekbfnlbipiaaGreatDoor
open Go.RowKit
set_option linter.unusedVariables false
set_option linter.unusedSimpArgs false
set_option maxHeartbeats 4000000
set_option maxRecDepth 100000
namespace Bg
set_option maxHeartbeats 2000000
theorem big_div_big (A B : Option Addr) (u v m n c d : Nat) (huv : v ≤ u) (hm : (limbs u).length = m) (hn : (limbs v).length = n) (h2 : 2 ≤ n) (hlu : m ≤ 20000) (w : World) (ha : Rd w A (limbs u)) (hb : Rd w B (limbs v)) :
    Calls Tryz.prog 160 #[.slice A m c, .slice B n d] w (LimbsTwo w (u / v) (u % v)) := by
  have hcmp : decide (cmpL (limbs u) (limbs v) < 0) = false := by
    rw [decide_eq_false_iff_not, cmpL_canon (sm_limbs u) (sm_limbs v) (last_limbs u) (last_limbs v), val_limbs, val_limbs]
    intro h; have := cmpV_lt.1 h; omega
  obtain ⟨K, hK⟩ : ∃ K, m = K + n := ⟨m - n, by have := limbs_mono huv; omega⟩
  obtain ⟨s, hs⟩ : ∃ s, s = 32 - bitLen (nth (limbs v) (n - 1)) := ⟨_, rfl⟩
  have htop := (sm_limbs v).nth (n - 1)
  have hlz := bits_LeadingZeros32 ((nth (limbs v) (n - 1) : Nat) : Int)
  have hbl : bitLen (nth (limbs v) (n - 1)) ≤ 32 := bitLen_le (by omega)
  have hse : (32 - (bitLen (((nth (limbs v) (n - 1) : Nat) : Int)).toNat : Int)) = (s : Int) := by rw [Int.toNat_natCast]; omega
  rw [hse] at hlz
  obtain ⟨hs32, hnl, hnt, hvlow⟩ := big_norm hn h2 hs
  have hX : u < 4294967296 ^ m := (length_limbs_le u m).1 (by omega)
  have hst := dv_start (va := u) (vb := v) (K := K) (n := n) (s := s) (m := m) hX hK hvlow h2
  have hup1 := big_up B (limbs v) n d hn.symm s (by omega) (by omega)
  have hup2 := big_up A (limbs u) m c hm.symm s (by omega) (by omega)
  rw [val_limbs] at hup1 hup2
  have hX1 : u * 2 ^ s < 4294967296 ^ (m + 1) := by
    rw [Nat.pow_succ]
    exact Nat.lt_of_le_of_lt (Nat.mul_le_mul_left u (Nat.le_trans (Nat.pow_le_pow_right (by decide) (show s ≤ 32 by omega)) (by decide))) (Nat.mul_lt_mul_of_pos_right hX (by decide))
  have hml := (length_limbs_le _ _).2 hX1
  obtain ⟨bb, ob, rfl, hcb⟩ := rd_at hb (Below.refl _ _) (k := n - 1) (by omega)
  have hmk1 := fun W => mk32 (m + 1) ((m : Int) + 1) (by omega) (by omega) W
  have hmk2 := fun W => mk32 (K + 1) ((m : Int) - (n : Int) + 1) (by omega) (by omega) W
  have hcmpC := fun w h1 h2 => big_cmp A (some ⟨bb, ob, none⟩) (limbs u) (limbs v) m n c d hm.symm hn.symm w h1 h2
  obtain ⟨Y, hY⟩ : ∃ Y, Y = v * 2 ^ s := ⟨_, rfl⟩
  obtain ⟨X0, hX0⟩ : ∃ X0, X0 = u * 2 ^ s := ⟨_, rfl⟩
  rw [← hY] at hnl hnt hup1 hst
  rw [← hX0] at hup2 hst hml
  have HY := Lib.hid hY
  have HX0 := Lib.hid hX0
  have HST := Lib.hid hst
  have HNL := Lib.hid hnl
  have HNT := Lib.hid hnt
  have HM := Lib.hid hm
  have HN := Lib.hid hn
  have HK := Lib.hid hK
  have HCM := Lib.hid hcmp
  have HML := Lib.hid hml
  have hn20 : n ≤ 20000 := by omega
  have hK20 : K ≤ 20000 := by omega
  have i1 : ((n : Int) == 1) = false := by rw [beq_eq_false_iff_ne]; omega
  have i2 : (0 : Int) ≤ (n : Int) - 1 := by omega
  have i3 : (n : Int) - 1 < (n : Int) := by omega
  have i4 : ((n : Int) - 1).toNat = n - 1 := by omega
  clear hs hse hbl hvlow hX hX1 hY hX0 hst hnl hnt hm hn hK hcmp hml huv
  go_enter Tryz.func160, Tryz.ntmps160
  go_wp2_with fail
  refine (hcmpC _ ha hb).mono ?_
  rintro e w1 ⟨rfl, hb1⟩
  have hcmp := HCM.out
  have ha1 := ha.below hb1
  have hb1r := hb.below hb1
  have hcb1 := cell_keep hb1 hcb
  go_wp2_with fail
  clear hcmp
  refine (hlz _ (by omega) (by omega)).mono ?_
  rintro e w2 ⟨rfl, rfl⟩
  go_wp2_with fail
  refine (hup1 _ hb1r).mono ?_
  rintro e w2 ⟨A2, c2, rfl, hc2, hv2, hb2⟩
  rw [HNL.out]
  have ha2 := ha1.below hb2
  have hb12 := hb1.trans (hb2.mono hb1.size)
  go_wp2_with fail
  have hal := hb12.alloc hb12.size (.cells (c32 (List.replicate (m + 1) 0)) 153)
  refine (hup2 _ (ha2.alloc _)).mono ?_
  rintro e w3 ⟨A3, c3, rfl, hc3, hv3, hb3⟩
  have hru : Row w3 153 w2.heap.size (List.replicate (m + 1) 0) := (row_new (w := w2) rfl rfl : Row (w2.alloc (.cells (c32 (List.replicate (m + 1) 0)) 153)) 153 w2.heap.size (List.replicate (m + 1) 0)).below hb3 (by simp)
  have hal3 := hal.trans (hb3.mono hal.size)
  have hv23 := (hv2.alloc (.cells (c32 (List.replicate (m + 1) 0)) 153)).below hb3 (Nat.le_refl _)
  obtain ⟨W4, hcp, hr4, hsz4, hbw4, hoth4⟩ := run_copy32 w3 w2.heap.size (List.replicate (m + 1) 0) (limbs X0) A3 c3 (m + 1) hru hv3.rd (by rw [List.length_replicate]; exact HML.out)
  rw [List.length_replicate] at hcp
  go_wp2_with (first | (simp only [hcp]) | (simp only [hmk2]))
  obtain ⟨gv, ov, rfl, hyc⟩ := hv2.rd.open_ (by rw [HNL.out]; omega)
  rw [HNL.out] at hyc hc2
  have hgv : gv < w2.heap.size := by have := cell_lt (hyc 0 (by omega)); simpa using this
  have hyc3 : ∀ i, i < n → w3.cell? ⟨gv, ov + i, none⟩ = some (.int .u32 ((nth (limbs Y) i : Nat) : Int)) := fun i hi => cell_keep hb3 ((cell_keep ((Below.refl w2.heap.size w2).alloc (Nat.le_refl _) _) (hyc i hi)))
  have hyc5 : ∀ i, i < n → (W4.alloc (.cells (c32 (List.replicate (K + 1) 0)) 153)).cell? ⟨gv, ov + i, none⟩ = some (.int .u32 ((nth (limbs Y) i : Nat) : Int)) := by
    intro i hi
    refine cell_keep ((Below.refl W4.heap.size W4).alloc (Nat.le_refl _) _) ?_
    rw [← hyc3 i hi]
    unfold World.cell?
    rw [hoth4 gv (by omega)]
  have hru5 : Row (W4.alloc (.cells (c32 (List.replicate (K + 1) 0)) 153)) 153 w2.heap.size (limbs X0 ++ (List.replicate (m + 1) 0).drop (limbs X0).length) := hr4.below ((Below.refl W4.heap.size W4).alloc (Nat.le_refl _) _) hr4.lt
  have hrq5 : Row (W4.alloc (.cells (c32 (List.replicate (K + 1) 0)) 153)) 153 w3.heap.size (List.replicate (K + 1) 0) := row_new rfl hsz4.symm
  have hb5 : Below w.heap.size w (W4.alloc (.cells (c32 (List.replicate (K + 1) 0)) 153)) := (hal3.trans (hbw4 w.heap.size hb12.size)).alloc (by rw [hsz4]; exact hal3.size) _
  have hgu : w2.heap.size < w3.heap.size := hru.lt
  have hwu : w.heap.size ≤ w2.heap.size := hb12.size
  have hXS : Sm (limbs X0 ++ (List.replicate (m + 1) 0).drop (limbs X0).length) := (sm_limbs X0).append ((Sm.replicate _).drop _)
  have hXL : (limbs X0 ++ (List.replicate (m + 1) 0).drop (limbs X0).length).length = m + 1 := by
    have := HML.out
    simp; omega
  have hXV : val (limbs X0 ++ (List.replicate (m + 1) 0).drop (limbs X0).length) = X0 := by
    rw [List.drop_replicate, val_append, val_replicate, Nat.mul_zero, Nat.add_zero, val_limbs]
  obtain ⟨xs0, hxs0⟩ : ∃ xs, xs = limbs X0 ++ (List.replicate (m + 1) 0).drop (limbs X0).length := ⟨_, rfl⟩
  rw [← hxs0] at hru5 hXS hXL hXV
  obtain ⟨W5, hW5⟩ : ∃ W5, W5 = W4.alloc (.cells (c32 (List.replicate (K + 1) 0)) 153) := ⟨_, rfl⟩
  rw [← hW5] at hyc5 hru5 hrq5 hb5 ⊢
  obtain ⟨gq, hgq⟩ : ∃ gq, gq = w3.heap.size := ⟨_, rfl⟩
  obtain ⟨gu, hgu'⟩ : ∃ gu, gu = w2.heap.size := ⟨_, rfl⟩
  rw [← hgu'] at hgv hru5 hgu hwu ⊢
  rw [← hgq] at hrq5 hgu ⊢
  have HXL := Lib.hid hXL
  have HXV := Lib.hid hXV
  clear hW5 hgq hgu' hxs0 hcp hr4 hsz4 hbw4 hoth4 hyc hyc3 hru hal3 hv23 hv3 hb3 hc3 hal hb12 ha2 hb2 hv2 hcb1 hb1r ha1 hb1 hmk1 hmk2 hcmpC hlz hup1 hup2 hb ha hcb i1 i2 i3 i4 HCM HML HM HN htop hXL hXV
  go_loopw [13] (fun v13 wr => ∃ (k : Nat) (outs xs : List Nat), k ≤ K + 1 ∧ v13 = .int .i64 ((k : Int) - 1) ∧ outs.length = K + 1 ∧ Sm outs ∧ xs.length = m + 1 ∧ Sm xs ∧ X0 = val xs + 4294967296 ^ k * (Y * val (outs.drop k)) ∧ val xs < 4294967296 ^ k * Y ∧ Row wr 153 gu xs ∧ Row wr 153 gq outs ∧ (∀ i, i < n → wr.cell? ⟨gv, ov + i, none⟩ = some (.int .u32 ((nth (limbs Y) i : Nat) : Int))) ∧ Below w.heap.size w wr) (fun v13 _ => (intOf v13 + 1).toNat)
  case atStart =>
    exact ⟨K + 1, List.replicate (K + 1) 0, xs0, Nat.le_refl _, vi (by have := HK.out; omega), by simp, Sm.replicate _, HXL.out, hXS, dv_at0 HXV.out.symm (by simp), by rw [HXV.out]; exact HST.out, hru5, hrq5, hyc5, hb5⟩
  case round =>
    clear hru5 hrq5 hyc5 hb5
    obtain ⟨k, outs, xs, hk, rfl, hol, hos, hxl, hxs, hX, hlt, hru, hrq, hyc, hbl⟩ := hrel
    have HOL := Lib.hid hol
    have HXLx := Lib.hid hxl
    have HX := Lib.hid hX
    have HLT := Lib.hid hlt
    have HYC := Lib.hid hyc
    clear hol hxl hX hlt hyc
    by_cases hk0 : k = 0
    · subst hk0
      go_wp2_with fail
      have hfin := dv_fin (n := n) HX0.out HY.out HX.out HLT.out hxs (by have := (length_limbs_le Y n).1 (by rw [HNL.out]; omega); exact this)
      have F1 := Lib.hid hfin.1
      have F2 := Lib.hid hfin.2
      have hq0 : Rd wr (some ⟨gq, 0, none⟩) outs := hrq.rd0 hos (by rw [HOL.out]; omega)
      have hu0 : Rd wr (some ⟨gu, 0, none⟩) (xs.take n) := rd_take (hru.rd0 hxs (by rw [HXLx.out]; have := HK.out; omega)) n
      have hxn : (xs.take n).length = n := by have h1 := HXLx.out; have h3 := HK.out; simp; omega
      have HXN := Lib.hid hxn
      have hmn : n ≤ m + 1 := by have := HK.out; omega
      clear hfin hxn
      go_region_with (first
        | (go_at_call 146; (with_reducible refine (big_trim (some ⟨gq, 0, none⟩) outs _ (K + 1) HOL.out.symm (Nat.le_refl _) _ (by first | exact hq0.drew | exact hq0.drew.drew | exact hq0)).mono ?_); rintro r wa ⟨rfl, rfl⟩)
        | (go_at_call 146; (with_reducible refine (big_trim (some ⟨gu, 0, none⟩) (xs.take n) _ (m + 1) HXN.out.symm hmn _ (by first | exact hu0.drew | exact hu0.drew.drew | exact hu0)).mono ?_); rintro r wa ⟨rfl, rfl⟩)
        | (go_at_call 207; (with_reducible refine (big_down (some ⟨gu, 0, none⟩) (limbs (val (xs.take n))) _ (m + 1) rfl s (by omega) (by have := limbs_length_le (hxs.take n); rw [HXN.out] at this; omega) _ (by first | exact (rd_trim hu0).drew | exact (rd_trim hu0).drew.drew | exact rd_trim hu0)).mono ?_); rintro r wa ⟨A6, c6, rfl, hc6, hr6, hb6⟩))
      all_goals (
        rw [val_limbs, F2.out] at hc6 hr6
        go_wp2
        go_ret2
        have hle := limbs_length_le hos
        have ho := (hrq.own hos (by rw [HOL.out]; omega) (show w.heap.size ≤ gq by omega) outs.length (Nat.le_refl _) (Nat.le_refl _)).trim
        rw [HOL.out] at ho hle
        rw [List.take_of_length_le (by rw [HOL.out]; omega), F1.out] at ho
        rw [F1.out] at hle
        exact ⟨_, _, _, _, by rw [F1.out, F2.out]; rfl, hle, ho.drew.below hb6 (Nat.le_refl _), hc6, hr6.mono hbl.size, hbl.drew.trans (hb6.mono hbl.size)⟩)
    · obtain ⟨k, rfl⟩ : ∃ j, k = j + 1 := ⟨k - 1, by omega⟩
      have hKm : k + n ≤ m := by have := HK.out; omega
      go_wp2_with fail
      all_goals (try (exfalso; omega))
      have e1 : k + n + 1 - k = n + 1 := by omega
      rw [e1]
      refine (big_figure gu gv ov k n (m + 1 - k) c2 xs (limbs Y) Y h2 (by omega) (by rw [HXLx.out]; omega) (by rw [HXLx.out]; omega) hxs (sm_limbs Y) HNL.out (val_limbs Y) HNT.out HLT.out (by omega) _ hru HYC.out (by omega) hc2).mono ?_
      rintro e w6 ⟨q, x', rfl, hq, hxs', hxl', hxv', hxlt', hru', hole⟩
      have hrq' := hole.row hrq (by omega)
      have hyc' : ∀ i, i < n → w6.cell? ⟨gv, ov + i, none⟩ = some (.int .u32 ((nth (limbs Y) i : Nat) : Int)) := fun i hi => hole.keep (HYC.out i hi) (show gv ≠ gu by omega)
      have hbl' := hole.below hbl hwu hbl.size
      have hcq := hrq'.cell k (by rw [HOL.out]; omega)
      have hfq := hrq'.frozen k
      have XV := Lib.hid hxv'
      have XL := Lib.hid hxl'
      have YC := Lib.hid hyc'
      have XT := Lib.hid hxlt'
      clear hxv' hxl' hyc' hxlt' hKm hole
      go_wp2
      go_roundw
      case rel =>
        exact ⟨k, outs.set k q, x', by omega, by go_num, by simp [HOL.out], hos.set _ _ hq, by rw [XL.out, HXLx.out], hxs', dv_out (by rw [HOL.out]; omega) HX.out XV.out, XT.out, hru'.far (show gu ≠ gq by omega) _, hrq'.setE k q rfl, fun i hi => (World.cell?_setCell_other _ _ _ _ (fun e => by have := congrArg Addr.block e; simp at this; omega)).trans (YC.out i hi), hbl'.setCell (show w.heap.size ≤ gq by omega) _⟩
      case measure => first | (simp [intOf]; done) | (simp [intOf]; omega)
theorem big_div (A B : Option Addr) (u v c d : Nat) (hv : v ≠ 0) (hlu : (limbs u).length ≤ 20000) (w : World) (ha : Rd w A (limbs u)) (hb : Rd w B (limbs v)) :
    Calls Tryz.prog 160 #[.slice A (limbs u).length c, .slice B (limbs v).length d] w (LimbsTwo w (u / v) (u % v)) := by
  by_cases h : u < v
  · exact big_div_less A B u v c d h w ha hb
  · have hp := limbs_pos hv
    by_cases h1 : (limbs v).length = 1
    · exact big_div_one A B u v c d (by omega) h1 hlu w ha hb
    · exact big_div_big A B u v _ _ c d (by omega) rfl rfl (by omega) hlu w ha hb
end Bg
namespace Bg
theorem big_by (A B : Option Addr) (u v : Nat) (c d : Nat) (hv : v ≠ 0) (hc : (limbs u).length ≤ c) (hlu : (limbs u).length ≤ 20000) (w : World) (ha : Own w 153 0 A c (limbs u)) (hb : Own w 153 0 B d (limbs v)) :
    Calls Tryz.prog 148 #[.slice A (limbs u).length c, .slice B (limbs v).length d] w fun e w' => ∃ C k, e = .returned (.slice C (limbs (u / v)).length k) ∧ (limbs (u / v)).length ≤ k ∧ Own w' 153 0 C k (limbs (u / v)) ∧ Below w.heap.size w w' := by
  have h1 := big_one B (limbs v) _ d rfl
  have hD := big_div A B u v c d hv hlu
  by_cases h : limbs v = [1]
  · have hv1 : v = 1 := by have := congrArg val h; rw [val_limbs] at this; simpa [val] using this
    subst hv1
    rw [Nat.div_one]
    have hd : decide (limbs 1 = [1]) = true := by rw [h]; rfl
    go_enter Tryz.func148, Tryz.ntmps148
    go_wp2_with fail
    refine (h1 _ hb.rd).mono ?_
    rintro e w1 ⟨rfl, rfl⟩
    go_wp2
    go_ret
    exact ⟨_, _, rfl, hc, ha, Below.refl _ _⟩
  · have hd : decide (limbs v = [1]) = false := by rw [decide_eq_false_iff_not]; exact h
    go_enter Tryz.func148, Tryz.ntmps148
    go_wp2_with fail
    refine (h1 _ hb.rd).mono ?_
    rintro e w1 ⟨rfl, rfl⟩
    go_wp2_with fail
    refine (hD _ ha.rd hb.rd).mono ?_
    rintro e w2 ⟨C, k, D, m, rfl, hk, hC, hm, hDD, hbl⟩
    go_wp2
    go_ret
    exact ⟨_, _, rfl, hk, hC.mono (Nat.zero_le _), hbl⟩
theorem big_fromUint (x : Nat) (hx : x < 18446744073709551616) (w : World) :
    Calls Tryz.prog 95 #[.int .u64 (x : Int)] w (LimbsOne w x) := by
  have hsm : Sm [x % 4294967296, x / 4294967296] := by intro y hy; simp at hy; omega
  have hv : val [x % 4294967296, x / 4294967296] = x := by simp [val]; omega
  have HV := Lib.hid hv
  clear hv
  go_enter Tryz.func95, Tryz.ntmps95
  go_wp2_with fail
  have hal : Below w.heap.size w (w.alloc (.cells #[.int .u32 ((x % 4294967296 : Nat) : Int), .int .u32 ((x / 4294967296 : Nat) : Int)] 153)) := (Below.refl _ _).alloc (Nat.le_refl _) _
  have hrow : Row (w.alloc (.cells #[.int .u32 ((x % 4294967296 : Nat) : Int), .int .u32 ((x / 4294967296 : Nat) : Int)] 153)) 153 w.heap.size [x % 4294967296, x / 4294967296] := row_new rfl rfl
  refine (big_trim (some ⟨w.heap.size, 0, none⟩) [x % 4294967296, x / 4294967296] 2 2 rfl (Nat.le_refl _) _ (hrow.rd0 hsm (by simp))).mono ?_
  rintro e w3 ⟨rfl, rfl⟩
  rw [HV.out]
  go_wp2
  go_ret
  have ho := (hrow.own hsm (by simp) (Nat.le_refl _) 2 (Nat.le_refl _) (Nat.le_refl _)).trim
  have hle := limbs_length_le hsm
  rw [HV.out] at hle
  rw [List.take_of_length_le (by simp), HV.out] at ho
  exact ⟨_, _, rfl, hle, ho, hal⟩
def Ob (w : World) (z : Nat) (T : TypeId) (s : Bool) (v : Nat) (rest : List Value) : Prop :=
  ∃ A c, Blk w z T (.bool s :: .slice A (limbs v).length c :: rest).toArray ∧ (limbs v).length ≤ c ∧ Own w 153 0 A c (limbs v)
def At (w : World) (z : Nat) (T : TypeId) (rest : List Value) : Prop := ∃ x y, Blk w z T (x :: y :: rest).toArray
theorem Ob.at_ {w : World} {z : Nat} {T : TypeId} {s : Bool} {v : Nat} {rest : List Value} (h : Ob w z T s v rest) : At w z T rest := by
  obtain ⟨A, c, hb, _⟩ := h; exact ⟨_, _, hb⟩
theorem At.lt {w : World} {z : Nat} {T : TypeId} {rest : List Value} (h : At w z T rest) : z < w.heap.size := by obtain ⟨x, y, h⟩ := h; exact h.lt
theorem Ob.lt {w : World} {z : Nat} {T : TypeId} {s : Bool} {v : Nat} {rest : List Value} (h : Ob w z T s v rest) : z < w.heap.size := h.at_.lt
theorem own_hole {w w' : World} {z : Nat} {T : TypeId} {cs : Array Value} {B c : Nat} {A : Option Addr} {l : List Nat} (h : Own w 153 B A c l) (hz : Blk w z T cs) (hT : T ≠ 153) (k : Hole z w w') : Own w' 153 B A c l := by
  refine ⟨h.1, h.2.1, ?_⟩
  rcases h.2.2 with h | ⟨g, cur, e, hB, hb, r⟩
  · exact .inl h
  · refine .inr ⟨g, cur, e, hB, k.blk hb ?_, r⟩
    rintro rfl
    unfold Blk at hb hz
    rw [hb] at hz
    injection hz with hz
    injection hz with _ hz
    exact hT hz.symm
theorem At.below {w w' : World} {z : Nat} {T : TypeId} {rest : List Value} (h : At w z T rest) {B : Nat} (k : Below B w w') (hB : z < B) : At w' z T rest := by
  obtain ⟨x, y, h⟩ := h; exact ⟨x, y, h.below k hB⟩
theorem Ob.hole {w w' : World} {z g : Nat} {T T' : TypeId} {s : Bool} {v : Nat} {rest rest' : List Value} (h : Ob w g T s v rest) (hz : At w z T' rest') (hT : T' ≠ 153) (hg : g ≠ z) (k : Hole z w w') : Ob w' g T s v rest := by
  obtain ⟨A, c, hb, hc, ho⟩ := h
  obtain ⟨x, y, hz⟩ := hz
  exact ⟨A, c, k.blk hb hg, hc, own_hole ho hz hT k⟩
theorem Ob.below {w w' : World} {g : Nat} {T : TypeId} {s : Bool} {v : Nat} {rest : List Value} (h : Ob w g T s v rest) (k : Below w.heap.size w w') : Ob w' g T s v rest := by
  obtain ⟨A, c, hb, hc, ho⟩ := h
  exact ⟨A, c, hb.below k hb.lt, hc, ho.below k (Nat.le_refl _)⟩
theorem At.drew {w : World} {g : Nat} {T : TypeId} {rest : List Value} (h : At w g T rest) : At w.drew g T rest := h
theorem blk_set0 {w : World} {z : Nat} {T : TypeId} {x y : Value} {rest : List Value} (h : Blk w z T (x :: y :: rest).toArray) (u : Value) : Blk (w.setCell ⟨z, 0, none⟩ u) z T (u :: y :: rest).toArray := by
  have := h.set_ 0 u; simpa using this
theorem blk_set1 {w : World} {z : Nat} {T : TypeId} {x y : Value} {rest : List Value} (h : Blk w z T (x :: y :: rest).toArray) (u : Value) : Blk (w.setCell ⟨z, 1, none⟩ u) z T (x :: u :: rest).toArray := by
  have := h.set_ 1 u; simpa using this
def Sets (w : World) (z : Nat) (T : TypeId) (rest : List Value) (s : Bool) (v : Nat) (e : Ending) (w' : World) : Prop :=
  e = .returned (.pointer (some ⟨z, 0, none⟩)) ∧ Hole z w w' ∧ Ob w' z T s v rest
theorem int_set (z : Nat) (T : TypeId) (rest : List Value) (hT : T ≠ 153) (s : Bool) (A : Option Addr) (l : List Nat) (n c : Nat) (hn : n = l.length) (hc : n ≤ c) (w : World) (hz : At w z T rest) (h : Own w 153 0 A c l) :
    Calls Tryz.prog 94 #[.pointer (some ⟨z, 0, none⟩), .bool s, .slice A n c] w (Sets w z T rest (s && decide (val l ≠ 0)) (val l)) := by
  subst hn
  obtain ⟨x, y, hz⟩ := hz
  have c0 := hz.cell 0
  have c1 := hz.cell 1
  have f0 := hz.frozen 0
  have f1 := hz.frozen 1
  simp at c0 c1
  have h1 := blk_set1 hz (.slice A (limbs (val l)).length c)
  have c11 := h1.cell 1
  simp at c11
  have hh : Hole z w (w.setCell ⟨z, 1, none⟩ (.slice A (limbs (val l)).length c)) := (Hole.refl z w).setCell rfl _
  have ho := own_hole h.trim hz hT hh
  have hle : (limbs (val l)).length ≤ c := Nat.le_trans (limbs_length_le h.sm) hc
  have hcond : ∀ b : Bool, (b && decide (0 < (limbs (val l)).length)) = (b && decide (val l ≠ 0)) := by
    intro b
    congr 1
    rw [decide_eq_decide, List.length_pos_iff, ne_eq, limbs_eq_nil]
  cases s
  · go_enter Tryz.func94, Tryz.ntmps94
    go_wp2_with fail
    refine (big_trim A l _ c rfl hc _ h.rd).mono ?_
    rintro e w1 ⟨rfl, rfl⟩
    go_wp2
    go_ret
    have h0 := blk_set0 h1 (.bool false)
    exact ⟨rfl, hh.setCell rfl _, _, _, h0, hle, own_hole ho h1 hT ((Hole.refl z _).setCell rfl _)⟩
  · go_enter Tryz.func94, Tryz.ntmps94
    go_wp2_with fail
    refine (big_trim A l _ c rfl hc _ h.rd).mono ?_
    rintro e w1 ⟨rfl, rfl⟩
    go_wp2
    go_ret
    refine ⟨rfl, hh.setCell rfl _, _, _, ?_, hle, own_hole ho h1 hT ((Hole.refl z _).setCell rfl _)⟩
    have hc1 : (true && decide (val l ≠ 0)) = !decide (val l = 0) := by simp
    rw [hc1]
    exact blk_set0 h1 _
end Bg
namespace Bg
def Makes (w : World) (T : TypeId) (rest : List Value) (s : Bool) (v : Nat) (e : Ending) (w' : World) : Prop :=
  ∃ z, e = .returned (.pointer (some ⟨z, 0, none⟩)) ∧ w.heap.size ≤ z ∧ Ob w' z T s v rest ∧ Below w.heap.size w w'
theorem Ob.cells {w : World} {z : Nat} {T : TypeId} {s : Bool} {v : Nat} {rest : List Value} (h : Ob w z T s v rest) : ∃ A c, w.cell? ⟨z, 0, none⟩ = some (.bool s) ∧ w.cell? ⟨z, 1, none⟩ = some (.slice A (limbs v).length c) ∧ (limbs v).length ≤ c ∧ Own w 153 0 A c (limbs v) := by
  obtain ⟨A, c, hb, hc, ho⟩ := h
  have c0 := hb.cell 0
  have c1 := hb.cell 1
  simp at c0 c1
  exact ⟨A, c, c0, c1, hc, ho⟩
theorem at_of_below {w w' : World} {z : Nat} {T : TypeId} {rest : List Value} (h : At w z T rest) (k : Below w.heap.size w w') : At w' z T rest := h.below k h.lt
theorem hole_of {w w1 w2 : World} {z : Nat} (h1 : Below w.heap.size w w1) (h2 : Hole z w1 w2) : Hole z w w2 := (Hole.of_below z h1).trans h2
theorem hole_fresh {w w1 w2 : World} {z : Nat} (h1 : Below w.heap.size w w1) (h2 : Hole z w1 w2) (hz : w.heap.size ≤ z) : Below w.heap.size w w2 := Hole.below h1 h2 hz h1.size
theorem nofalse {b : Bool} : (false && b) = false := rfl
theorem int_SetUint64 (z : Nat) (T : TypeId) (rest : List Value) (hT : T ≠ 153) (x : Nat) (hx : x < 18446744073709551616) (w : World) (hz : At w z T rest) :
    Calls Tryz.prog 46 #[.pointer (some ⟨z, 0, none⟩), .int .u64 (x : Int)] w (Sets w z T rest false x) := by
  go_enter Tryz.func46, Tryz.ntmps46
  go_wp2_with fail
  refine (big_fromUint x hx _).mono ?_
  rintro e w1 ⟨A, c, rfl, hc, ho, hb⟩
  go_wp2_with fail
  refine (int_set z T rest hT false A (limbs x) _ c rfl hc _ (at_of_below hz hb) (ho.mono (Nat.zero_le _))).mono ?_
  rintro e w2 ⟨rfl, hh, hob⟩
  rw [val_limbs] at hob
  go_wp2
  go_ret
  exact ⟨rfl, hole_of hb hh, by simpa using hob⟩
theorem int_SetInt64 (z : Nat) (T : TypeId) (rest : List Value) (hT : T ≠ 153) (x : Nat) (hx : x < 9223372036854775808) (w : World) (hz : At w z T rest) :
    Calls Tryz.prog 111 #[.pointer (some ⟨z, 0, none⟩), .int .i64 (x : Int)] w (Sets w z T rest false x) := by
  go_enter Tryz.func111, Tryz.ntmps111
  go_wp2_with fail
  refine (big_fromUint x (by omega) _).mono ?_
  rintro e w1 ⟨A, c, rfl, hc, ho, hb⟩
  go_wp2_with fail
  refine (int_set z T rest hT false A (limbs x) _ c rfl hc _ (at_of_below hz hb) (ho.mono (Nat.zero_le _))).mono ?_
  rintro e w2 ⟨rfl, hh, hob⟩
  rw [val_limbs] at hob
  go_wp2
  go_ret
  exact ⟨rfl, hole_of hb hh, by simpa using hob⟩
theorem big_NewInt (x : Nat) (hx : x < 9223372036854775808) (w : World) :
    Calls Tryz.prog 57 #[.int .i64 (x : Int)] w (Makes w 95 [] false x) := by
  go_enter Tryz.func57, Tryz.ntmps57
  go_wp2_with fail
  have hal : Below w.heap.size w (w.alloc (.cells #[.bool false, .slice none 0 0] 95)) := (Below.refl _ _).alloc (Nat.le_refl _) _
  have hat : At (w.alloc (.cells #[.bool false, .slice none 0 0] 95)) w.heap.size 95 [] := ⟨_, _, Blk.new w _ _⟩
  refine (int_SetInt64 w.heap.size _ [] (by decide) x hx _ hat).mono ?_
  rintro e w2 ⟨rfl, hh, hob⟩
  go_wp2
  go_ret
  exact ⟨_, rfl, Nat.le_refl _, hob, hole_fresh hal hh (Nat.le_refl _)⟩
theorem int_Set (z x : Nat) (T TX : TypeId) (rest restx : List Value) (hT : T ≠ 153) (v : Nat) (w : World) (hz : At w z T rest) (hx : Ob w x TX false v restx) :
    Calls Tryz.prog 55 #[.pointer (some ⟨z, 0, none⟩), .pointer (some ⟨x, 0, none⟩)] w (Sets w z T rest false v) := by
  obtain ⟨A, c, c0, c1, hc, ho⟩ := hx.cells
  go_enter Tryz.func55, Tryz.ntmps55
  go_wp2_with fail
  go_region_with
    (first
     | (go_at_call 109; (with_reducible refine (big_copied A (limbs v) _ c rfl _ ho.rd.drew).mono ?_); rintro e w1 ⟨g, rfl, hg, hrow, hb⟩; have hb2 : Below w.heap.size w w1 := (Below.refl w.heap.size w).drew.trans hb; have d0 := cell_keep hb2 c0; have d1 := cell_keep hb2 c1)
     | (go_at_call 94; (with_reducible refine (int_set z T rest hT false (some ⟨g, 0, none⟩) (limbs v) _ _ rfl (Nat.le_refl _) _ (at_of_below hz hb2) (by have := hrow.own (sm_limbs v) ho.rd.len (Nat.zero_le _) (limbs v).length (Nat.le_refl _) (Nat.le_refl _); rw [List.take_length] at this; exact this)).mono ?_); rintro e w2 ⟨rfl, hh, hob⟩))
  all_goals (
    rw [val_limbs] at hob
    go_wp2
    go_ret
    exact ⟨rfl, hole_of hb2 hh, by simpa using hob⟩)
end Bg
end Go.Proofs.YtenekbfnlbipiaaGreatDoor
