/- Walk: PackAgain. -/
import Derived.Test.YtefhannaofknnaaDoorPkAw
namespace Go.Proofs.YtefhannaofknnaaDoor
open Go.RowKit
set_option linter.unusedVariables false
set_option linter.unusedSimpArgs false
set_option maxHeartbeats 4000000
set_option maxRecDepth 100000

theorem pack_more (W : Nat) (l : List Nat) (v : Nat) : (packB W (l ++ [v] ++ [v])).length = (packB W (l ++ [v])).length + 1 := by
  unfold packB
  rw [wst_snoc W (l ++ [v]) v]
  have hb : (wst W (l ++ [v])).before = v := by rw [wst_snoc]; rfl
  unfold Wst.step
  rw [hb, Nat.xor_self]
  have hp : ∀ w, pieceS W 0 w = ([0], w) := fun w => by unfold pieceS; rw [if_pos rfl]
  rw [hp]
  simp
  omega
theorem again_early (e f : Int) (A : Option Addr) (l : List Nat) (c : Nat) (w : World) (hl64 : ∀ v ∈ l, v < 18446744073709551616) (hrd : RdK .u64 w A l) (hT : Tab w) (hno : 300 < l.length ∨ rowErr e f l ≠ 0) :
    Calls Tryd.prog 9 #[.agg #[.int .i64 e, .int .i64 f], .slice A l.length c] w (Says w (.bool true)) := by
  have hZ := fun W (h : Below w.heap.size w W) => pack_Size e f A l l.length c rfl W hl64 (hrd.below h) (hT.below h) (cell_lt (hT.below h 0 (by decide)))
  generalize hz : sizeS e f l = Z at hZ
  have hz2 : 300 < l.length ∨ (Z.2 != 0) = true := by
    rcases hno with h | h
    · exact .inl h
    · right
      rw [← hz]; unfold sizeS; rw [if_neg h]; simpa using h
  obtain ⟨z1, z2⟩ := Z
  simp only at hz2 hZ
  clear hz hno hrd
  by_cases hc : chkF e f = 0
  · have HC := Lib.hid hc
    clear hc
    by_cases hlen : 300 < l.length
    · have hg : decide ((300 : Int) < ((l.length : Nat) : Int)) = true := by simp; omega
      clear hlen hz2
      go_enter Tryd.func9, Tryd.ntmps9
      go_wp2_with fail
      have hb0 : Below w.heap.size w (w.alloc (.cells #[.int .i64 e, .int .i64 f] 23)) := (Below.refl w.heap.size w).alloc (Nat.le_refl _) _
      refine (awake_any _ (hT.below hb0)).mono ?_
      rintro r w1 ⟨rfl, hb1⟩
      have hb01 := hb0.trans (hb1.mono (by simp))
      have f0 : w1.cell? ⟨w.heap.size, 0, none⟩ = some (.int .i64 e) := by rw [hb1.cell (by simp)]; simp
      have f1 : w1.cell? ⟨w.heap.size, 1, none⟩ = some (.int .i64 f) := by rw [hb1.cell (by simp)]; simp
      clear hb0 hb1
      go_wp2_with fail
      refine (hZ _ hb01).mono ?_
      rintro r w2 ⟨rfl, hb2⟩
      have hb02 := hb01.trans (hb2.mono hb01.size)
      have g0 := cell_keep hb2 f0
      have g1 := cell_keep hb2 f1
      clear hb01 hb2 f0 f1 hZ
      go_wp2_with fail
      refine (pack_New _ _ _).mono ?_
      rintro r w3 hna
      unfold NewAns at hna
      rw [if_pos HC.out] at hna
      obtain ⟨p, rfl, hp, hwr, hb3⟩ := hna
      have hb03 := hb02.trans (hb3.mono hb02.size)
      clear hwr
      go_wp2
      go_ret
      exact ⟨rfl, hb03⟩
    · have hg : decide ((300 : Int) < ((l.length : Nat) : Int)) = false := by simp; omega
      have hz3 : (z2 != 0) = true := by rcases hz2 with h | h; exact absurd h hlen; exact h
      clear hlen hz2
      go_enter Tryd.func9, Tryd.ntmps9
      go_wp2_with fail
      have hb0 : Below w.heap.size w (w.alloc (.cells #[.int .i64 e, .int .i64 f] 23)) := (Below.refl w.heap.size w).alloc (Nat.le_refl _) _
      refine (awake_any _ (hT.below hb0)).mono ?_
      rintro r w1 ⟨rfl, hb1⟩
      have hb01 := hb0.trans (hb1.mono (by simp))
      have f0 : w1.cell? ⟨w.heap.size, 0, none⟩ = some (.int .i64 e) := by rw [hb1.cell (by simp)]; simp
      have f1 : w1.cell? ⟨w.heap.size, 1, none⟩ = some (.int .i64 f) := by rw [hb1.cell (by simp)]; simp
      clear hb0 hb1
      go_wp2_with fail
      refine (hZ _ hb01).mono ?_
      rintro r w2 ⟨rfl, hb2⟩
      have hb02 := hb01.trans (hb2.mono hb01.size)
      have g0 := cell_keep hb2 f0
      have g1 := cell_keep hb2 f1
      clear hb01 hb2 f0 f1 hZ
      go_wp2_with fail
      refine (pack_New _ _ _).mono ?_
      rintro r w3 hna
      unfold NewAns at hna
      rw [if_pos HC.out] at hna
      obtain ⟨p, rfl, hp, hwr, hb3⟩ := hna
      have hb03 := hb02.trans (hb3.mono hb02.size)
      clear hwr
      go_wp2
      go_ret
      exact ⟨rfl, hb03⟩
  · have HC := Lib.hid hc
    clear hc
    obtain ⟨D, hD⟩ : ∃ D, D = decide ((300 : Int) < ((l.length : Nat) : Int)) := ⟨_, rfl⟩
    by_cases hlen : 300 < l.length
    · have hg : decide ((300 : Int) < ((l.length : Nat) : Int)) = true := by simp; omega
      clear hlen hz2 hD
      go_enter Tryd.func9, Tryd.ntmps9
      go_wp2_with fail
      have hb0 : Below w.heap.size w (w.alloc (.cells #[.int .i64 e, .int .i64 f] 23)) := (Below.refl w.heap.size w).alloc (Nat.le_refl _) _
      refine (awake_any _ (hT.below hb0)).mono ?_
      rintro r w1 ⟨rfl, hb1⟩
      have hb01 := hb0.trans (hb1.mono (by simp))
      have f0 : w1.cell? ⟨w.heap.size, 0, none⟩ = some (.int .i64 e) := by rw [hb1.cell (by simp)]; simp
      have f1 : w1.cell? ⟨w.heap.size, 1, none⟩ = some (.int .i64 f) := by rw [hb1.cell (by simp)]; simp
      clear hb0 hb1
      go_wp2_with fail
      refine (hZ _ hb01).mono ?_
      rintro r w2 ⟨rfl, hb2⟩
      have hb02 := hb01.trans (hb2.mono hb01.size)
      have g0 := cell_keep hb2 f0
      have g1 := cell_keep hb2 f1
      clear hb01 hb2 f0 f1 hZ
      go_wp2_with fail
      refine (pack_New _ _ _).mono ?_
      rintro r w3 hna
      unfold NewAns at hna
      rw [if_neg HC.out] at hna
      obtain ⟨rfl, hb3⟩ := hna
      have hb03 := hb02.trans (hb3.mono hb02.size)
      go_wp2
      go_ret
      exact ⟨rfl, hb03⟩
    · have hg : decide ((300 : Int) < ((l.length : Nat) : Int)) = false := by simp; omega
      have hz3 : (z2 != 0) = true := by rcases hz2 with h | h; exact absurd h hlen; exact h
      clear hlen hz2 hD
      go_enter Tryd.func9, Tryd.ntmps9
      go_wp2_with fail
      have hb0 : Below w.heap.size w (w.alloc (.cells #[.int .i64 e, .int .i64 f] 23)) := (Below.refl w.heap.size w).alloc (Nat.le_refl _) _
      refine (awake_any _ (hT.below hb0)).mono ?_
      rintro r w1 ⟨rfl, hb1⟩
      have hb01 := hb0.trans (hb1.mono (by simp))
      have f0 : w1.cell? ⟨w.heap.size, 0, none⟩ = some (.int .i64 e) := by rw [hb1.cell (by simp)]; simp
      have f1 : w1.cell? ⟨w.heap.size, 1, none⟩ = some (.int .i64 f) := by rw [hb1.cell (by simp)]; simp
      clear hb0 hb1
      go_wp2_with fail
      refine (hZ _ hb01).mono ?_
      rintro r w2 ⟨rfl, hb2⟩
      have hb02 := hb01.trans (hb2.mono hb01.size)
      have g0 := cell_keep hb2 f0
      have g1 := cell_keep hb2 f1
      clear hb01 hb2 f0 f1 hZ
      go_wp2_with fail
      refine (pack_New _ _ _).mono ?_
      rintro r w3 hna
      unfold NewAns at hna
      rw [if_neg HC.out] at hna
      obtain ⟨rfl, hb3⟩ := hna
      have hb03 := hb02.trans (hb3.mono hb02.size)
      go_wp2
      go_ret
      exact ⟨rfl, hb03⟩
theorem again_main (E F : Nat) (hE1 : 2 ≤ E) (hE2 : E ≤ 11) (hF1 : 1 ≤ F) (hF2 : F ≤ 52) (A : Option Addr) (l : List Nat) (c : Nat) (hcap : l.length ≤ c) (w : World) (hl64 : ∀ v ∈ l, v < 18446744073709551616) (hrd : RdK .u64 w A l) (hT : Tab w) (hl : l.length ≤ 300) (hfit : ∀ v ∈ l, v < 2 ^ (1 + E + F)) :
    Calls Tryd.prog 9 #[.agg #[.int .i64 (E : Int), .int .i64 (F : Int)], .slice A l.length c] w (Says w (.bool true)) := by
  have HC := Lib.hid (chkF_of hE1 hE2 hF1 hF2)
  have hg : decide ((300 : Int) < ((l.length : Nat) : Int)) = false := by simp; omega
  have hr0 : ∀ i, rowErr (E : Int) (F : Int) (l.take i) = 0 := fun i => rowErr_z hE1 hE2 hF1 hF2 (by rw [List.length_take]; omega) (fun v hv => hfit v (List.mem_of_mem_take hv))
  have hr1 : rowErr (E : Int) (F : Int) l = 0 := rowErr_z hE1 hE2 hF1 hF2 (by omega) hfit
  have hN2 := (pack_len (W := 1 + E + F) (by omega) hfit).2
  have hN3 : l.length * (14 + (1 + E + F)) ≤ 300 * 78 := Nat.mul_le_mul hl (by omega)
  have hsz := sizeS_ok hr1
  obtain ⟨N, hN⟩ : ∃ N, N = (packB (1 + E + F) l).length := ⟨_, rfl⟩
  rw [← hN] at hsz hN2
  have hNb : N ≤ 17 + 300 * 78 := by omega
  have hZ := fun W (h : Below w.heap.size w W) => pack_Size (E : Int) (F : Int) A l l.length c rfl W hl64 (hrd.below h) (hT.below h) (cell_lt (hT.below h 0 (by decide)))
  rw [hsz] at hZ
  have HN := Lib.hid hN
  clear hN2 hN3 hsz hN
  go_enter Tryd.func9, Tryd.ntmps9
  go_wp2_with fail
  have hb0 : Below w.heap.size w (w.alloc (.cells #[.int .i64 (E : Int), .int .i64 (F : Int)] 23)) := (Below.refl w.heap.size w).alloc (Nat.le_refl _) _
  refine (awake_any _ (hT.below hb0)).mono ?_
  rintro r w1 ⟨rfl, hb1⟩
  have hb01 := hb0.trans (hb1.mono (by simp))
  have hz1 : w.heap.size < w1.heap.size := by have := hb1.size; simp at this; omega
  have f0 : w1.cell? ⟨w.heap.size, 0, none⟩ = some (.int .i64 (E : Int)) := by rw [hb1.cell (by simp)]; simp
  have f1 : w1.cell? ⟨w.heap.size, 1, none⟩ = some (.int .i64 (F : Int)) := by rw [hb1.cell (by simp)]; simp
  clear hb0 hb1
  go_wp2_with fail
  refine (hZ _ hb01).mono ?_
  rintro r w2 ⟨rfl, hb2⟩
  have hb02 := hb01.trans (hb2.mono hb01.size)
  have g0 := cell_keep hb2 f0
  have g1 := cell_keep hb2 f1
  have hz2 := hb2.size
  clear hb01 hb2 f0 f1 hZ
  go_wp2_with fail
  refine (pack_New _ _ _).mono ?_
  rintro r w3 hna
  unfold NewAns at hna
  rw [if_pos HC.out, Int.toNat_natCast, Int.toNat_natCast] at hna
  obtain ⟨p, rfl, hp, hwr, hb3⟩ := hna
  have hz3 := hb3.size
  have hb03 := hb02.trans (hb3.mono hb02.size)
  have f0 := cell_keep hb3 g0
  have f1 := cell_keep hb3 g1
  have hBw : w.heap.size < w2.heap.size := by omega
  have hTB : 0 < w2.heap.size := Nat.lt_trans (cell_lt (hT 0 (by decide))) hBw
  obtain ⟨B, hB⟩ : ∃ B, B = w2.heap.size := ⟨_, rfl⟩
  rw [← hB] at hp hwr hz3 hBw hTB
  clear g0 g1 hb3 hb02 hB hz1 hz2
  go_wp2
  go_loopw [10] (fun v10 wr => ∃ i : Nat, i ≤ l.length ∧ v10 = .int .i64 (i : Int) ∧ Wr wr B p E F (l.take i) ∧ B ≤ wr.heap.size ∧ Below w.heap.size w wr ∧ wr.cell? ⟨w.heap.size, 0, none⟩ = some (.int .i64 (E : Int)) ∧ wr.cell? ⟨w.heap.size, 1, none⟩ = some (.int .i64 (F : Int))) (fun v10 _ => l.length - (intOf v10).toNat)
  case atStart => exact ⟨0, Nat.zero_le _, rfl, hwr, hz3, hb03, f0, f1⟩
  case round =>
    clear hwr hb03 hz3 f0 f1
    obtain ⟨i, hi, rfl, hwr, hz, hbl, f0, f1⟩ := hrel
    by_cases hi1 : i < l.length
    · obtain ⟨b0, off, rfl, hcell⟩ := (hrd.below hbl) (by omega)
      have hx := hcell i hi1
      have h64 : nth l i < 18446744073709551616 := by rw [nth_lt _ hi1]; exact hl64 _ (List.getElem_mem hi1)
      have hvf : nth l i < 2 ^ (1 + E + F) := by rw [nth_lt _ hi1]; exact hfit _ (List.getElem_mem hi1)
      have HTK := Lib.hid (take_snoc l i hi1)
      have hti : (l.take i).length = i := by simp; omega
      obtain ⟨b, hb⟩ : ∃ b, b = nth l i := ⟨_, rfl⟩
      rw [← hb] at hx h64 HTK hvf
      have hg9 : decide (((i : Nat) : Int) < ((l.length : Nat) : Int)) = true := by simp; omega
      have hput := fun w5 (h1 : B ≤ w5.heap.size) (h2 : Tab w5) (h3 : Wr w5 B p E F (l.take i)) => writer_Put w5 B p E F (l.take i) b h64 h1 hE1 hE2 hF1 hF2 h2 hTB h3
      have e : ∀ w5, PutAns w5 B p E F (l.take i) b = fun en w' => en = .returned (.int .i64 0) ∧ Wr w' B p E F (l.take i ++ [b]) ∧ Below B w5 w' := by
        intro w5; funext en w'; unfold PutAns; rw [if_pos ⟨(fit_lt ⟨hE1, hE2⟩ ⟨hF1, hF2⟩).2 hvf, by rw [hti]; omega⟩]
      simp only [e] at hput
      have hpk := packS_ok (hr0 i)
      have hBy := fun W (h : Wr W B p E F (l.take i)) => writer_Bytes W B p E F (l.take i) h hE2 hF2
      have hP := fun W (h : Below w.heap.size w W) => pack_Pack (E : Int) (F : Int) (some ⟨b0, off, none⟩) (l.take i) i c hti.symm W (fun v hv => hl64 v (List.mem_of_mem_take hv)) (fun h0 => by
        obtain ⟨b0', off', e1, hc⟩ := (hrd.below h) (by omega)
        injection e1 with e1
        injection e1 with e1 e2
        subst e1 e2
        refine ⟨_, _, rfl, fun j hj => ?_⟩
        rw [hti] at hj
        rw [nth_tk hj]
        exact hc j (by omega)) (hT.below h) (cell_lt (hT.below h 0 (by decide)))
      rw [hpk] at hP
      generalize bstr (by8 (packB (1 + E + F) (l.take i))) = S at hP hBy
      have hi0 : (0 : Int) ≤ (i : Int) := by omega
      have hi2 : (i : Int) ≤ ((l.length : Nat) : Int) := by omega
      have hi3 : (i : Int) ≤ (c : Int) := by omega
      clear hpk e hcell hb h64 hvf hr0 hr1
      go_wp2_with fail
      refine (hBy _ hwr).mono ?_
      rintro r w4 ⟨rfl, hb4⟩
      have hz4 := hb4.size
      have hbl4 := hbl.trans (hb4.mono hbl.size)
      have k0 := cell_keep hb4 f0
      have k1 := cell_keep hb4 f1
      have kx := cell_keep hb4 hx
      have hwr4 := hwr.below hb4
      clear f0 f1 hx hwr hb4 hbl hBy
      go_wp2
      go_region_held3 (fun w' => w'.cell? ⟨w.heap.size, 0, none⟩ = some (.int .i64 (E : Int)) ∧ w'.cell? ⟨w.heap.size, 1, none⟩ = some (.int .i64 (F : Int)))
        (first | exact ⟨k0, k1⟩ | exact ⟨cell_keep hb5 k0, cell_keep hb5 k1⟩ | go_keep)
        (first
        | (go_at_call 10; (with_reducible refine (hP _ (Below.drew hbl4)).mono ?_); rintro r w5 ⟨rfl, hb5⟩)
        | fail)
      all_goals (
        have hx5 : Below w4.heap.size w4 w5 := (Below.drew (Below.refl _ _)).trans hb5
        have hz5 := hx5.size
        have hbl5 := hbl4.trans (hx5.mono hbl4.size)
        have f0 := cell_keep hx5 k0
        have f1 := cell_keep hx5 k1
        have fx := cell_keep hx5 kx
        have hwr5 := hwr4.below hx5
        clear hb5 k0 k1 kx hwr4 hbl4
        go_wp2_with fail
        refine (hput w5 (by omega) (hT.below hbl5) hwr5).mono ?_
        rintro r w6 ⟨rfl, hwr6, hb6⟩
        rw [← HTK.out] at hwr6
        have hz6 := hb6.size
        have hbl6 := hbl5.trans (hb6.mono (by omega))
        have m0 : w6.cell? ⟨w.heap.size, 0, none⟩ = some (.int .i64 (E : Int)) := (hb6.cell (p := ⟨w.heap.size, 0, none⟩) hBw).trans f0
        have m1 : w6.cell? ⟨w.heap.size, 1, none⟩ = some (.int .i64 (F : Int)) := (hb6.cell (p := ⟨w.heap.size, 1, none⟩) hBw).trans f1
        have hwr6' := hwr6
        obtain ⟨cv, hk, _⟩ := hwr6'
        have q3 := hk.cell 3
        have q8 := hk.cell 8
        simp only [wrCells] at q3 q8
        have htl : (l.take (i + 1)).length = i + 1 := by rw [List.length_take]; omega
        rw [htl] at q8
        clear f0 f1 fx hwr5 hput hk hP
        go_wp2_with fail
        refine (writer_Len p (i + 1) w6 q3 q8).mono ?_
        rintro r w7 ⟨rfl, hb7⟩
        have hbl7 := hbl6.trans (hb7.mono hbl6.size)
        have hwr7 := hwr6.below hb7
        have n0 := cell_keep hb7 m0
        have n1 := cell_keep hb7 m1
        have hz7 := hb7.size
        clear q3 q8 m0 m1 hwr6 hb7 hbl6
        go_wp2
        go_roundw
        case rel => exact ⟨i + 1, hi1, vi (by omega), hwr7, by omega, hbl7, n0, n1⟩
        case measure => first | (simp [intOf]; done) | (simp [intOf]; omega))
    · obtain rfl : i = l.length := by omega
      rw [List.take_length] at hwr
      have hg9 : decide (((l.length : Nat) : Int) < ((l.length : Nat) : Int)) = false := by simp
      have hBy := fun W (h : Wr W B p E F l) => writer_Bytes W B p E F l h hE2 hF2
      have hpk := packS_ok hr1
      have hP := fun W (h : Below w.heap.size w W) => pack_Pack (E : Int) (F : Int) A l l.length c rfl W hl64 (hrd.below h) (hT.below h) (cell_lt (hT.below h 0 (by decide)))
      rw [hpk] at hP
      generalize bstr (by8 (packB (1 + E + F) l)) = S at hP hBy
      clear hpk
      go_wp2_with fail
      refine (hBy _ hwr).mono ?_
      rintro r w4 ⟨rfl, hb4⟩
      have hb04 := hbl.trans (hb4.mono hbl.size)
      have k0 := cell_keep hb4 f0
      have k1 := cell_keep hb4 f1
      clear f0 f1 hwr hb4 hbl hBy
      go_wp2_with fail
      refine (hP _ hb04).mono ?_
      rintro r w5 ⟨rfl, hb5⟩
      have hb05 := hb04.trans (hb5.mono hb04.size)
      have f0 := cell_keep hb5 k0
      have f1 := cell_keep hb5 k1
      clear k0 k1 hb5 hb04 hP
      by_cases h0 : l.length = 0
      · have hg0 : (((l.length : Nat) : Int) == 0) = true := by rw [beq_iff_eq]; omega
        clear h0
        go_wp2
        go_ret
        exact ⟨rfl, hb05⟩
      · have hg0 : (((l.length : Nat) : Int) == 0) = false := by rw [beq_eq_false_iff_ne]; omega
        obtain ⟨q, hq⟩ : ∃ q, l.length = q + 1 := ⟨l.length - 1, by omega⟩
        have HQ := Lib.hid hq
        have hrd5 := hrd.below hb05
        obtain ⟨b0, off, rfl, hcell⟩ := hrd5 (by omega)
        have hx := hcell q (by omega)
        obtain ⟨v, hv⟩ : ∃ v, v = nth l q := ⟨_, rfl⟩
        rw [← hv] at hx
        have hlv : l = l.take q ++ [v] := by
          rw [hv, ← take_snoc l q (by omega), ← hq, List.take_length]
        have hmore : (packB (1 + E + F) (l ++ [v])).length = N + 1 := by
          have := pack_more (1 + E + F) (l.take q) v
          rw [← hlv] at this
          rw [this, HN.out]
        have hvl : v ∈ l := by rw [hv, nth_lt _ (by omega)]; exact List.getElem_mem _
        have hfit2 : ∀ x ∈ l ++ [v], x < 2 ^ (1 + E + F) := fun x hx => by
          rcases List.mem_append.1 hx with h | h
          · exact hfit x h
          · simp at h; subst h; exact hfit _ hvl
        have hr2 : rowErr (E : Int) (F : Int) (l ++ [v]) = 0 := rowErr_z hE1 hE2 hF1 hF2 (by simp; omega) hfit2
        have hsz2 := sizeS_ok hr2
        rw [hmore] at hsz2
        have h642 : ∀ x ∈ l ++ [v], x < 18446744073709551616 := fun x hx => by
          rcases List.mem_append.1 hx with h | h
          · exact hl64 x h
          · simp at h; subst h; exact hl64 _ hvl
        have hZ := fun W A2 c2 (hr : RdK .u64 W A2 (l ++ [v])) (h : Tab W) => pack_Size (E : Int) (F : Int) A2 (l ++ [v]) (l.length + 1) c2 (by simp) W h642 hr h (cell_lt (h 0 (by decide)))
        rw [hsz2] at hZ
        have hw0 := cell_lt f0
        have hz05 := hb05.size
        have hq0 : (0 : Int) ≤ (q : Int) := by omega
        have hq300 : q < 300 := by omega
        clear hlv hmore hvl hfit2 hr2 hsz2 h642 hv hr0 hr1 h0 hg0
        rw [hq]
        clear hq
        go_wp2_with (first
          | (at_builtin
             refine wpList_apps elem64 rfl _ _ rfl (OwnR.nil _ w5.heap.size _ _) rfl (some ⟨b0, off, none⟩) l (q + 1) c HQ.out.symm rfl (fun _ => ⟨b0, off, rfl, hcell⟩) (.inl (by have := hl; simp only [List.length_nil]; omega)) (Nat.le_refl _) (fun v1 w6 hown1 hgr1 hb6 => ?_)
             have hx6 : w6.cell? ⟨b0, off + q, none⟩ = some (.int .u64 (v : Int)) := cell_keep hb6 hx
             have k0 := cell_keep hb6 f0
             have k1 := cell_keep hb6 f1
             have hb06 := hb05.trans (hb6.mono hb05.size)
             have hz6 := hb6.size
             have hx9 := cell_lt hx6
             clear hx f0 f1 hcell hb6 hgr1)
          | (at_builtin
             refine wpList_app elem64 rfl _ _ rfl (hown1.alloc _) rfl ⟨_, 0, none⟩ rfl v ?c1 ?c2 ?c3 (fun v2 w7 hown2 hgr2 hb7 => ?_)
             case c1 => simp [go_sem]
             case c2 => clear hx6; simp only [List.nil_append]; rw [HQ.out]; omega
             case c3 => simp only [World.size_alloc]; omega
             have hb07 : Below w.heap.size w w7 := (hb06.alloc hb06.size _).trans (hb7.mono hz05)
             have f0 : w7.cell? ⟨w.heap.size, 0, none⟩ = some (.int .i64 (E : Int)) := (hb7.cell (p := ⟨w.heap.size, 0, none⟩) hw0).trans (by rw [World.cell?_alloc_lt _ _ _ (by show w.heap.size < w6.heap.size; omega)]; exact k0)
             have f1 : w7.cell? ⟨w.heap.size, 1, none⟩ = some (.int .i64 (F : Int)) := (hb7.cell (p := ⟨w.heap.size, 1, none⟩) hw0).trans (by rw [World.cell?_alloc_lt _ _ _ (by show w.heap.size < w6.heap.size; omega)]; exact k1)
             rw [List.nil_append] at hown2
             obtain ⟨A2, c2, rfl⟩ := hown2.len.2
             have hrb := hown2.rdK))
        clear hown1 hown2 hb7 hb06 hgr2 k0 k1 hx6
        refine (hZ _ _ _ hrb (hT.below hb07)).mono ?_
        rintro r w8 ⟨rfl, hb8⟩
        have hb08 := hb07.trans (hb8.mono hb07.size)
        go_wp2
        go_ret
        exact ⟨rfl, hb08⟩
theorem again_walk (e f : Int) (A : Option Addr) (l : List Nat) (n c : Nat) (hn : n = l.length) (hcap : n ≤ c) (w : World) (hl64 : ∀ v ∈ l, v < 18446744073709551616) (hrd : RdK .u64 w A l) (hT : Tab w) :
    Calls Tryd.prog 9 #[.agg #[.int .i64 e, .int .i64 f], .slice A n c] w (Says w (.bool true)) := by
  subst hn
  by_cases hl : 300 < l.length
  · exact again_early e f A l c w hl64 hrd hT (.inl hl)
  · by_cases hr : rowErr e f l = 0
    · obtain ⟨E, F, rfl, rfl, hE1, hE2, hF1, hF2, _, hfit⟩ := rowErr_ok hr
      exact again_main E F hE1 hE2 hF1 hF2 A l c hcap w hl64 hrd hT (by omega) hfit
    · exact again_early e f A l c w hl64 hrd hT (.inr hr)
end Go.Proofs.YtefhannaofknnaaDoor
