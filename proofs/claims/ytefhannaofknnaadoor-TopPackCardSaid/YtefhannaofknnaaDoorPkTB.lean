/- Walk: TopPack, whole. -/
import Derived.Test.YtefhannaofknnaaDoorPkTA
namespace Go.Proofs.YtefhannaofknnaaDoor
open Go.RowKit
set_option linter.unusedVariables false
set_option linter.unusedSimpArgs false
set_option maxHeartbeats 4000000
set_option maxRecDepth 100000

theorem top_form (e f : Int) (A : Option Addr) (l : List Nat) (n c : Nat) (w : World) (hT : Tab w) (hc : chkF e f ≠ 0) :
    Calls Tryd.prog 3 #[.agg #[.int .i64 e, .int .i64 f], .slice A n c] w (Says w (.bool true)) := by
  have hz : (chkF e f != 0) = true := by simpa using hc
  have hP := fun w1 (hT1 : Tab w1) => pack_Pack 11 52 none [] 0 0 rfl w1 (by simp) (fun h => by simp at h) hT1 (cell_lt (hT1 0 (by decide)))
  rw [packS_nil] at hP
  clear hc
  go_enter Tryd.func3, Tryd.ntmps3
  go_wp2_with fail
  refine (top_double _).mono ?_
  rintro r w1 ⟨rfl, hb1⟩
  have hb01 : Below w.heap.size w w1 := ((Below.refl w.heap.size w).alloc (Nat.le_refl _) _).trans (hb1.mono (by simp))
  have f0 : w1.cell? ⟨w.heap.size, 0, none⟩ = some (.int .i64 e) := by rw [hb1.cell (by simp)]; simp
  have f1 : w1.cell? ⟨w.heap.size, 1, none⟩ = some (.int .i64 f) := by rw [hb1.cell (by simp)]; simp
  clear hb1
  go_wp2_with fail
  refine (hP _ (hT.below hb01)).mono ?_
  rintro r w2 ⟨rfl, hb2⟩
  have hb02 := hb01.trans (hb2.mono hb01.size)
  have g0 := cell_keep hb2 f0
  have g1 := cell_keep hb2 f1
  clear f0 f1 hb2 hb01
  go_wp2_with fail
  refine (ref_Check _ _ _).mono ?_
  rintro r w3 ⟨rfl, hb3⟩
  have hb03 := hb02.trans (hb3.mono hb02.size)
  go_wp2
  go_ret
  exact ⟨rfl, hb03⟩
theorem top_long (e f : Int) (A : Option Addr) (l : List Nat) (c : Nat) (w : World) (hT : Tab w) (hc : chkF e f = 0) (hlong : 65536 < l.length) :
    Calls Tryd.prog 3 #[.agg #[.int .i64 e, .int .i64 f], .slice A l.length c] w (Says w (.bool true)) := by
  have HC := Lib.hid hc
  have hg : decide ((65536 : Int) < ((l.length : Nat) : Int)) = true := by simp; omega
  have hP := fun w1 (hT1 : Tab w1) => pack_Pack 11 52 none [] 0 0 rfl w1 (by simp) (fun h => by simp at h) hT1 (cell_lt (hT1 0 (by decide)))
  rw [packS_nil] at hP
  clear hc hlong
  go_enter Tryd.func3, Tryd.ntmps3
  go_wp2_with fail
  refine (top_double _).mono ?_
  rintro r w1 ⟨rfl, hb1⟩
  have hb01 : Below w.heap.size w w1 := ((Below.refl w.heap.size w).alloc (Nat.le_refl _) _).trans (hb1.mono (by simp))
  have f0 : w1.cell? ⟨w.heap.size, 0, none⟩ = some (.int .i64 e) := by rw [hb1.cell (by simp)]; simp
  have f1 : w1.cell? ⟨w.heap.size, 1, none⟩ = some (.int .i64 f) := by rw [hb1.cell (by simp)]; simp
  clear hb1
  go_wp2_with fail
  refine (hP _ (hT.below hb01)).mono ?_
  rintro r w2 ⟨rfl, hb2⟩
  have hb02 := hb01.trans (hb2.mono hb01.size)
  have g0 := cell_keep hb2 f0
  have g1 := cell_keep hb2 f1
  clear f0 f1 hb2 hb01
  go_wp2_with fail
  refine (ref_Check _ _ _).mono ?_
  rintro r w3 ⟨rfl, hb3⟩
  rw [HC.out]
  have hb03 := hb02.trans (hb3.mono hb02.size)
  go_wp2
  go_ret
  exact ⟨rfl, hb03⟩
theorem top_main (E F : Nat) (hE1 : 2 ≤ E) (hE2 : E ≤ 11) (hF1 : 1 ≤ F) (hF2 : F ≤ 52) (A : Option Addr) (l : List Nat) (c : Nat) (w : World) (hl64 : ∀ v ∈ l, v < 18446744073709551616) (hrd : RdK .u64 w A l) (hT : Tab w) (hl : l.length ≤ 65536) :
    Calls Tryd.prog 3 #[.agg #[.int .i64 (E : Int), .int .i64 (F : Int)], .slice A l.length c] w (Says w (.bool true)) := by
  have HC := Lib.hid (chkF_of hE1 hE2 hF1 hF2)
  have hg : decide ((65536 : Int) < ((l.length : Nat) : Int)) = false := by simp; omega
  have hP := fun w1 (hT1 : Tab w1) => pack_Pack 11 52 none [] 0 0 rfl w1 (by simp) (fun h => by simp at h) hT1 (cell_lt (hT1 0 (by decide)))
  rw [packS_nil] at hP
  go_enter Tryd.func3, Tryd.ntmps3
  go_wp2_with fail
  refine (top_double _).mono ?_
  rintro r w1 ⟨rfl, hb1⟩
  have hb01 : Below w.heap.size w w1 := ((Below.refl w.heap.size w).alloc (Nat.le_refl _) _).trans (hb1.mono (by simp))
  have hz1 : w.heap.size < w1.heap.size := by have := hb1.size; simp at this; omega
  have f0 : w1.cell? ⟨w.heap.size, 0, none⟩ = some (.int .i64 (E : Int)) := by rw [hb1.cell (by simp)]; simp
  have f1 : w1.cell? ⟨w.heap.size, 1, none⟩ = some (.int .i64 (F : Int)) := by rw [hb1.cell (by simp)]; simp
  clear hb1
  go_wp2_with fail
  refine (hP _ (hT.below hb01)).mono ?_
  rintro r w2 ⟨rfl, hb2⟩
  have hb02 := hb01.trans (hb2.mono hb01.size)
  have g0 := cell_keep hb2 f0
  have g1 := cell_keep hb2 f1
  have hz2 := hb2.size
  clear f0 f1 hb2 hb01 hP
  go_wp2_with fail
  refine (ref_Check _ _ _).mono ?_
  rintro r w3 ⟨rfl, hb3⟩
  rw [HC.out]
  have hb03 := hb02.trans (hb3.mono hb02.size)
  have f0 := cell_keep hb3 g0
  have f1 := cell_keep hb3 g1
  have hz3 := hb3.size
  clear g0 g1 hb3 hb02
  go_wp2_with fail
  refine (pack_New _ _ _).mono ?_
  rintro r w4 hna
  unfold NewAns at hna
  rw [if_pos HC.out, Int.toNat_natCast, Int.toNat_natCast] at hna
  obtain ⟨p, rfl, hp, hwr, hb4⟩ := hna
  have hz4 := hb4.size
  have hb04 := hb03.trans (hb4.mono hb03.size)
  have g0 := cell_keep hb4 f0
  have g1 := cell_keep hb4 f1
  have hBw : w.heap.size < w3.heap.size := by omega
  have hTB : 0 < w3.heap.size := Nat.lt_trans (cell_lt (hT 0 (by decide))) hBw
  obtain ⟨B, hB⟩ : ∃ B, B = w3.heap.size := ⟨_, rfl⟩
  rw [← hB] at hp hwr hz4 hBw hTB
  clear f0 f1 hb4 hb03 hB hz1 hz2 hz3
  go_wp2
  go_loopw [9] (fun v9 wr => ∃ i : Nat, i ≤ l.length ∧ v9 = .int .i64 (i : Int) ∧ Wr wr B p E F (l.take i) ∧ B ≤ wr.heap.size ∧ Below w.heap.size w wr ∧ wr.cell? ⟨w.heap.size, 0, none⟩ = some (.int .i64 (E : Int)) ∧ wr.cell? ⟨w.heap.size, 1, none⟩ = some (.int .i64 (F : Int))) (fun v9 _ => l.length - (intOf v9).toNat)
  case atStart => exact ⟨0, Nat.zero_le _, rfl, hwr, hz4, hb04, g0, g1⟩
  case round =>
    clear hwr hb04 hz4 g0 g1
    obtain ⟨i, hi, rfl, hwr, hz, hbl, f0, f1⟩ := hrel
    by_cases hi1 : i < l.length
    · obtain ⟨b0, off, rfl, hcell⟩ := (hrd.below hbl) (by omega)
      have hx := hcell i hi1
      have h64 : nth l i < 18446744073709551616 := by rw [nth_lt _ hi1]; exact hl64 _ (List.getElem_mem hi1)
      have HTK := Lib.hid (take_snoc l i hi1)
      have hti : (l.take i).length = i := by simp; omega
      have hfz := cell_lt hx
      have hf0 := cell_lt f0
      obtain ⟨b, hb⟩ : ∃ b, b = nth l i := ⟨_, rfl⟩
      rw [← hb] at hx h64 HTK
      have his := top_is (E : Int) (F : Int) (b : Int) b rfl h64
      have hg9 : decide (((i : Nat) : Int) < ((l.length : Nat) : Int)) = true := by simp; omega
      have hput := fun w5 (h1 : B ≤ w5.heap.size) (h2 : Tab w5) (h3 : Wr w5 B p E F (l.take i)) => writer_Put w5 B p E F (l.take i) b h64 h1 hE1 hE2 hF1 hF2 h2 hTB h3
      by_cases hfit : fitE E F b = 0
      · have e : ∀ w5, PutAns w5 B p E F (l.take i) b = fun en w' => en = .returned (.int .i64 0) ∧ Wr w' B p E F (l.take i ++ [b]) ∧ Below B w5 w' := by
          intro w5; funext en w'; unfold PutAns; rw [if_pos ⟨hfit, by rw [hti]; omega⟩]
        simp only [e] at hput
        have hd : decide (fitE (E : Int) (F : Int) b = 0) = true := by simpa using hfit
        rw [hd] at his
        clear e hcell hb hti hfit hd h64
        go_wp2
        go_region_held3 (fun w' => w'.cell? ⟨w.heap.size, 0, none⟩ = some (.int .i64 (E : Int)) ∧ w'.cell? ⟨w.heap.size, 1, none⟩ = some (.int .i64 (F : Int)) ∧ w'.cell? ⟨b0, off + i, none⟩ = some (.int .u64 (b : Int)))
          (first | exact ⟨f0, f1, hx⟩ | exact ⟨cell_keep hb5 f0, cell_keep hb5 f1, cell_keep hb5 hx⟩ | go_keep)
          (first
          | (go_at_call 14; (with_reducible refine (his _).mono ?_); rintro r w5 ⟨rfl, hb5⟩)
          | fail)
        all_goals (
          have hx5 : Below wr.heap.size wr w5 := (Below.drew (Below.refl _ _)).trans hb5
          have hz5 := hx5.size
          have hbl5 := hbl.trans (hx5.mono hbl.size)
          have k0 := cell_keep hx5 f0
          have k1 := cell_keep hx5 f1
          have kx := cell_keep hx5 hx
          have hwr5 := hwr.below hx5
          clear hb5 f0 f1 hx hwr
          go_wp2_with fail
          refine (hput w5 (by omega) (hT.below hbl5) hwr5).mono ?_
          rintro r w6 ⟨rfl, hwr6, hb6⟩
          rw [← HTK.out] at hwr6
          have hz6 := hb6.size
          have hbl6 := hbl5.trans (hb6.mono (by omega))
          have m0 : w6.cell? ⟨w.heap.size, 0, none⟩ = some (.int .i64 (E : Int)) := (hb6.cell (p := ⟨w.heap.size, 0, none⟩) hBw).trans k0
          have m1 : w6.cell? ⟨w.heap.size, 1, none⟩ = some (.int .i64 (F : Int)) := (hb6.cell (p := ⟨w.heap.size, 1, none⟩) hBw).trans k1
          clear k0 k1 hwr5 hput hrd
          go_wp2
          go_roundw
          case rel => exact ⟨i + 1, hi1, vi (by omega), hwr6, by omega, hbl6, m0, m1⟩
          case measure => first | (simp [intOf]; done) | (simp [intOf]; omega))
      · have hd : decide (fitE (E : Int) (F : Int) b = 0) = false := by simpa using hfit
        rw [hd] at his
        clear hcell hb hti hfit hd h64 hput
        go_wp2
        go_region_held3 (fun w' => w'.cell? ⟨w.heap.size, 0, none⟩ = some (.int .i64 (E : Int)) ∧ w'.cell? ⟨w.heap.size, 1, none⟩ = some (.int .i64 (F : Int)) ∧ w'.cell? ⟨b0, off + i, none⟩ = some (.int .u64 (b : Int)))
          (first | exact ⟨f0, f1, hx⟩ | exact ⟨cell_keep hb5 f0, cell_keep hb5 f1, cell_keep hb5 hx⟩ | go_keep)
          (first
          | (go_at_call 14; (with_reducible refine (his _).mono ?_); rintro r w5 ⟨rfl, hb5⟩)
          | fail)
        all_goals (
          have hx5 : Below wr.heap.size wr w5 := (Below.drew (Below.refl _ _)).trans hb5
          have hbl5 := hbl.trans (hx5.mono hbl.size)
          go_wp2
          go_ret
          exact ⟨rfl, hbl5⟩)
    · obtain rfl : i = l.length := by omega
      rw [List.take_length] at hwr
      have hg9 : decide (((l.length : Nat) : Int) < ((l.length : Nat) : Int)) = false := by simp
      have hfit : ∀ v ∈ l, v < 2 ^ (1 + E + F) := by obtain ⟨cv, _, _, _, hall, _⟩ := hwr; exact hall
      have hr0 := rowErr_z hE1 hE2 hF1 hF2 hl hfit
      obtain ⟨hN1, hN2⟩ := pack_len (W := 1 + E + F) (by omega) hfit
      have hN3 : l.length * (14 + (1 + E + F)) ≤ 65536 * 78 := Nat.mul_le_mul hl (by omega)
      have hback := unp_back hE1 hE2 hF1 hF2 hfit hl
      have hbt := by8_byte (bs_pack (1 + E + F) l)
      have hs8 := by8_length (packB (1 + E + F) l)
      have hpk := packS_ok hr0
      have hsz := sizeS_ok hr0
      have hBy := fun W (h : Wr W B p E F l) => writer_Bytes W B p E F l h hE2 hF2
      generalize hNe : packB (1 + E + F) l = PB at hN1 hN2 hback hbt hs8 hpk hsz hBy
      clear hNe
      generalize hSe : by8 PB = S at hback hbt hs8 hpk hBy
      clear hSe
      have hSz := bstr_size S
      obtain ⟨N, hNN⟩ : ∃ N, N = PB.length := ⟨_, rfl⟩
      rw [← hNN] at hN1 hN2 hs8 hsz
      have hP := fun W (h : Below w.heap.size w W) => pack_Pack (E : Int) (F : Int) A l l.length c rfl W hl64 (hrd.below h) (hT.below h) (cell_lt (hT.below h 0 (by decide)))
      have hZ := fun W (h : Below w.heap.size w W) => pack_Size (E : Int) (F : Int) A l l.length c rfl W hl64 (hrd.below h) (hT.below h) (cell_lt (hT.below h 0 (by decide)))
      rw [hpk] at hP
      rw [hsz] at hZ
      have hU := fun W => pack_Unpack (E : Int) (F : Int) S hbt W
      rw [hback] at hU
      have hrd' := hrd
      have h8 : wrap64 ((wrap64 (((N : Nat) : Int) + 7)).tdiv 8) = ((S.length : Nat) : Int) := by
        rw [show wrap64 (((N : Nat) : Int) + 7) = ((N + 7 : Nat) : Int) from w64_nat (N + 7) (by omega)]
        rw [show (((N + 7 : Nat) : Int)).tdiv 8 = ((S.length : Nat) : Int) by rw [Int.tdiv_eq_ediv_of_nonneg (by omega)]; omega]
        exact w64_nat _ (by omega)
      have H8 := Lib.hid h8
      clear hpk hsz hback hbt hr0 hfit hN3 hs8 hNN hl64 hrd h8
      go_wp2_with fail
      refine (hP _ hbl).mono ?_
      rintro r w5 ⟨rfl, hb5⟩
      have hb05 := hbl.trans (hb5.mono hbl.size)
      have k0 := cell_keep hb5 f0
      have k1 := cell_keep hb5 f1
      have hwr5 := hwr.below hb5
      clear f0 f1 hwr hb5 hbl hP
      go_wp2_with fail
      refine (hU _).mono ?_
      rintro r w6 ⟨vb, rfl, hown, hb6⟩
      have hb06 := hb05.trans (hb6.mono hb05.size)
      have f0 := cell_keep hb6 k0
      have f1 := cell_keep hb6 k1
      have hwr := hwr5.below hb6
      obtain ⟨A2, c2, rfl⟩ := hown.len.2
      have hrb := hown.rdK
      clear k0 k1 hwr5 hb6 hb05 hU hown
      go_wp2_with fail
      refine (hZ _ hb06).mono ?_
      rintro r w7 ⟨rfl, hb7⟩
      have hb07 := hb06.trans (hb7.mono hb06.size)
      have hwr7 := hwr.below hb7
      have hrb7 := hrb.below hb7
      clear f0 f1 hwr hb7 hb06 hZ hrb
      go_wp2_with fail
      refine (hBy _ hwr7).mono ?_
      rintro r w8 ⟨rfl, hb8⟩
      have hb08 := hb07.trans (hb8.mono hb07.size)
      have hwr8 := hwr7.below hb8
      have hrb8 := hrb7.below hb8
      obtain ⟨cv, hk, _⟩ := hwr8
      have q3 := hk.cell 3
      have q8 := hk.cell 8
      simp only [wrCells] at q3 q8
      clear hwr7 hb8 hb07 hBy hrb7 hk
      have h8 := H8.out
      go_wp2_with fail
      clear h8
      refine (writer_Len p l.length w8 q3 q8).mono ?_
      rintro r w9 ⟨rfl, hb9⟩
      have hb09 := hb08.trans (hb9.mono hb08.size)
      have hrb9 := hrb8.below hb9
      have hrl := hrd'.below hb09
      clear q3 q8 hb9 hb08 hrb8
      go_wp2
      go_loopw [18] (fun v18 wx => ∃ i : Nat, i ≤ l.length ∧ v18 = .int .i64 (i : Int) ∧ ∃ z, wx = w9.drewN z) (fun v18 _ => l.length - (intOf v18).toNat)
      case atStart => exact ⟨0, Nat.zero_le _, rfl, 0, rfl⟩
      case round =>
        obtain ⟨i, hi, rfl, z, rfl⟩ := hrel
        by_cases hi1 : i < l.length
        · obtain ⟨b0, off, rfl, hcell⟩ := hrl (by omega)
          obtain ⟨b1, off1, rfl, hcell1⟩ := hrb9 (by omega)
          have hx := hcell i hi1
          have hx1 := hcell1 i hi1
          have hg9 : decide (((i : Nat) : Int) < ((l.length : Nat) : Int)) = true := by simp; omega
          generalize nth l i = b at hx hx1
          clear hcell hcell1
          go_wp2
          go_quiet (fail)
          go_wp2
          go_roundw
          case rel => exact ⟨i + 1, hi1, vi (by omega), z + nq, by simp⟩
          case measure => first | (simp [intOf]; done) | (simp [intOf]; omega)
        · obtain rfl : i = l.length := by omega
          go_wp2
          go_ret
          exact ⟨rfl, bdn hb09 _⟩
theorem top_walk (e f : Int) (A : Option Addr) (l : List Nat) (n c : Nat) (hn : n = l.length) (w : World) (hl64 : ∀ v ∈ l, v < 18446744073709551616) (hrd : RdK .u64 w A l) (hT : Tab w) :
    Calls Tryd.prog 3 #[.agg #[.int .i64 e, .int .i64 f], .slice A n c] w (Says w (.bool true)) := by
  by_cases hc : chkF e f = 0
  · subst hn
    by_cases hlong : 65536 < l.length
    · exact top_long e f A l c w hT hc hlong
    · obtain ⟨E, F, rfl, rfl, hE1, hE2, hF1, hF2⟩ := chk_ok hc
      exact top_main E F hE1 hE2 hF1 hF2 A l c w hl64 hrd hT (by omega)
  · exact top_form e f A l n c w hT hc
end Go.Proofs.YtefhannaofknnaaDoor
