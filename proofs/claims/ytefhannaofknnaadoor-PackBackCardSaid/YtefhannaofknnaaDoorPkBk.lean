/- Walk: PackBack. -/
import Derived.Test.YtefhannaofknnaaDoorPkAw
namespace Go.Proofs.YtefhannaofknnaaDoor
open Go.RowKit
set_option linter.unusedVariables false
set_option linter.unusedSimpArgs false
set_option maxHeartbeats 4000000
set_option maxRecDepth 100000

theorem bstr_push0 (S : List Nat) : bstr S ++ ⟨#[0]⟩ = bstr (S ++ [0]) := by
  apply ByteArray.ext
  simp [bstr]
theorem bstr_nil : bstr [] = ⟨#[]⟩ := rfl
theorem back_long (e f : Int) (A : Option Addr) (l : List Nat) (c : Nat) (cut : Int) (w : World) (hT : Tab w) (hl : 3000 < l.length) :
    Calls Tryd.prog 6 #[.agg #[.int .i64 e, .int .i64 f], .slice A l.length c, .int .i64 cut] w (Says w (.bool true)) := by
  have hg : decide ((3000 : Int) < ((l.length : Nat) : Int)) = true := by simp; omega
  clear hl
  go_enter Tryd.func6, Tryd.ntmps6
  go_wp2_with fail
  have hb0 : Below w.heap.size w (w.alloc (.cells #[.int .i64 e, .int .i64 f] 23)) := (Below.refl w.heap.size w).alloc (Nat.le_refl _) _
  refine (awake_any _ (hT.below hb0)).mono ?_
  rintro r w1 ⟨rfl, hb1⟩
  have hb01 := hb0.trans (hb1.mono (by simp))
  go_wp2
  go_ret
  exact ⟨rfl, hb01⟩
theorem back_bad (e f : Int) (A : Option Addr) (l : List Nat) (c : Nat) (cut : Int) (w : World) (hl64 : ∀ v ∈ l, v < 18446744073709551616) (hrd : RdK .u64 w A l) (hT : Tab w) (hl : l.length ≤ 3000) (hr : rowErr e f l ≠ 0) :
    Calls Tryd.prog 6 #[.agg #[.int .i64 e, .int .i64 f], .slice A l.length c, .int .i64 cut] w (Says w (.bool true)) := by
  have hg : decide ((3000 : Int) < ((l.length : Nat) : Int)) = false := by simp; omega
  have hp : packS e f l = (bstr [], rowErr e f l) := by unfold packS; rw [if_neg hr]
  have hz : sizeS e f l = (0, rowErr e f l) := by unfold sizeS; rw [if_neg hr]
  rw [bstr_nil] at hp
  have hP := fun W (h : Below w.heap.size w W) => pack_Pack e f A l l.length c rfl W hl64 (hrd.below h) (hT.below h) (cell_lt (hT.below h 0 (by decide)))
  have hZ := fun W (h : Below w.heap.size w W) => pack_Size e f A l l.length c rfl W hl64 (hrd.below h) (hT.below h) (cell_lt (hT.below h 0 (by decide)))
  rw [hp] at hP
  rw [hz] at hZ
  generalize rowErr e f l = g at hr hP hZ
  have hg1 : (g != 0) = true := by simpa using hr
  clear hl hp hz hr
  go_enter Tryd.func6, Tryd.ntmps6
  go_wp2_with fail
  have hb0 : Below w.heap.size w (w.alloc (.cells #[.int .i64 e, .int .i64 f] 23)) := (Below.refl w.heap.size w).alloc (Nat.le_refl _) _
  refine (awake_any _ (hT.below hb0)).mono ?_
  rintro r w1 ⟨rfl, hb1⟩
  have hb01 := hb0.trans (hb1.mono (by simp))
  have f0 : w1.cell? ⟨w.heap.size, 0, none⟩ = some (.int .i64 e) := by rw [hb1.cell (by simp)]; simp
  have f1 : w1.cell? ⟨w.heap.size, 1, none⟩ = some (.int .i64 f) := by rw [hb1.cell (by simp)]; simp
  clear hb0 hb1
  go_wp2_with fail
  refine (hP _ hb01).mono ?_
  rintro r w2 ⟨rfl, hb2⟩
  have hb02 := hb01.trans (hb2.mono hb01.size)
  have g0 := cell_keep hb2 f0
  have g1 := cell_keep hb2 f1
  clear hb01 hb2 f0 f1 hP
  go_wp2_with fail
  refine (hZ _ hb02).mono ?_
  rintro r w3 ⟨rfl, hb3⟩
  have hb03 := hb02.trans (hb3.mono hb02.size)
  go_wp2
  go_ret
  exact ⟨rfl, hb03⟩
/-- What the cut is, brought into the string. -/
theorem cut_neg {cut : Int} (h : cut < 0) {n : Nat} (hn : 0 < n) : ∃ k : Nat, k < n ∧ -((cut + 1).tmod (n : Int)) = (k : Int) := by
  rw [← Int.neg_tmod]
  have h3 : Int.tmod (-(cut + 1)) (n : Int) = (-(cut + 1)) % (n : Int) := Int.tmod_eq_emod_of_nonneg (by omega)
  have h4 := Int.emod_nonneg (-(cut + 1)) (show (n : Int) ≠ 0 by omega)
  have h5 := Int.emod_lt_of_pos (-(cut + 1)) (show (0 : Int) < (n : Int) by omega)
  exact ⟨((-(cut + 1)) % (n : Int)).toNat, by omega, by rw [h3]; omega⟩
theorem cut_pos {cut : Int} (h : ¬ cut < 0) {n : Nat} (hn : 0 < n) : ∃ k : Nat, k < n ∧ cut.tmod (n : Int) = (k : Int) := by
  have h3 : Int.tmod cut (n : Int) = cut % (n : Int) := Int.tmod_eq_emod_of_nonneg (by omega)
  have h4 := Int.emod_nonneg cut (show (n : Int) ≠ 0 by omega)
  have h5 := Int.emod_lt_of_pos cut (show (0 : Int) < (n : Int) by omega)
  exact ⟨(cut % (n : Int)).toNat, by omega, by rw [h3]; omega⟩
theorem back_q (L E F N : Nat) (h : N ≤ 17 + L * (14 + (1 + E + F))) (hL : L ≤ 3000) (hE : E ≤ 11) (hF : F ≤ 52) : decide (wrap64 (17 + wrap64 ((L : Int) * (15 + (E : Int) + (F : Int)))) < (N : Int)) = false := by
  have hM3 : L * (14 + (1 + E + F)) ≤ 3000 * 78 := Nat.mul_le_mul hL (by omega)
  have e : (L : Int) * (15 + (E : Int) + (F : Int)) = ((L * (14 + (1 + E + F)) : Nat) : Int) := by
    rw [show 14 + (1 + E + F) = 15 + E + F by omega, Int.natCast_mul, Int.natCast_add, Int.natCast_add]; rfl
  rw [e]
  clear e
  generalize L * (14 + (1 + E + F)) = M at h hM3
  rw [w64_nat M (by omega), show (17 : Int) + (M : Int) = ((17 + M : Nat) : Int) by omega, w64_nat (17 + M) (by omega)]
  simp; omega
theorem back_main (E F : Nat) (hE1 : 2 ≤ E) (hE2 : E ≤ 11) (hF1 : 1 ≤ F) (hF2 : F ≤ 52) (A : Option Addr) (l : List Nat) (c : Nat) (cut : Int) (w : World) (hl64 : ∀ v ∈ l, v < 18446744073709551616) (hrd : RdK .u64 w A l) (hT : Tab w) (hl : l.length ≤ 3000) (hfit : ∀ v ∈ l, v < 2 ^ (1 + E + F)) (hc1 : -9223372036854775808 ≤ cut) (hc2 : cut ≤ 9223372036854775807) :
    Calls Tryd.prog 6 #[.agg #[.int .i64 (E : Int), .int .i64 (F : Int)], .slice A l.length c, .int .i64 cut] w (Says w (.bool true)) := by
  have hg : decide ((3000 : Int) < ((l.length : Nat) : Int)) = false := by simp; omega
  have hr0 := rowErr_z hE1 hE2 hF1 hF2 (by omega) hfit
  obtain ⟨hN1, hN2⟩ := pack_len (W := 1 + E + F) (by omega) hfit
  have hN3 : l.length * (14 + (1 + E + F)) ≤ 3000 * 78 := Nat.mul_le_mul hl (by omega)
  have hback := unp_back hE1 hE2 hF1 hF2 hfit (by omega)
  have hlong := unp_longer hE1 hE2 hF1 hF2 hfit (by omega)
  have hcut := unp_cut hE1 hE2 hF1 hF2 hfit (by omega)
  have hbt := by8_byte (bs_pack (1 + E + F) l)
  have hs8 := by8_length (packB (1 + E + F) l)
  have hpk := packS_ok hr0
  have hsz := sizeS_ok hr0
  generalize hNe : packB (1 + E + F) l = PB at hN1 hN2 hback hlong hcut hbt hs8 hpk hsz
  clear hNe
  generalize hSe : by8 PB = S at hback hlong hcut hbt hs8 hpk
  clear hSe
  have hSz := bstr_size S
  obtain ⟨N, hNN⟩ : ∃ N, N = PB.length := ⟨_, rfl⟩
  rw [← hNN] at hN1 hN2 hs8 hsz hlong
  clear hNN
  have hP := fun W (h : Below w.heap.size w W) => pack_Pack (E : Int) (F : Int) A l l.length c rfl W hl64 (hrd.below h) (hT.below h) (cell_lt (hT.below h 0 (by decide)))
  have hZ := fun W (h : Below w.heap.size w W) => pack_Size (E : Int) (F : Int) A l l.length c rfl W hl64 (hrd.below h) (hT.below h) (cell_lt (hT.below h 0 (by decide)))
  rw [hpk] at hP
  rw [hsz] at hZ
  have hU := fun W => pack_Unpack (E : Int) (F : Int) S hbt W
  rw [hback] at hU
  have hU2 := fun W => pack_Unpack (E : Int) (F : Int) (S ++ [0]) (fun x hx => by rcases List.mem_append.1 hx with h | h; exact hbt x h; simp at h; omega) W
  rw [hlong, ← bstr_push0] at hU2
  have hU3 : ∀ k, k < S.length → ∀ W, Calls Tryd.prog 16 #[.agg #[.int .i64 (E : Int), .int .i64 (F : Int)], .string ((bstr S).extract 0 k)] W (UnpAns W ([], (k : Int), 270)) := fun k hk W => by
    have := pack_Unpack (E : Int) (F : Int) (S.take k) (Bts.take hbt k) W
    rw [hcut k hk] at this
    rw [bstr_extract, List.drop_zero, Nat.sub_zero]
    exact this
  have hm2 := back_q l.length E F N hN2 hl hE2 hF2
  have hm3 : decide ((N : Int) < 17 + (l.length : Int)) = false := by simp; omega
  have h8 : wrap64 ((wrap64 (((N : Nat) : Int) + 7)).tdiv 8) = ((S.length : Nat) : Int) := by
    rw [show wrap64 (((N : Nat) : Int) + 7) = ((N + 7 : Nat) : Int) from w64_nat (N + 7) (by omega)]
    rw [show (((N + 7 : Nat) : Int)).tdiv 8 = ((S.length : Nat) : Int) by rw [Int.tdiv_eq_ediv_of_nonneg (by omega)]; omega]
    exact w64_nat _ (by omega)
  have H8 := Lib.hid h8
  clear h8
  have h9 : (((N : Int) / 8) != wrap64 ((N : Int) / 8)) = false := by
    rw [show (N : Int) / 8 = ((N / 8 : Nat) : Int) by omega, w64_nat _ (by omega)]
    simp
  have H9 := Lib.hid h9
  clear h9
  have hS0 : 0 < S.length := by omega
  have hS1 : S.length ≤ 1000000 := by omega
  have hSA := fun W A2 c2 (h : Below w.heap.size w W) (h2 : RdK .u64 W A2 l) => law_same A A2 l l l.length l.length c c2 rfl rfl (by omega) W (hrd.below h) h2
  have hdl : decide (l = l) = true := by simp
  rw [hdl] at hSA
  clear hdl hN2 hN3 hs8 hcut hback hlong hbt hpk hsz hfit hr0
  go_enter Tryd.func6, Tryd.ntmps6
  go_wp2_with fail
  have hb0 : Below w.heap.size w (w.alloc (.cells #[.int .i64 (E : Int), .int .i64 (F : Int)] 23)) := (Below.refl w.heap.size w).alloc (Nat.le_refl _) _
  refine (awake_any _ (hT.below hb0)).mono ?_
  rintro r w1 ⟨rfl, hb1⟩
  have hb01 := hb0.trans (hb1.mono (by simp))
  have f0 : w1.cell? ⟨w.heap.size, 0, none⟩ = some (.int .i64 (E : Int)) := by rw [hb1.cell (by simp)]; simp
  have f1 : w1.cell? ⟨w.heap.size, 1, none⟩ = some (.int .i64 (F : Int)) := by rw [hb1.cell (by simp)]; simp
  clear hb0 hb1
  go_wp2_with fail
  refine (hP _ hb01).mono ?_
  rintro r w2 ⟨rfl, hb2⟩
  have hb02 := hb01.trans (hb2.mono hb01.size)
  have g0 := cell_keep hb2 f0
  have g1 := cell_keep hb2 f1
  clear hb01 hb2 f0 f1 hP
  go_wp2_with fail
  refine (hZ _ hb02).mono ?_
  rintro r w3 ⟨rfl, hb3⟩
  have hb03 := hb02.trans (hb3.mono hb02.size)
  have f0 := cell_keep hb3 g0
  have f1 := cell_keep hb3 g1
  have h8 := H8.out
  clear hb02 hb3 g0 g1 hZ
  go_wp2_with fail
  clear h8 hm2 hm3
  refine (hU _).mono ?_
  rintro r w4 ⟨vb, rfl, hown, hb4⟩
  have hb04 := hb03.trans (hb4.mono hb03.size)
  have g0 := cell_keep hb4 f0
  have g1 := cell_keep hb4 f1
  obtain ⟨A2, c2, rfl⟩ := hown.len.2
  have hrb := hown.rdK
  clear f0 f1 hb4 hb03 hU hown
  go_wp2_with fail
  refine (hSA _ _ _ hb04 hrb).mono ?_
  rintro r w5 ⟨rfl, hb5⟩
  have hb05 := hb04.trans (hb5.mono hb04.size)
  have f0 := cell_keep hb5 g0
  have f1 := cell_keep hb5 g1
  clear g0 g1 hb5 hb04 hSA hrb
  go_wp2_with fail
  refine (hU2 _).mono ?_
  rintro r w6 ⟨vb, rfl, hown, hb6⟩
  have hb06 := hb05.trans (hb6.mono hb05.size)
  have g0 := cell_keep hb6 f0
  have g1 := cell_keep hb6 f1
  obtain ⟨A3, c3, rfl⟩ := hown.len.2
  have h9 := H9.out
  clear f0 f1 hb6 hb05 hU2 hown
  by_cases hcc : cut < 0
  · have hg2 : decide (cut < 0) = true := by simpa using hcc
    obtain ⟨k, hk, hkv⟩ := cut_neg hcc hS0
    have hk1 : (0 : Int) ≤ (k : Int) := by omega
    have hk2 : (k : Int) ≤ ((S.length : Nat) : Int) := by omega
    go_wp2
    go_region_held3 (fun w' => w'.cell? ⟨w.heap.size, 0, none⟩ = some (.int .i64 (E : Int)) ∧ w'.cell? ⟨w.heap.size, 1, none⟩ = some (.int .i64 (F : Int)))
      (first | exact ⟨g0, g1⟩ | exact ⟨cell_keep hb7 g0, cell_keep hb7 g1⟩ | go_keep)
      (first
      | (go_at_call 16; (with_reducible refine (hU3 k hk _).mono ?_); rintro r w7 ⟨vb, rfl, hown7, hb7⟩)
      | fail)
    all_goals (
      have hx7 : Below w6.heap.size w6 w7 := (Below.drew (Below.refl _ _)).trans hb7
      have hb07 := hb06.trans (hx7.mono hb06.size)
      go_wp2
      go_ret
      exact ⟨rfl, hb07⟩)
  · have hg2 : decide (cut < 0) = false := by simpa using hcc
    obtain ⟨k, hk, hkv⟩ := cut_pos hcc hS0
    have hk1 : (0 : Int) ≤ (k : Int) := by omega
    have hk2 : (k : Int) ≤ ((S.length : Nat) : Int) := by omega
    go_wp2
    go_region_held3 (fun w' => w'.cell? ⟨w.heap.size, 0, none⟩ = some (.int .i64 (E : Int)) ∧ w'.cell? ⟨w.heap.size, 1, none⟩ = some (.int .i64 (F : Int)))
      (first | exact ⟨g0, g1⟩ | exact ⟨cell_keep hb7 g0, cell_keep hb7 g1⟩ | go_keep)
      (first
      | (go_at_call 16; (with_reducible refine (hU3 k hk _).mono ?_); rintro r w7 ⟨vb, rfl, hown7, hb7⟩)
      | fail)
    all_goals (
      have hx7 : Below w6.heap.size w6 w7 := (Below.drew (Below.refl _ _)).trans hb7
      have hb07 := hb06.trans (hx7.mono hb06.size)
      go_wp2
      go_ret
      exact ⟨rfl, hb07⟩)
theorem back_walk (e f : Int) (A : Option Addr) (l : List Nat) (n c : Nat) (cut : Int) (hn : n = l.length) (w : World) (hl64 : ∀ v ∈ l, v < 18446744073709551616) (hrd : RdK .u64 w A l) (hT : Tab w) (hc1 : -9223372036854775808 ≤ cut) (hc2 : cut ≤ 9223372036854775807) :
    Calls Tryd.prog 6 #[.agg #[.int .i64 e, .int .i64 f], .slice A n c, .int .i64 cut] w (Says w (.bool true)) := by
  subst hn
  by_cases hl : 3000 < l.length
  · exact back_long e f A l c cut w hT hl
  · by_cases hr : rowErr e f l = 0
    · obtain ⟨E, F, rfl, rfl, hE1, hE2, hF1, hF2, _, hfit⟩ := rowErr_ok hr
      exact back_main E F hE1 hE2 hF1 hF2 A l c cut w hl64 hrd hT (by omega) hfit hc1 hc2
    · exact back_bad e f A l c cut w hl64 hrd hT (by omega) hr
end Go.Proofs.YtefhannaofknnaaDoor
