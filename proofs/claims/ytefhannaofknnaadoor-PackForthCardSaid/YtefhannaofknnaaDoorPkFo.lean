/- Walk: PackForth. -/
import Derived.Test.YtefhannaofknnaaDoorPkAw
namespace Go.Proofs.YtefhannaofknnaaDoor
open Go.RowKit
set_option linter.unusedVariables false
set_option linter.unusedSimpArgs false
set_option maxHeartbeats 4000000
set_option maxRecDepth 100000

theorem forth_long (e f : Int) (s : List Nat) (w : World) (hT : Tab w) (hl : 20000 < s.length) :
    Calls Tryd.prog 7 #[.agg #[.int .i64 e, .int .i64 f], .string (bstr s)] w (Says w (.bool true)) := by
  have hsz := bstr_size s
  have hg : decide ((20000 : Int) < ((s.length : Nat) : Int)) = true := by simp; omega
  clear hl
  go_enter Tryd.func7, Tryd.ntmps7
  go_wp2_with fail
  have hb0 : Below w.heap.size w (w.alloc (.cells #[.int .i64 e, .int .i64 f] 23)) := (Below.refl w.heap.size w).alloc (Nat.le_refl _) _
  refine (awake_any _ (hT.below hb0)).mono ?_
  rintro r w1 ⟨rfl, hb1⟩
  have hb01 := hb0.trans (hb1.mono (by simp))
  go_wp2
  go_ret
  exact ⟨rfl, hb01⟩
theorem forth_bad (e f : Int) (s : List Nat) (hs : Bts s) (w : World) (hT : Tab w) (hl : s.length ≤ 20000) (h3 : (unpS e f s).2.2 ≠ 0) :
    Calls Tryd.prog 7 #[.agg #[.int .i64 e, .int .i64 f], .string (bstr s)] w (Says w (.bool true)) := by
  have hsz := bstr_size s
  have hg : decide ((20000 : Int) < ((s.length : Nat) : Int)) = false := by simp; omega
  rcases unp_forth (e := e) (f := f) hs with h1 | ⟨_, h1, h2, h4⟩
  · exact absurd h1.1 h3
  have hU := fun W => pack_Unpack e f s hs W
  generalize unpS e f s = R at hU h1 h2 h3 h4
  obtain ⟨L, a, g⟩ := R
  simp only at h1 h2 h3 h4
  subst h1
  have hg1 : (g != 0) = true := by simpa using h3
  have hg2 : decide ((0 : Int) ≤ a) = true := by simpa using h2
  have hg3 : decide (a ≤ ((s.length : Nat) : Int)) = true := by simpa using h4
  clear h2 h3 h4
  go_enter Tryd.func7, Tryd.ntmps7
  go_wp2_with fail
  have hb0 : Below w.heap.size w (w.alloc (.cells #[.int .i64 e, .int .i64 f] 23)) := (Below.refl w.heap.size w).alloc (Nat.le_refl _) _
  refine (awake_any _ (hT.below hb0)).mono ?_
  rintro r w1 ⟨rfl, hb1⟩
  have hb01 := hb0.trans (hb1.mono (by simp))
  have f0 : w1.cell? ⟨w.heap.size, 0, none⟩ = some (.int .i64 e) := by rw [hb1.cell (by simp)]; simp
  have f1 : w1.cell? ⟨w.heap.size, 1, none⟩ = some (.int .i64 f) := by rw [hb1.cell (by simp)]; simp
  clear hb1 hb0
  go_wp2_with fail
  refine (hU _).mono ?_
  rintro r w2 ⟨vb, rfl, hown, hb2⟩
  have hb02 := hb01.trans (hb2.mono hb01.size)
  obtain ⟨A2, c2, rfl⟩ := hown.len.2
  clear hown hU hb2 hb01 f0 f1
  go_wp2
  go_ret
  exact ⟨rfl, hb02⟩
theorem forth_main (e f : Int) (s : List Nat) (hs : Bts s) (w : World) (hT : Tab w) (hl : s.length ≤ 20000) (h3 : (unpS e f s).2.2 = 0) :
    Calls Tryd.prog 7 #[.agg #[.int .i64 e, .int .i64 f], .string (bstr s)] w (Says w (.bool true)) := by
  have hsz := bstr_size s
  have hg : decide ((20000 : Int) < ((s.length : Nat) : Int)) = false := by simp; omega
  rcases unp_forth (e := e) (f := f) hs with hok | hno
  case inr => exact absurd h3 hno.1
  obtain ⟨_, h1, h2, h4⟩ := hok
  have hU := fun W => pack_Unpack e f s hs W
  generalize unpS e f s = R at hU h1 h2 h3 h4
  obtain ⟨L, a, g⟩ := R
  simp only at h1 h2 h3 h4
  subst h3 h4
  obtain ⟨E, F, rfl, rfl, hE1, hE2, hF1, hF2, hL, hfit⟩ := rowErr_ok h1
  rw [Int.toNat_natCast, Int.toNat_natCast] at h2
  have hpk := packS_ok h1
  rw [h2] at hpk
  have h64 : ∀ v ∈ L, v < 18446744073709551616 := fun v hv => Nat.lt_of_lt_of_le (hfit v hv) (Nat.pow_le_pow_right (n := 2) (j := 64) (by decide) (by omega))
  have hP := fun W A c (hr : RdK .u64 W A L) (h : Tab W) => pack_Pack (E : Int) (F : Int) A L L.length c rfl W h64 hr h (cell_lt (h 0 (by decide)))
  rw [hpk] at hP
  clear h1 h2 hpk
  go_enter Tryd.func7, Tryd.ntmps7
  go_wp2_with fail
  have hb0 : Below w.heap.size w (w.alloc (.cells #[.int .i64 (E : Int), .int .i64 (F : Int)] 23)) := (Below.refl w.heap.size w).alloc (Nat.le_refl _) _
  refine (awake_any _ (hT.below hb0)).mono ?_
  rintro r w1 ⟨rfl, hb1⟩
  have hb01 := hb0.trans (hb1.mono (by simp))
  have f0 : w1.cell? ⟨w.heap.size, 0, none⟩ = some (.int .i64 (E : Int)) := by rw [hb1.cell (by simp)]; simp
  have f1 : w1.cell? ⟨w.heap.size, 1, none⟩ = some (.int .i64 (F : Int)) := by rw [hb1.cell (by simp)]; simp
  clear hb1 hb0
  go_wp2_with fail
  refine (hU _).mono ?_
  rintro r w2 ⟨vb, rfl, hown, hb2⟩
  have hb02 := hb01.trans (hb2.mono hb01.size)
  obtain ⟨A2, c2, rfl⟩ := hown.len.2
  have hrb := hown.rdK
  have g0 := cell_keep hb2 f0
  have g1 := cell_keep hb2 f1
  clear hown hU hb2 hb01 f0 f1
  go_wp2
  go_loopw [9] (fun v9 wr => ∃ i : Nat, i ≤ L.length ∧ v9 = .int .i64 (i : Int) ∧ RdK .u64 wr A2 L ∧ Below w.heap.size w wr ∧ wr.cell? ⟨w.heap.size, 0, none⟩ = some (.int .i64 (E : Int)) ∧ wr.cell? ⟨w.heap.size, 1, none⟩ = some (.int .i64 (F : Int))) (fun v9 _ => L.length - (intOf v9).toNat)
  case atStart => exact ⟨0, Nat.zero_le _, rfl, hrb, hb02, g0, g1⟩
  case round =>
    clear hrb hb02 g0 g1
    obtain ⟨i, hi, rfl, hrb, hbl, f0, f1⟩ := hrel
    by_cases hi1 : i < L.length
    · obtain ⟨b0, off, rfl, hcell⟩ := hrb (by omega)
      have hx := hcell i hi1
      have hv : nth L i < 2 ^ (1 + E + F) := by rw [nth_lt _ hi1]; exact hfit _ (List.getElem_mem hi1)
      have hv64 : nth L i < 18446744073709551616 := by rw [nth_lt _ hi1]; exact h64 _ (List.getElem_mem hi1)
      have hg9 : decide (((i : Nat) : Int) < ((L.length : Nat) : Int)) = true := by simp; omega
      generalize nth L i = b at hx hv hv64
      have hF := forms_Fits (E : Int) (F : Int) (b : Int) b rfl hv64
      rw [(fit_lt ⟨hE1, hE2⟩ ⟨hF1, hF2⟩).2 hv] at hF
      clear hcell hv hv64
      go_wp2
      go_region_held3 (fun w' => w'.cell? ⟨w.heap.size, 0, none⟩ = some (.int .i64 (E : Int)) ∧ w'.cell? ⟨w.heap.size, 1, none⟩ = some (.int .i64 (F : Int)) ∧ w'.cell? ⟨b0, off + i, none⟩ = some (.int .u64 (b : Int)))
        (first | exact ⟨f0, f1, hx⟩ | exact ⟨cell_keep hb5 f0, cell_keep hb5 f1, cell_keep hb5 hx⟩ | go_keep)
        (first
        | (go_at_call 26; (with_reducible refine (hF _).mono ?_); rintro r w5 ⟨rfl, hb5⟩)
        | fail)
      all_goals (
        have hx5 : Below wr.heap.size wr w5 := (Below.drew (Below.refl _ _)).trans hb5
        have hbl5 := hbl.trans (hx5.mono hbl.size)
        have k0 := cell_keep hx5 f0
        have k1 := cell_keep hx5 f1
        have hrb5 := hrb.below hx5
        clear hb5 f0 f1 hx hrb
        go_wp2
        go_roundw
        case rel => exact ⟨i + 1, hi1, vi (by omega), hrb5, hbl5, k0, k1⟩
        case measure => first | (simp [intOf]; done) | (simp [intOf]; omega))
    · obtain rfl : i = L.length := by omega
      have hg9 : decide (((L.length : Nat) : Int) < ((L.length : Nat) : Int)) = false := by simp
      go_wp2_with fail
      refine (hP _ _ _ hrb (hT.below hbl)).mono ?_
      rintro r w5 ⟨rfl, hb5⟩
      have hb05 := hbl.trans (hb5.mono hbl.size)
      clear f0 f1 hrb hb5 hbl
      go_wp2
      go_ret
      exact ⟨rfl, hb05⟩
theorem forth_walk (e f : Int) (s : List Nat) (hs : Bts s) (w : World) (hT : Tab w) :
    Calls Tryd.prog 7 #[.agg #[.int .i64 e, .int .i64 f], .string (bstr s)] w (Says w (.bool true)) := by
  by_cases hl : 20000 < s.length
  · exact forth_long e f s w hT hl
  · by_cases h3 : (unpS e f s).2.2 = 0
    · exact forth_main e f s hs w hT (by omega) h3
    · exact forth_bad e f s hs w hT (by omega) h3
theorem forth_any (e f : Int) (s : ByteArray) (w : World) (hT : Tab w) :
    Calls Tryd.prog 7 #[.agg #[.int .i64 e, .int .i64 f], .string s] w (Says w (.bool true)) := by
  have := forth_walk e f (sb s) (sb_bts s) w hT
  rwa [bstr_sb] at this
end Go.Proofs.YtefhannaofknnaaDoor
