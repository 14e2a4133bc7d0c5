/- Walk: PackBytes. -/
import Derived.Test.YtefhannaofknnaaDoorPkAw
import Derived.Test.YtefhannaofknnaaDoorPkRv
namespace Go.Proofs.YtefhannaofknnaaDoor
open Go.RowKit
set_option linter.unusedVariables false
set_option linter.unusedSimpArgs false
set_option maxHeartbeats 4000000
set_option maxRecDepth 100000

theorem unp_len {e f : Int} {s : List Nat} (hs : Bts s) : (unpS e f s).1.length ≤ 65536 := by
  rcases unp_forth (e := e) (f := f) hs with ⟨_, h1, _⟩ | ⟨_, h1, _⟩
  · obtain ⟨_, _, _, _, _, _, _, _, hl, _⟩ := rowErr_ok h1
    exact hl
  · rw [h1]; simp
theorem bytes_mid (e f : Int) (s : List Nat) (w : World) (hT : Tab w) (h1 : 20000 < s.length) (h2 : s.length ≤ 1048576) :
    Calls Tryd.prog 5 #[.agg #[.int .i64 e, .int .i64 f], .string (bstr s)] w (Says w (.bool true)) := by
  have hsz := bstr_size s
  have hg : decide ((20000 : Int) < ((s.length : Nat) : Int)) = true := by simp; omega
  have hg2 : decide (((s.length : Nat) : Int) ≤ (1048576 : Int)) = true := by simp; omega
  clear h1
  go_enter Tryd.func5, Tryd.ntmps5
  go_wp2_with fail
  have hb0 : Below w.heap.size w (w.alloc (.cells #[.int .i64 e, .int .i64 f] 23)) := (Below.refl w.heap.size w).alloc (Nat.le_refl _) _
  refine (awake_any _ (hT.below hb0)).mono ?_
  rintro r w1 ⟨rfl, hb1⟩
  have hb01 := hb0.trans (hb1.mono (by simp))
  go_wp2
  go_ret
  exact ⟨rfl, hb01⟩
/-- A row of the call's own that is written over: its block. -/
def Mine (w : World) (B : Nat) (A : Option Addr) (n : Nat) : Prop := 0 < n → ∃ g cur, A = some ⟨g, 0, none⟩ ∧ B ≤ g ∧ Blk w g 34 cur ∧ n ≤ cur.size
theorem OwnR.mine {w : World} {B : Nat} {A : Option Addr} {n c : Nat} {l : List Nat} (h : OwnR w B 34 .u64 (.slice A n c) l) : Mine w B A l.length := fun hn => by
  rcases h.form with ⟨_, hl⟩ | ⟨g, cap, cur, e, hg, hk, h1, h2, _⟩
  · rw [hl] at hn; exact absurd hn (Nat.lt_irrefl _)
  · injection e with e1 e2 e3
    exact ⟨g, cur, e1, hg, hk, by omega⟩
theorem bytes_main (e f : Int) (s : List Nat) (hs : Bts s) (w : World) (hT : Tab w) (hl : s.length ≤ 20000 ∨ 1048576 < s.length) :
    Calls Tryd.prog 5 #[.agg #[.int .i64 e, .int .i64 f], .string (bstr s)] w (Says w (.bool true)) := by
  have hsz := bstr_size s
  have hg : (decide ((20000 : Int) < ((s.length : Nat) : Int)) = false) ∨ (decide ((20000 : Int) < ((s.length : Nat) : Int)) = true ∧ decide (((s.length : Nat) : Int) ≤ (1048576 : Int)) = false ∧ ¬ s.length ≤ 1048576 ∧ 20000 < s.length) := by
    rcases hl with h | h
    · left; simp; omega
    · right; refine ⟨by simp; omega, by simp; omega, by omega, by omega⟩
  have hU := fun W => pack_Unpack e f s hs W
  have hR := fun W => ref_Unpack e f s hs W hl
  have hlen := unp_len (e := e) (f := f) hs
  generalize unpS e f s = R at hU hR hlen
  obtain ⟨L, a, g⟩ := R
  simp only at hlen
  have hSA := fun W A' A'' c' c'' hr hr2 => law_same A' A'' L L L.length L.length c' c'' rfl rfl (by omega) W hr hr2
  have hdl : decide (L = L) = true := by simp
  rw [hdl] at hSA
  clear hdl hl
  rcases hg with d1 | ⟨d1, d2, d3, d4⟩
  all_goals (
    go_enter Tryd.func5, Tryd.ntmps5
    go_wp2_with fail
    have hb0 : Below w.heap.size w (w.alloc (.cells #[.int .i64 e, .int .i64 f] 23)) := (Below.refl w.heap.size w).alloc (Nat.le_refl _) _
    refine (awake_any _ (hT.below hb0)).mono ?_
    rintro r w1 ⟨rfl, hb1⟩
    have hb01 := hb0.trans (hb1.mono (by simp))
    have hz1 : w.heap.size < w1.heap.size := by have := hb1.size; simp at this; omega
    have f0 : w1.cell? ⟨w.heap.size, 0, none⟩ = some (.int .i64 e) := by rw [hb1.cell (by simp)]; simp
    have f1 : w1.cell? ⟨w.heap.size, 1, none⟩ = some (.int .i64 f) := by rw [hb1.cell (by simp)]; simp
    clear hb0 hb1
    go_wp2_with fail
    refine (hU _).mono ?_
    rintro r w2 ⟨v2, rfl, hown2, hb2⟩
    obtain ⟨A2, c2, rfl⟩ := hown2.len.2
    have g0 := cell_keep hb2 f0
    have g1 := cell_keep hb2 f1
    go_wp2_with fail
    refine (hR _).mono ?_
    rintro r w3 ⟨v3, rfl, hown3, hb3⟩
    obtain ⟨A3, c3, rfl⟩ := hown3.len.2
    have hm2 := (hown2.below hb3 (Nat.le_refl _)).mine
    have hr2 := (hown2.below hb3 (Nat.le_refl _)).rdK
    have hlt2 : ∀ g, A2 = some ⟨g, 0, none⟩ → g < w2.heap.size := fun g hg => (hown2.lt g (by rw [hg]; rfl)).2
    have hb13 := hb2.trans (hb3.mono hb2.size)
    have hz2 := hb2.size
    clear hb2 hb3 g0 g1 hown2
    go_wp2_with fail
    refine (hSA _ _ _ _ _ hr2 hown3.rdK).mono ?_
    rintro r w4 ⟨rfl, hb4⟩
    have hm4 : Mine w4 w1.heap.size A2 L.length := fun hn => by
      obtain ⟨g, cur, e1, e2, e3, e4⟩ := hm2 hn
      exact ⟨g, cur, e1, e2, e3.below hb4 e3.lt, e4⟩
    have hown4 := hown3.below hb4 (Nat.le_refl _)
    have hb14 := hb13.trans (hb4.mono hb13.size)
    have hlb : L.length ≤ 65536 := hlen
    clear hm2 hr2 hb4 hb13 hown3
    go_wp2
    go_loopw [13] (fun v13 wr => ∃ i : Nat, i ≤ L.length ∧ v13 = .int .i64 (i : Int) ∧ Mine wr w1.heap.size A2 L.length ∧ OwnR wr w2.heap.size 34 .u64 (.slice A3 L.length c3) L ∧ Below w1.heap.size w1 wr) (fun v13 _ => L.length - (intOf v13).toNat)
    case atStart => exact ⟨0, Nat.zero_le _, rfl, hm4, hown4, hb14⟩
    case round =>
      clear hm4 hown4 hb14
      obtain ⟨i, hi, rfl, hm, hown, hbx⟩ := hrel
      by_cases hi1 : i < L.length
      · have hg9 : decide (((i : Nat) : Int) < ((L.length : Nat) : Int)) = true := by simp; omega
        obtain ⟨g, cur, rfl, hgB, hk, hsz9⟩ := hm (by omega)
        have hc := hk.cell i
        have hf := hk.frozen i
        have hi9 : i < cur.size := by omega
        rw [Array.getElem?_eq_getElem hi9] at hc
        have hgl := hlt2 g rfl
        have hgz := hk.lt
        have hkA := hk.set_ i (.int .u64 99)
        have hmA : Mine (wr.setCell ⟨g, i, none⟩ (.int .u64 99)) w1.heap.size (some ⟨g, 0, none⟩) L.length := fun _ => ⟨g, _, rfl, hgB, hkA, by rw [Array.size_setIfInBounds]; exact hsz9⟩
        have hownA := hown.same (w' := wr.setCell ⟨g, i, none⟩ (.int .u64 99)) (fun g' hg' => by
          have := (hown.lt g' hg').1
          rw [Below.heap_setCell _ _ _ g' (show g' ≠ g by omega)])
        have hbA := hbx.setCell (show w1.heap.size ≤ (⟨g, i, none⟩ : Addr).block from hgB) (.int .u64 99)
        clear hm hk hkA hown hbx
        generalize cur[i] = x9 at hc
        go_wp2
        go_roundw
        case rel => exact ⟨i + 1, hi1, vi (by omega), hmA, hownA, hbA⟩
        case measure => first | (simp [intOf]; done) | (simp [intOf]; omega)
      · obtain rfl : i = L.length := by omega
        have hg9 : decide (((L.length : Nat) : Int) < ((L.length : Nat) : Int)) = false := by simp
        have g0 := (hbx.cell (p := ⟨w.heap.size, 0, none⟩) hz1).trans f0
        have g1 := (hbx.cell (p := ⟨w.heap.size, 1, none⟩) hz1).trans f1
        have hz5 := hbx.size
        clear hm hlt2 hR
        go_wp2_with fail
        refine (hU _).mono ?_
        rintro r w5 ⟨v5, rfl, hown5, hb5⟩
        obtain ⟨A5, c5, rfl⟩ := hown5.len.2
        have hr5 := hown5.rdK
        have hr3 := hown.rdK.below hb5
        have hb05 := hb01.trans ((hbx.trans (hb5.mono hbx.size)).mono hb01.size)
        clear hown5 hown hb5 hbx g0 g1 f0 f1 hb01
        go_wp2_with fail
        refine (hSA _ _ _ _ _ hr5 hr3).mono ?_
        rintro r w6 ⟨rfl, hb6⟩
        have hb06 := hb05.trans (hb6.mono hb05.size)
        clear hb6 hb05
        go_wp2
        go_ret
        exact ⟨rfl, hb06⟩)
theorem bytes_any (e f : Int) (s : ByteArray) (w : World) (hT : Tab w) :
    Calls Tryd.prog 5 #[.agg #[.int .i64 e, .int .i64 f], .string s] w (Says w (.bool true)) := by
  have : Calls Tryd.prog 5 #[.agg #[.int .i64 e, .int .i64 f], .string (bstr (sb s))] w (Says w (.bool true)) := by
    by_cases h1 : 20000 < (sb s).length ∧ (sb s).length ≤ 1048576
    · exact bytes_mid e f (sb s) w hT h1.1 h1.2
    · exact bytes_main e f (sb s) (sb_bts s) w hT (by omega)
  rwa [bstr_sb] at this
end Go.Proofs.YtefhannaofknnaaDoor
