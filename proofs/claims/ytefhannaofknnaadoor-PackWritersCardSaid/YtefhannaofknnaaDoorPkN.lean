/- Walks: Pack, Size. -/
import Derived.Test.YtefhannaofknnaaDoorPkM
namespace Go.Proofs.YtefhannaofknnaaDoor
open Go.RowKit
set_option linter.unusedVariables false
set_option linter.unusedSimpArgs false
set_option maxHeartbeats 4000000
set_option maxRecDepth 100000

theorem rowErr_ok {e f : Int} {l : List Nat} (h : rowErr e f l = 0) : ∃ E F : Nat, e = (E : Int) ∧ f = (F : Int) ∧ 2 ≤ E ∧ E ≤ 11 ∧ 1 ≤ F ∧ F ≤ 52 ∧ l.length ≤ 65536 ∧ ∀ v ∈ l, v < 2 ^ (1 + E + F) := by
  unfold rowErr at h
  by_cases hc : chkF e f = 0
  · rw [if_neg (by simpa using hc)] at h
    obtain ⟨E, F, rfl, rfl, h1, h2, h3, h4⟩ := chk_ok hc
    rw [Int.toNat_natCast, Int.toNat_natCast] at h
    split at h
    · cases h
    · split at h
      · rename_i h5 h6
        exact ⟨E, F, rfl, rfl, h1, h2, h3, h4, by omega, h6⟩
      · cases h
  · rw [if_pos hc] at h; cases h
/-- What Pack answers. -/
def packS (e f : Int) (l : List Nat) : ByteArray × Int := if rowErr e f l = 0 then (bstr (by8 (packB (1 + e.toNat + f.toNat) l)), 0) else (bstr [], rowErr e f l)
/-- What Size answers. -/
def sizeS (e f : Int) (l : List Nat) : Int × Int := if rowErr e f l = 0 then (((packB (1 + e.toNat + f.toNat) l).length : Nat), 0) else (0, rowErr e f l)
theorem pack_Pack (e f : Int) (A : Option Addr) (l : List Nat) (n c : Nat) (hn : n = l.length) (w : World) (hl64 : ∀ v ∈ l, v < 18446744073709551616) (hrd : RdK .u64 w A l) (hT : Tab w) (hB0 : 0 < w.heap.size) :
    Calls Tryd.prog 10 #[.agg #[.int .i64 e, .int .i64 f], .slice A n c] w (Says w (.tuple #[.string (packS e f l).1, .int .i64 (packS e f l).2])) := by
  subst hn
  have hb0 : Below w.heap.size w (w.alloc (.cells #[.int .i64 e, .int .i64 f] 23)) := (Below.refl _ _).alloc (Nat.le_refl _) _
  have hrow := pack_row e f A l _ c rfl _ hl64 (hrd.below hb0) (hT.below hb0) (Nat.lt_of_lt_of_le hB0 hb0.size)
  by_cases hr : rowErr e f l = 0
  · have hp : packS e f l = (bstr (by8 (packB (1 + e.toNat + f.toNat) l)), 0) := by unfold packS; rw [if_pos hr]
    rw [hp]
    have HR := Lib.hid hr
    clear hr hp
    go_enter Tryd.func10, Tryd.ntmps10
    go_wp2_with fail
    refine hrow.mono ?_
    rintro r w1 (⟨_, p, rfl, hwr, hb1⟩ | ⟨h1, _⟩)
    · obtain ⟨E, F, rfl, rfl, hE1, hE2, hF1, hF2, _⟩ := rowErr_ok HR.out
      rw [Int.toNat_natCast, Int.toNat_natCast] at hwr
      have hb01 := hb0.trans (hb1.mono (by simp))
      go_wp2_with fail
      refine (writer_Bytes w1 _ p E F l hwr hE2 hF2).mono ?_
      rintro r w2 ⟨rfl, hb2⟩
      have hb02 := hb01.trans (hb2.mono hb01.size)
      go_wp2
      go_ret2
      exact ⟨rfl, hb02⟩
    · exact absurd HR.out h1
  · have hp : packS e f l = (bstr [], rowErr e f l) := by unfold packS; rw [if_neg hr]
    rw [hp]
    have HR := Lib.hid hr
    have hz : (rowErr e f l != 0) = true := by rw [bne_iff_ne]; exact hr
    clear hr hp
    go_enter Tryd.func10, Tryd.ntmps10
    go_wp2_with fail
    refine hrow.mono ?_
    rintro r w1 (⟨h1, _⟩ | ⟨_, rfl, hb1⟩)
    · exact absurd h1 HR.out
    · have hb01 := hb0.trans (hb1.mono (by simp))
      go_wp2
      go_ret2
      exact ⟨rfl, hb01⟩
theorem pack_Size (e f : Int) (A : Option Addr) (l : List Nat) (n c : Nat) (hn : n = l.length) (w : World) (hl64 : ∀ v ∈ l, v < 18446744073709551616) (hrd : RdK .u64 w A l) (hT : Tab w) (hB0 : 0 < w.heap.size) :
    Calls Tryd.prog 17 #[.agg #[.int .i64 e, .int .i64 f], .slice A n c] w (Says w (.tuple #[.int .i64 (sizeS e f l).1, .int .i64 (sizeS e f l).2])) := by
  subst hn
  have hb0 : Below w.heap.size w (w.alloc (.cells #[.int .i64 e, .int .i64 f] 23)) := (Below.refl _ _).alloc (Nat.le_refl _) _
  have hrow := pack_row e f A l _ c rfl _ hl64 (hrd.below hb0) (hT.below hb0) (Nat.lt_of_lt_of_le hB0 hb0.size)
  by_cases hr : rowErr e f l = 0
  · obtain ⟨E, F, rfl, rfl, hE1, hE2, hF1, hF2, hl, hfit⟩ := rowErr_ok hr
    have hp : sizeS (E : Int) (F : Int) l = (17 + (((wst (1 + E + F) l).bs.length : Nat) : Int), 0) := by
      unfold sizeS; rw [if_pos hr, Int.toNat_natCast, Int.toNat_natCast]
      unfold packB
      simp
    rw [hp]
    obtain ⟨_, _, _, hbl⟩ := wst_ok (show 1 + E + F ≤ 64 by omega) l hfit
    have hbl2 : (wst (1 + E + F) l).bs.length ≤ 65536 * 78 := Nat.le_trans hbl (Nat.mul_le_mul hl (by omega))
    have HR := Lib.hid hr
    clear hr hp hfit hbl
    go_enter Tryd.func17, Tryd.ntmps17
    go_wp2_with fail
    refine hrow.mono ?_
    rintro r w1 (⟨_, p, rfl, hwr, hb1⟩ | ⟨h1, _⟩)
    · rw [Int.toNat_natCast, Int.toNat_natCast] at hwr
      have hb01 := hb0.trans (hb1.mono (by simp))
      obtain ⟨cv, k1, _⟩ := hwr
      have c4 := k1.cell 4
      simp only [wrCells] at c4
      have hz := k1.lt
      go_wp2
      go_ret2
      exact ⟨rfl, hb01⟩
    · exact absurd HR.out h1
  · have hp : sizeS e f l = (0, rowErr e f l) := by unfold sizeS; rw [if_neg hr]
    rw [hp]
    have HR := Lib.hid hr
    have hz : (rowErr e f l != 0) = true := by rw [bne_iff_ne]; exact hr
    clear hr hp
    go_enter Tryd.func17, Tryd.ntmps17
    go_wp2_with fail
    refine hrow.mono ?_
    rintro r w1 (⟨h1, _⟩ | ⟨_, rfl, hb1⟩)
    · exact absurd h1 HR.out
    · have hb01 := hb0.trans (hb1.mono (by simp))
      go_wp2
      go_ret2
      exact ⟨rfl, hb01⟩
end Go.Proofs.YtefhannaofknnaaDoor
