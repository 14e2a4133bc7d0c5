/- Walk: TopPack. -/
import Derived.Test.YtefhannaofknnaaDoorPkQB
import Derived.Test.YtefhannaofknnaaDoorPkZH
namespace Go.Proofs.YtefhannaofknnaaDoor
open Go.RowKit
set_option linter.unusedVariables false
set_option linter.unusedSimpArgs false
set_option maxHeartbeats 4000000
set_option maxRecDepth 100000

theorem top_double (w : World) : Calls Tryd.prog 11 #[] w (Says w (.agg #[.int .i64 11, .int .i64 52])) := by
  go_enter Tryd.func11, Tryd.ntmps11
  go_wp2
  go_returns
  exact ⟨rfl, (Below.refl _ _).alloc (Nat.le_refl _) _⟩
theorem fitE_chk {e f : Int} {b : Nat} (h : chkF e f ≠ 0) : fitE e f b = 5 := by
  unfold fitE; rw [if_neg h]; exact chk_no h
theorem top_is (e f B : Int) (b : Nat) (hB : B = (b : Int)) (hb64 : b < 18446744073709551616) (w : World) :
    Calls Tryd.prog 14 #[.agg #[.int .i64 e, .int .i64 f], .int .u64 B] w (Says w (.bool (decide (fitE e f b = 0)))) := by
  by_cases hc : chkF e f = 0
  · have hfits := ref_Fits e f B b hB hb64
    have hd : decide (fitE e f b = 0) = (fitE e f b == 0) := rfl
    rw [hd]
    generalize fitE e f b = x at hfits ⊢
    have HC := Lib.hid hc
    clear hc hd hB hb64
    go_enter Tryd.func14, Tryd.ntmps14
    go_wp2_with fail
    refine (ref_Check _ _ _).mono ?_
    rintro r w1 ⟨rfl, hb1⟩
    rw [HC.out]
    have hb01 : Below w.heap.size w w1 := ((Below.refl w.heap.size w).alloc (Nat.le_refl _) _).trans (hb1.mono (by simp))
    have f0 : w1.cell? ⟨w.heap.size, 0, none⟩ = some (.int .i64 e) := by rw [hb1.cell (by simp)]; simp
    have f1 : w1.cell? ⟨w.heap.size, 1, none⟩ = some (.int .i64 f) := by rw [hb1.cell (by simp)]; simp
    clear hb1
    go_wp2_with fail
    refine (hfits _).mono ?_
    rintro r w2 ⟨rfl, hb2⟩
    have hb02 := hb01.trans (hb2.mono hb01.size)
    go_wp2
    go_ret
    exact ⟨rfl, hb02⟩
  · have hd : decide (fitE e f b = 0) = false := by rw [fitE_chk hc]; rfl
    rw [hd]
    have hz : (chkF e f == 0) = false := by simpa using hc
    clear hc hd
    go_enter Tryd.func14, Tryd.ntmps14
    go_wp2_with fail
    refine (ref_Check _ _ _).mono ?_
    rintro r w1 ⟨rfl, hb1⟩
    have hb01 : Below w.heap.size w w1 := ((Below.refl w.heap.size w).alloc (Nat.le_refl _) _).trans (hb1.mono (by simp))
    go_wp2
    go_ret
    exact ⟨rfl, hb01⟩
theorem packS_ok {E F : Nat} {l : List Nat} (h : rowErr (E : Int) (F : Int) l = 0) : packS (E : Int) (F : Int) l = (bstr (by8 (packB (1 + E + F) l)), 0) := by
  unfold packS; rw [if_pos h, Int.toNat_natCast, Int.toNat_natCast]
theorem sizeS_ok {E F : Nat} {l : List Nat} (h : rowErr (E : Int) (F : Int) l = 0) : sizeS (E : Int) (F : Int) l = ((((packB (1 + E + F) l).length : Nat) : Int), 0) := by
  unfold sizeS; rw [if_pos h, Int.toNat_natCast, Int.toNat_natCast]
theorem rowErr_z {E F : Nat} (hE1 : 2 ≤ E) (hE2 : E ≤ 11) (hF1 : 1 ≤ F) (hF2 : F ≤ 52) {l : List Nat} (hl : l.length ≤ 65536) (hv : ∀ v ∈ l, v < 2 ^ (1 + E + F)) : rowErr (E : Int) (F : Int) l = 0 := by
  unfold rowErr
  rw [if_neg (by rw [chkF_of hE1 hE2 hF1 hF2]; simp), if_neg (by omega), Int.toNat_natCast, Int.toNat_natCast, if_pos hv]
theorem packS_nil : packS 11 52 [] = (⟨#[0, 0, 0]⟩, 0) := by
  have h : rowErr (11 : Int) (52 : Int) [] = 0 := by decide
  have := packS_ok (E := 11) (F := 52) (l := []) h
  rw [show ((11 : Nat) : Int) = 11 from rfl, show ((52 : Nat) : Int) = 52 from rfl] at this
  rw [this]
  have e : bstr (by8 (packB (1 + 11 + 52) [])) = ⟨#[0, 0, 0]⟩ := by decide +kernel
  rw [e]
end Go.Proofs.YtefhannaofknnaaDoor
