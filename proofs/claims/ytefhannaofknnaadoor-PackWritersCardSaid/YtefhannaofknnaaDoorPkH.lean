/- Walk: Put, where it errs. -/
import Derived.Test.YtefhannaofknnaaDoorPkG
namespace Go.Proofs.YtefhannaofknnaaDoor
open Go.RowKit
set_option linter.unusedVariables false
set_option linter.unusedSimpArgs false
set_option maxHeartbeats 4000000
set_option maxRecDepth 100000

/-- What Put answers. -/
def PutAns (w : World) (B p E F : Nat) (l : List Nat) (b : Nat) (en : Ending) (w' : World) : Prop :=
  if fitE E F b = 0 ∧ l.length < 65536 then en = .returned (.int .i64 0) ∧ Wr w' B p E F (l ++ [b]) ∧ Below B w w'
  else en = .returned (.int .i64 (if fitE E F b = 0 then 4 else fitE E F b)) ∧ Below w.heap.size w w'
theorem fit_lt {E F b : Nat} (hE : 2 ≤ E ∧ E ≤ 11) (hF : 1 ≤ F ∧ F ≤ 52) : fitE (E : Int) (F : Int) b = 0 ↔ b < 2 ^ (1 + E + F) := by
  have hc : chkF (E : Int) (F : Int) = 0 := by unfold chkF; rw [if_neg (by omega)]
  unfold fitE
  rw [if_pos hc, Int.toNat_natCast, Int.toNat_natCast]
  unfold fitF
  split
  · constructor
    · intro h; cases h
    · intro h; omega
  · constructor
    · intro h; omega
    · intro h; rfl
theorem put_err (w : World) (B p E F : Nat) (l : List Nat) (b : Nat) (hb64 : b < 18446744073709551616) (hB : B ≤ w.heap.size) (h : Wr w B p E F l) (hn : ¬ (fitE E F b = 0 ∧ l.length < 65536)) :
    Calls Tryd.prog 15 #[.pointer (some ⟨p, 0, none⟩), .int .u64 (b : Int)] w (PutAns w B p E F l b) := by
  have hp : PutAns w B p E F l b = fun en w' => en = .returned (.int .i64 (if fitE E F b = 0 then 4 else fitE E F b)) ∧ Below w.heap.size w w' := by
    funext en w'; unfold PutAns; rw [if_neg hn]
  rw [hp]
  clear hp
  obtain ⟨cv, hblk, hown, hBp, hfit, hl⟩ := h
  have c0 := (hblk.cell 0)
  have c1 := (hblk.cell 1)
  have c3 := (hblk.cell 3)
  have c8 := (hblk.cell 8)
  simp only [wrCells] at c0 c1 c3 c8
  have hz := hblk.lt
  by_cases hf : fitE E F b = 0
  · have hl2 : l.length = 65536 := by
      rcases Nat.lt_or_ge l.length 65536 with h | h
      · exact absurd ⟨hf, h⟩ hn
      · omega
    rw [if_pos hf]
    have HF := Lib.hid hf
    rw [hl2] at c8
    clear hf hn hl2
    go_enter Tryd.func15, Tryd.ntmps15
    go_wp2_with fail
    refine (writer_made p 8 _ c3).mono ?_
    rintro r w1 ⟨rfl, hb1⟩
    have d0 := cell_keep hb1 c0
    have d1 := cell_keep hb1 c1
    have d8 := cell_keep hb1 c8
    go_wp2_with fail
    refine (forms_Fits _ _ _ b rfl hb64 _).mono ?_
    rintro r w2 ⟨rfl, hb2⟩
    rw [HF.out]
    have e8 := cell_keep hb2 d8
    go_wp2
    go_ret
    exact ⟨rfl, hb1.trans (hb2.mono hb1.size)⟩
  · rw [if_neg hf]
    have hz0 : (fitE (E : Int) (F : Int) b != 0) = true := by rw [bne_iff_ne]; exact hf
    clear hf hn
    go_enter Tryd.func15, Tryd.ntmps15
    go_wp2_with fail
    refine (writer_made p 8 _ c3).mono ?_
    rintro r w1 ⟨rfl, hb1⟩
    have d0 := cell_keep hb1 c0
    have d1 := cell_keep hb1 c1
    go_wp2_with fail
    refine (forms_Fits _ _ _ b rfl hb64 _).mono ?_
    rintro r w2 ⟨rfl, hb2⟩
    go_wp2
    go_ret
    exact ⟨rfl, hb1.trans (hb2.mono hb1.size)⟩
end Go.Proofs.YtefhannaofknnaaDoor
