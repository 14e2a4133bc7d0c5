/- Walks: a reader; what is left. -/
import Derived.Test.YtefhannaofknnaaDoorPkN
namespace Go.Proofs.YtefhannaofknnaaDoor
open Go.RowKit
set_option linter.unusedVariables false
set_option linter.unusedSimpArgs false
set_option maxHeartbeats 4000000
set_option maxRecDepth 100000

/-- Where a reader stands. -/
structure Ust where
  at_ : Nat
  w : Nat × Nat
  before : Nat
def takeW (B : List Nat) (a c : Nat) : Nat := wv ((B.drop a).take c)
/-- The next float's piece: none: it ends too early; some none: it can't be. -/
def pieceU (W : Nat) (B : List Nat) (u : Ust) : Option (Option Ust) :=
  if B.length - u.at_ < 1 then none
  else if takeW B u.at_ 1 = 0 then some (some ⟨u.at_ + 1, u.w, u.before⟩)
  else if B.length - u.at_ < 2 then none
  else if takeW B (u.at_ + 1) 1 = 1 then
    if B.length - u.at_ < 14 then none
    else if B.length - u.at_ < 14 + (takeW B (u.at_ + 8) 6 + 1) then none
    else if W < takeW B (u.at_ + 2) 6 + (takeW B (u.at_ + 8) 6 + 1) then some none
    else if takeW B (u.at_ + 14) (takeW B (u.at_ + 8) 6 + 1) = 0 ∨ ¬ (takeW B (u.at_ + 14) (takeW B (u.at_ + 8) 6 + 1) % 2 = 1 ∧ takeW B (u.at_ + 14) (takeW B (u.at_ + 8) 6 + 1) / 2 ^ takeW B (u.at_ + 8) 6 % 2 = 1) ∨
        holdsS W u.w (takeW B (u.at_ + 14) (takeW B (u.at_ + 8) 6 + 1) * 2 ^ (W - takeW B (u.at_ + 2) 6 - (takeW B (u.at_ + 8) 6 + 1))) then some none
    else some (some ⟨u.at_ + (14 + (takeW B (u.at_ + 8) 6 + 1)), (takeW B (u.at_ + 2) 6, takeW B (u.at_ + 8) 6 + 1), u.before ^^^ (takeW B (u.at_ + 14) (takeW B (u.at_ + 8) 6 + 1) * 2 ^ (W - takeW B (u.at_ + 2) 6 - (takeW B (u.at_ + 8) 6 + 1)))⟩)
  else
    if B.length - u.at_ < 2 + u.w.2 then none
    else if u.w.2 = 0 ∨ W < u.w.1 + u.w.2 then some none
    else if takeW B (u.at_ + 2) u.w.2 = 0 then some none
    else some (some ⟨u.at_ + (2 + u.w.2), u.w, u.before ^^^ (takeW B (u.at_ + 2) u.w.2 * 2 ^ (W - u.w.1 - u.w.2))⟩)
/-- A reader's cells. -/
def rdCells (A : Option Addr) (n c W : Nat) (u : Ust) : Array Value :=
  #[.slice A n c, .int .i64 8, .int .i64 ((8 * n : Nat) : Int), .int .i64 (u.at_ : Int), .int .i64 (W : Int), .int .i64 (u.w.1 : Int), .int .i64 (u.w.2 : Int), .int .u64 (u.before : Int)]
theorem reader_left (p : Nat) (n a d : Nat) (w : World) (m : Nat) (h2 : w.cell? ⟨p, 2, none⟩ = some (.int .i64 (n : Int))) (h3 : w.cell? ⟨p, 3, none⟩ = some (.int .i64 (a : Int))) (ha : a ≤ n) (hn : n ≤ 1000000000000) (hd : d = n - a) :
    Calls Tryd.prog 39 #[.pointer (some ⟨p, 0, none⟩)] (w.drewN m) fun e w'' => e = .returned (.int .i64 (d : Int)) ∧ ∃ z, w'' = w.drewN z := by
  have hI : (n : Int) - (a : Int) = (d : Int) := by omega
  have hI2 : IntKind.i64.wrap ((n : Int) - (a : Int)) = (d : Int) := by rw [hI]; exact IntWalk.i64_in _ (by omega)
  have hz := cell_lt h2
  have hwd := w64_nat d (by omega)
  clear hd ha hn
  go_enter Tryd.func39, Tryd.ntmps39
  go_wp2
  go_quiet (fail)
  go_wp2
  go_ret
  exact ⟨ret_int hwd, m + nq, by simp⟩
end Go.Proofs.YtefhannaofknnaaDoor
