/- Walk: Unpack. -/
import Derived.Test.YtefhannaofknnaaDoorPkZF
namespace Go.Proofs.YtefhannaofknnaaDoor
open Go.RowKit
set_option linter.unusedVariables false
set_option linter.unusedSimpArgs false
set_option maxHeartbeats 4000000
set_option maxRecDepth 100000

/-- So many floats more; none: it ends too early; a place: it can't be. -/
def unF (W : Nat) (B : List Nat) : Nat → Ust → List Nat → Option (Nat ⊕ (Ust × List Nat))
  | 0, u, out => some (.inr (u, out))
  | k + 1, u, out => match pieceU W B u with
    | none => none
    | some none => some (.inl u.at_)
    | some (some u') => unF W B k u' (out ++ [u'.before])
/-- What Unpack answers: the floats, the place, the error. -/
def unpS (e f : Int) (s : List Nat) : List Nat × Int × Int :=
  if chkF e f ≠ 0 then ([], 0, 5)
  else if 1048576 < s.length then ([], 0, 4)
  else if 8 * s.length < 17 then ([], (s.length : Nat), 270)
  else if 65536 < takeW (bo s) 0 17 then ([], 0, 270)
  else match unF (1 + e.toNat + f.toNat) (bo s) (takeW (bo s) 0 17) ⟨17, (0, 0), 0⟩ [] with
    | none => ([], (s.length : Nat), 270)
    | some (.inl a) => ([], ((a / 8 : Nat) : Int), 270)
    | some (.inr (u, out)) => if 7 < 8 * s.length - u.at_ ∨ takeW (bo s) u.at_ (8 * s.length - u.at_) ≠ 0 then ([], ((u.at_ / 8 : Nat) : Int), 270) else (out, 0, 0)
/-- A list of floats in memory of its own. -/
def UnpAns (w : World) (r : List Nat × Int × Int) (en : Ending) (w' : World) : Prop :=
  ∃ v, en = .returned (.tuple #[v, .int .i64 r.2.1, .int .i64 r.2.2]) ∧ OwnR w' w.heap.size 34 .u64 v r.1 ∧ Below w.heap.size w w'
theorem unpack_form (e f : Int) (s : List Nat) (hb : Bts s) (w : World) (hc : chkF e f ≠ 0) :
    Calls Tryd.prog 16 #[.agg #[.int .i64 e, .int .i64 f], .string (bstr s)] w (UnpAns w (unpS e f s)) := by
  have hu : unpS e f s = ([], 0, 5) := by unfold unpS; rw [if_pos hc]
  rw [hu]
  have hc5 := chk_no hc
  have HC := Lib.hid hc5
  clear hc hu hc5
  go_enter Tryd.func16, Tryd.ntmps16
  go_wp2_with fail
  refine (forms_Check _ _ _).mono ?_
  rintro r w1 ⟨rfl, hb1⟩
  rw [HC.out]
  have hbw1 : Below w.heap.size w w1 := ((Below.refl w.heap.size w).alloc (Nat.le_refl _) _).trans (hb1.mono (by simp))
  go_wp2
  go_returns
  exact ⟨_, rfl, OwnR.nil _ _ _ _, hbw1⟩
theorem unpack_long (e f : Int) (s : List Nat) (hb : Bts s) (w : World) (hc : chkF e f = 0) (hl : 1048576 < s.length) :
    Calls Tryd.prog 16 #[.agg #[.int .i64 e, .int .i64 f], .string (bstr s)] w (UnpAns w (unpS e f s)) := by
  have hu : unpS e f s = ([], 0, 4) := by unfold unpS; rw [if_neg (by simpa using hc), if_pos hl]
  rw [hu]
  have HC := Lib.hid hc
  have hsz := bstr_size s
  have hg : decide ((1048576 : Int) < ((s.length : Nat) : Int)) = true := by simp; omega
  clear hc hu hl
  go_enter Tryd.func16, Tryd.ntmps16
  go_wp2_with fail
  refine (forms_Check _ _ _).mono ?_
  rintro r w1 ⟨rfl, hb1⟩
  rw [HC.out]
  have hbw1 : Below w.heap.size w w1 := ((Below.refl w.heap.size w).alloc (Nat.le_refl _) _).trans (hb1.mono (by simp))
  go_wp2
  go_returns
  exact ⟨_, rfl, OwnR.nil _ _ _ _, hbw1⟩
end Go.Proofs.YtefhannaofknnaaDoor
