/- Walks: a writer; made; New; Len. -/
import Derived.Test.YtefhannaofknnaaDoorPkE
import Derived.Test.YtefhannaofknnaaDoorPkB
namespace Go.Proofs.YtefhannaofknnaaDoor
open Go.RowKit
set_option linter.unusedVariables false
set_option linter.unusedSimpArgs false
set_option maxHeartbeats 4000000
set_option maxRecDepth 100000

theorem Tab.base {w w' : World} {B : Nat} (h : Tab w) (hb : Below B w w') (hB : 0 < B) : Tab w' := fun j hj => (hb.cell (p := ⟨0, j, none⟩) hB).trans (h j hj)
/-- A writer's cells. -/
def wrCells (E F : Nat) (cv : Value) (st : Wst) (n : Nat) : Array Value :=
  #[.int .i64 (E : Int), .int .i64 (F : Int), cv, .int .i64 8, .int .i64 ((st.bs.length : Nat) : Int), .int .u64 (st.before : Int), .int .i64 (st.w.1 : Int), .int .i64 (st.w.2 : Int), .int .i64 (n : Int)]
/-- A writer that has packed the row l. -/
def Wr (w : World) (B p E F : Nat) (l : List Nat) : Prop :=
  ∃ cv, Blk w p 59 (wrCells E F cv (wst (1 + E + F) l) l.length) ∧ OwnR w B 5 .u8 cv (by8 (wst (1 + E + F) l).bs) ∧ B ≤ p ∧ (∀ v ∈ l, v < 2 ^ (1 + E + F)) ∧ l.length ≤ 65536
theorem by8_nil : by8 [] = [] := by simp [by8]
theorem Wr.below {w w' : World} {B p E F : Nat} {l : List Nat} (h : Wr w B p E F l) (hb : Below w.heap.size w w') : Wr w' B p E F l := by
  obtain ⟨cv, h1, h2, h3⟩ := h
  exact ⟨cv, h1.below hb h1.lt, h2.below hb (Nat.le_refl _), h3⟩
theorem Wr.lt {w : World} {B p E F : Nat} {l : List Nat} (h : Wr w B p E F l) : p < w.heap.size := by
  obtain ⟨cv, h1, _⟩ := h
  exact h1.lt
theorem writer_made (p : Nat) (n : Int) (w : World) (h : w.cell? ⟨p, 3, none⟩ = some (.int .i64 n)) :
    Calls Tryd.prog 33 #[.pointer (some ⟨p, 0, none⟩)] w (Says w (.bool (decide (0 < n)))) := by
  go_enter Tryd.func33, Tryd.ntmps33
  go_wp2
  go_ret
  exact ⟨rfl, Below.refl _ _⟩
theorem writer_nil (w : World) : Calls Tryd.prog 33 #[.pointer none] w (Says w (.bool false)) := by
  go_enter Tryd.func33, Tryd.ntmps33
  go_wp2
  go_ret
  exact ⟨rfl, Below.refl _ _⟩
/-- What New answers. -/
def NewAns (w : World) (e f : Int) (en : Ending) (w' : World) : Prop :=
  if chkF e f = 0 then ∃ p, en = .returned (.tuple #[.pointer (some ⟨p, 0, none⟩), .int .i64 0]) ∧ w.heap.size ≤ p ∧ Wr w' w.heap.size p e.toNat f.toNat [] ∧ Below w.heap.size w w'
  else en = .returned (.tuple #[.pointer none, .int .i64 5]) ∧ Below w.heap.size w w'
theorem pack_New (e f : Int) (w : World) : Calls Tryd.prog 13 #[.agg #[.int .i64 e, .int .i64 f]] w (NewAns w e f) := by
  by_cases hc : chkF e f = 0
  · obtain ⟨E, F, rfl, rfl, hE1, hE2, hF1, hF2⟩ := chk_ok hc
    have hn : NewAns w (E : Int) (F : Int) = fun en w' => ∃ p, en = .returned (.tuple #[.pointer (some ⟨p, 0, none⟩), .int .i64 0]) ∧ w.heap.size ≤ p ∧ Wr w' w.heap.size p E F [] ∧ Below w.heap.size w w' := by
      funext en w'; unfold NewAns; rw [if_pos hc, Int.toNat_natCast, Int.toNat_natCast]
    rw [hn]
    have HC := Lib.hid hc
    clear hc hn
    go_enter Tryd.func13, Tryd.ntmps13
    go_wp2_with fail
    refine (forms_Check _ _ _).mono ?_
    rintro r w1 ⟨rfl, hb1⟩
    rw [HC.out]
    obtain ⟨hc1, hf1⟩ := bcell hb1
    have hbw1 : Below w.heap.size w w1 := Below.trans (b := _) (by repeat' (first | (with_reducible assumption) | (with_reducible exact Below.refl _ _) | (with_reducible refine bdn ?_ _) | (with_reducible refine Below.drew ?_) | (with_reducible refine Below.setCell ?_ ?_ _) | (with_reducible refine Below.alloc ?_ ?_ _) | go_size)) (hb1.mono (by go_size))
    have hz1_0 : w.heap.size < w1.heap.size := by have := hb1.size; simp at this; omega
    go_wp2
    go_ret2
    refine ⟨w1.heap.size, rfl, by omega, ⟨.slice none 0 0, ?_, (by show OwnR _ _ _ _ _ (by8 []); rw [by8_nil]; exact OwnR.nil _ _ _ _), by omega, by simp, by simp⟩, (by repeat' (first | (with_reducible assumption) | (with_reducible exact Below.refl _ _) | (with_reducible refine bdn ?_ _) | (with_reducible refine Below.drew ?_) | (with_reducible refine Below.setCell ?_ ?_ _) | (with_reducible refine Below.alloc ?_ ?_ _) | go_size))⟩
    exact Blk.new _ _ _
  · have hn : NewAns w e f = fun en w' => en = .returned (.tuple #[.pointer none, .int .i64 5]) ∧ Below w.heap.size w w' := by
      funext en w'; unfold NewAns; rw [if_neg hc]
    rw [hn]
    have HC := Lib.hid (chk_no hc)
    clear hc hn
    go_enter Tryd.func13, Tryd.ntmps13
    go_wp2_with fail
    refine (forms_Check _ _ _).mono ?_
    rintro r w1 ⟨rfl, hb1⟩
    rw [HC.out]
    obtain ⟨hc1, hf1⟩ := bcell hb1
    have hbw1 : Below w.heap.size w w1 := Below.trans (b := _) (by repeat' (first | (with_reducible assumption) | (with_reducible exact Below.refl _ _) | (with_reducible refine bdn ?_ _) | (with_reducible refine Below.drew ?_) | (with_reducible refine Below.setCell ?_ ?_ _) | (with_reducible refine Below.alloc ?_ ?_ _) | go_size)) (hb1.mono (by go_size))
    have hz1_0 : w.heap.size < w1.heap.size := by have := hb1.size; simp at this; omega
    go_wp2
    go_ret2
    exact ⟨rfl, hbw1⟩
theorem writer_Len (p n : Nat) (w : World) (h : w.cell? ⟨p, 3, none⟩ = some (.int .i64 8)) (hn : w.cell? ⟨p, 8, none⟩ = some (.int .i64 (n : Int))) :
    Calls Tryd.prog 19 #[.pointer (some ⟨p, 0, none⟩)] w (Says w (.int .i64 (n : Int))) := by
  go_enter Tryd.func19, Tryd.ntmps19
  go_wp2_with fail
  refine (writer_made p 8 _ h).mono ?_
  rintro r w1 ⟨rfl, hb1⟩
  have hn1 := cell_keep hb1 hn
  go_wp2
  go_ret
  exact ⟨rfl, hb1⟩
end Go.Proofs.YtefhannaofknnaaDoor
