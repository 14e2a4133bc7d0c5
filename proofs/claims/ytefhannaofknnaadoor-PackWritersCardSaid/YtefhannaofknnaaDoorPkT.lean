/- Walk: piece, where the float is the same again, or nothing is left. -/
import Derived.Test.YtefhannaofknnaaDoorPkR
namespace Go.Proofs.YtefhannaofknnaaDoor
open Go.RowKit
set_option linter.unusedVariables false
set_option linter.unusedSimpArgs false
set_option maxHeartbeats 4000000
set_option maxRecDepth 100000

/-- A reader, whole, over the bytes s. -/
structure Rdr (w : World) (p W : Nat) (A : Option Addr) (c : Nat) (s : List Nat) (u : Ust) : Prop where
  blk : Blk w p 68 (rdCells A s.length c W u)
  rd : RdK .u8 w A s
  bytes : ∀ x ∈ s, x < 256
  len : s.length ≤ 1048576
  at_ : u.at_ ≤ 8 * s.length
  width : W ≤ 64
  win : Win W u.w
  bef : u.before < 2 ^ W
theorem holds_bo (s : List Nat) : Holds8 s (bo s) := fun i hi => by
  rw [bo_length] at hi
  exact ⟨by omega, (nth_bo s i hi).symm⟩
theorem Rdr.below {w w' : World} {p W : Nat} {A : Option Addr} {c : Nat} {s : List Nat} {u : Ust} (h : Rdr w p W A c s u) (hb : Below w.heap.size w w') : Rdr w' p W A c s u :=
  ⟨h.blk.below hb h.blk.lt, h.rd.below hb, h.bytes, h.len, h.at_, h.width, h.win, h.bef⟩
section
variable {w : World} {p W : Nat} {A : Option Addr} {c : Nat} {s : List Nat} {u : Ust}
theorem Rdr.take (h : Rdr w p W A c s u) (m a count v : Nat) (hv : v = takeW (bo s) a count) (hle : a + count ≤ 8 * s.length) (hc : count ≤ 64) :
    Calls Tryd.prog 40 #[.pointer (some ⟨p, 0, none⟩), .int .i64 (a : Int), .int .i64 (count : Int)] (w.drewN m) fun e w'' => e = .returned (.int .u64 (v : Int)) ∧ ∃ z, w'' = w.drewN z :=
  sheet_takeN p 0 _ _ A c s (bo s) a count v w m h.blk rfl rfl h.rd h.bytes (bs_bo s) (holds_bo s) (by rw [bo_length]; exact hle) hc (by rw [bo_length]; have := h.len; omega) hv
theorem Rdr.left (h : Rdr w p W A c s u) (m d : Nat) (hd : d = 8 * s.length - u.at_) :
    Calls Tryd.prog 39 #[.pointer (some ⟨p, 0, none⟩)] (w.drewN m) fun e w'' => e = .returned (.int .i64 (d : Int)) ∧ ∃ z, w'' = w.drewN z :=
  reader_left p (8 * s.length) u.at_ d w m (h.blk.cell 2) (h.blk.cell 3) h.at_ (by have := h.len; omega) hd
end
/-- What piece answers. -/
def PieAns (w : World) (p W : Nat) (A : Option Addr) (c : Nat) (s : List Nat) (u : Ust) (en : Ending) (w' : World) : Prop :=
  match pieceU W (bo s) u with
  | none => en = .returned (.tuple #[.int .u64 0, .bool false, .bool false]) ∧ Below w.heap.size w w'
  | some none => en = .returned (.tuple #[.int .u64 0, .bool true, .bool false]) ∧ Below w.heap.size w w'
  | some (some u') => en = .returned (.tuple #[.int .u64 (u'.before : Int), .bool true, .bool true]) ∧ Blk w' p 68 (rdCells A s.length c W u') ∧ Below p w w' ∧ ∀ g, g ≠ p → g < w.heap.size → w'.heap[g]? = w.heap[g]?
theorem piece_end (w : World) (p W : Nat) (A : Option Addr) (c : Nat) (s : List Nat) (u : Ust) (h : Rdr w p W A c s u) (h1 : (bo s).length - u.at_ < 1) :
    Calls Tryd.prog 41 #[.pointer (some ⟨p, 0, none⟩)] w (PieAns w p W A c s u) := by
  have e : PieAns w p W A c s u = fun en w' => en = .returned (.tuple #[.int .u64 0, .bool false, .bool false]) ∧ Below w.heap.size w w' := by
    funext en w'; unfold PieAns pieceU; rw [if_pos h1]
  rw [e]
  rw [bo_length] at h1
  have hl := h.left 0 0 (by omega)
  clear e h1
  go_enter Tryd.func41, Tryd.ntmps41
  go_wp2_with fail
  refine hl.mono ?_
  rintro r w1 ⟨rfl, z, rfl⟩
  go_wp2
  go_returns
  exact ⟨rfl, bdn (Below.refl _ _) _⟩
theorem piece_same (w : World) (p W : Nat) (A : Option Addr) (c : Nat) (s : List Nat) (u : Ust) (h : Rdr w p W A c s u) (h1 : ¬ (bo s).length - u.at_ < 1) (h2 : takeW (bo s) u.at_ 1 = 0) :
    Calls Tryd.prog 41 #[.pointer (some ⟨p, 0, none⟩)] w (PieAns w p W A c s u) := by
  have e : PieAns w p W A c s u = fun en w' => en = .returned (.tuple #[.int .u64 (u.before : Int), .bool true, .bool true]) ∧ Blk w' p 68 (rdCells A s.length c W ⟨u.at_ + 1, u.w, u.before⟩) ∧ Below p w w' ∧ ∀ g, g ≠ p → g < w.heap.size → w'.heap[g]? = w.heap[g]? := by
    funext en w'; unfold PieAns pieceU; rw [if_neg h1, if_pos h2]
  rw [e]
  rw [bo_length] at h1
  obtain ⟨d, hd⟩ : ∃ d, d = 8 * s.length - u.at_ := ⟨_, rfl⟩
  have hl := h.left 0 d hd
  have hd1 : ¬ (d : Int) < 1 := by omega
  have hat := h.at_
  have hlen := h.len
  have hbu := h.blk
  have hTK := fun w' (hb : Below w.heap.size w w') m => (h.below hb).take m u.at_ 1 0 h2.symm (by omega) (by decide)
  obtain ⟨a, ⟨lead, size⟩, bef⟩ := u
  simp only at hd hat hTK hbu ⊢
  have ha : a ≤ 8388608 := by omega
  clear e h1 h2 hd h hat hlen
  have hz := hbu.lt
  go_enter Tryd.func41, Tryd.ntmps41
  go_wp2_with fail
  refine hl.mono ?_
  rintro r w1 ⟨rfl, hw1⟩
  have hb1 : Below w.heap.size w w1 := by obtain ⟨z, rfl⟩ := hw1; exact bdn (Below.refl _ _) _
  have ht := hTK w1 hb1
  have hb := hbu.below hb1 hz
  have k3 := hb.cell 3
  have k7 := hb.cell 7
  have kf := hb.frozen 3
  simp only [rdCells] at k3 k7
  have hz1 := hb.lt
  have hblk : ∀ g, g < w.heap.size → w1.heap[g]? = w.heap[g]? := fun g hg => hb1.block g hg
  clear hw1 hTK hbu hl
  go_wp2
  go_quiet ((go_at_call 40; exact ht _))
  go_wp2
  go_returns
  refine ⟨rfl, (hb.drewN nq).set_ 3 (.int .i64 ((a : Int) + 1)), (bdn (hb1.mono (Nat.le_of_lt hz)) nq).setCell (Nat.le_refl _) _, fun g hg hgl => ?_⟩
  rw [← hblk g hgl]
  exact Below.heap_setCell _ _ _ _ hg
end Go.Proofs.YtefhannaofknnaaDoor
