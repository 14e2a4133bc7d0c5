/- Plain: numbers out of texts; what a string reads as. No program here. -/
import Derived.Test.YtenekbfnlbipiaaDoorPl2
import Derived.Test.YtenekbfnlbipiaaDoorByt
namespace Go.Proofs.YtenekbfnlbipiaaDoor
open Go.RowKit
set_option linter.unusedVariables false
set_option linter.unusedSimpArgs false
set_option maxHeartbeats 4000000
set_option maxRecDepth 100000

/-- Is a byte a digit? -/
abbrev Dgt (b : Nat) : Prop := 48 ≤ b ∧ b ≤ 57
/-- The number that a text of digits tells. -/
def dv (l : List Nat) : Nat := l.foldl (fun n b => 10 * n + (b - 48)) 0
theorem dv_from (l : List Nat) : ∀ n, l.foldl (fun n b => 10 * n + (b - 48)) n = n * 10 ^ l.length + dv l := by
  induction l with
  | nil => intro n; simp [dv]
  | cons x l ih =>
    intro n
    unfold dv
    simp only [List.foldl_cons, List.length_cons]
    rw [ih, ih (10 * 0 + (x - 48)), Nat.pow_succ]
    generalize 10 ^ l.length = P
    generalize dv l = D
    simp only [Nat.mul_zero, Nat.zero_add, Nat.add_mul]
    have : 10 * n * P = n * (P * 10) := by rw [Nat.mul_comm 10 n, Nat.mul_assoc, Nat.mul_comm 10 P]
    omega
theorem dv_append (a b : List Nat) : dv (a ++ b) = dv a * 10 ^ b.length + dv b := by
  unfold dv
  rw [List.foldl_append, dv_from]
  rfl
theorem dv_snoc (a : List Nat) (x : Nat) : dv (a ++ [x]) = 10 * dv a + (x - 48) := by
  rw [dv_append]; simp [dv]; omega
theorem dv_take_succ (l : List Nat) (k : Nat) (h : k < l.length) : dv (l.take (k + 1)) = 10 * dv (l.take k) + (nth l k - 48) := by
  have e : l.take (k + 1) = l.take k ++ [nth l k] := by
    rw [nth_lt _ h]; exact (List.take_append_getElem h).symm
  rw [e, dv_snoc]
theorem dv_split (l : List Nat) (k m : Nat) (h : k + m ≤ l.length) : dv (l.take (k + m)) = dv (l.take k) * 10 ^ m + dv ((l.drop k).take m) := by
  have e : l.take (k + m) = l.take k ++ (l.drop k).take m := by rw [List.take_add]
  have hm : ((l.drop k).take m).length = m := by simp; omega
  rw [e, dv_append, hm]
theorem dv_lt (l : List Nat) (h : ∀ x ∈ l, Dgt x) : dv l < 10 ^ l.length := by
  induction l with
  | nil => simp [dv]
  | cons x l ih =>
    have h1 := ih fun y hy => h y (List.mem_cons_of_mem _ hy)
    have h2 := h x List.mem_cons_self
    have e : dv (x :: l) = (x - 48) * 10 ^ l.length + dv l := by
      have := dv_append [x] l
      simpa [dv] using this
    rw [e, List.length_cons, Nat.pow_succ]
    have h3 : (x - 48) * 10 ^ l.length ≤ 9 * 10 ^ l.length := Nat.mul_le_mul_right _ (by omega)
    omega
/-- What Parse answers: the limbs, the place, the error. -/
def parseL (l : List Nat) : List Nat × Int × Int :=
  if 65536 < l.length then ([], 0, 3)
  else if l.findIdx (fun b => !decide (Dgt b)) < l.length then ([], (l.findIdx (fun b => !decide (Dgt b)) : Nat), 12)
  else if l = [] then ([], 0, 12) else (limbs (dv l), 0, 0)
theorem parseL_long {l : List Nat} (h : 65536 < l.length) : parseL l = ([], 0, 3) := if_pos h
theorem parseL_bad {l : List Nat} (h : l.length ≤ 65536) {i : Nat} (hi : i < l.length) (hb : ¬Dgt (nth l i)) (ha : ∀ j, j < i → Dgt (nth l j)) : parseL l = ([], ((i : Nat) : Int), 12) := by
  have e : l.findIdx (fun b => !decide (Dgt b)) = i := by
    rw [List.findIdx_eq hi]
    refine ⟨by rw [← nth_lt l hi]; simp only [Bool.not_eq_true', decide_eq_false_iff_not]; exact hb, fun j hj => ?_⟩
    rw [← nth_lt l (by omega)]
    simpa using ha j hj
  unfold parseL
  rw [if_neg (by omega), e, if_pos hi]
theorem parseL_nil : parseL [] = ([], 0, 12) := rfl
theorem parseL_ok {l : List Nat} (h : l.length ≤ 65536) (hn : l ≠ []) (ha : ∀ j, j < l.length → Dgt (nth l j)) : parseL l = (limbs (dv l), 0, 0) := by
  have e : ¬ l.findIdx (fun b => !decide (Dgt b)) < l.length := by
    intro hlt
    have := List.findIdx_getElem (w := hlt)
    rw [← nth_lt l hlt] at this
    have h2 := ha _ hlt
    simp only [Bool.not_eq_true', decide_eq_false_iff_not] at this
    exact this h2
  unfold parseL
  rw [if_neg (by omega), if_neg e, if_neg hn]

/-- Bytes. -/
def Bts (l : List Nat) : Prop := ∀ x ∈ l, x < 256
theorem Bts.nth {l : List Nat} (h : Bts l) (i : Nat) : nth l i < 256 := by
  rcases Nat.lt_or_ge i l.length with h1 | h1
  · rw [nth_lt l h1]; exact h _ (List.getElem_mem h1)
  · rw [nth_ge l h1]; decide
theorem Bts.take {l : List Nat} (h : Bts l) (n : Nat) : Bts (l.take n) := fun x hx => h x (List.mem_of_mem_take hx)
theorem Bts.drop {l : List Nat} (h : Bts l) (n : Nat) : Bts (l.drop n) := fun x hx => h x (List.mem_of_mem_drop hx)
/-- A string's bytes. -/
def sb (s : ByteArray) : List Nat := s.data.toList.map UInt8.toNat
theorem sb_bts (s : ByteArray) : Bts (sb s) := by
  intro x hx
  simp only [sb, List.mem_map] at hx
  obtain ⟨b, _, rfl⟩ := hx
  exact b.toNat_lt
theorem bstr_sb (s : ByteArray) : bstr (sb s) = s := by
  have e : UInt8.ofNat ∘ UInt8.toNat = id := by funext x; simp
  unfold bstr sb
  rw [List.map_map, e, List.map_id]
theorem sb_length (s : ByteArray) : (sb s).length = s.size := by unfold sb; rw [List.length_map]; rfl
theorem bstr_extract (l : List Nat) (i j : Nat) : (bstr l).extract i j = bstr ((l.drop i).take (j - i)) := by
  apply ByteArray.ext
  rw [ByteArray.data_extract]
  simp only [bstr]
  apply Array.ext'
  simp [List.map_take, List.map_drop, List.extract_eq_take_drop]
section
variable {P : Program}
theorem run_index_bstr (t : TypeId) (h : P.underlying t = some .string) (l : List Nat) (hb : Bts l) (k : IntKind) (i : Nat) (E : Int) (hE : E = (i : Int)) (hi : i < l.length) (w : World) :
    (Instr.index t (.string (bstr l)) (.int k E)).run P w = .ok (.int .u8 ((nth l i : Nat) : Int)) w := by
  subst hE
  rw [run_index_string w t (bstr l) k _ h, dif_pos ⟨by omega, by rw [bstr_size]; omega⟩]
  have e : (bstr l)[((i : Nat) : Int).toNat]'(by rw [bstr_size]; omega) = UInt8.ofNat (nth l i) := by
    simp only [Int.toNat_natCast]
    show ((l.map UInt8.ofNat).toArray)[i]'(by simpa using hi) = _
    rw [nth_lt l hi]; simp
  rw [e, UInt8.toNat_ofNat_of_lt' (by have := hb.nth i; omega)]
theorem run_slice_bstr_to (t : TypeId) (h : P.underlying t = some .string) (l : List Nat) (k : IntKind) (m : Nat) (E : Int) (hE : E = (m : Int)) (hm : m ≤ l.length) (w : World) :
    (Instr.slice t (.string (bstr l)) none (some (.int k E)) none).run P w = .ok (.string (bstr (l.take m))) w := by
  subst hE
  have hs := bstr_size l
  have hj : (0 : Int) ≤ ((m : Nat) : Int) ∧ ((m : Nat) : Int) ≤ ((bstr l).size : Int) := ⟨by omega, by omega⟩
  have e : (bstr l).extract 0 m = bstr (l.take m) := by rw [bstr_extract]; simp
  simp [Instr.slice, Instr.sliceBounds, Instr.sliceBound, asIntOf, run_underlying h, hj, e, hs, hm]
theorem run_slice_bstr_from (t : TypeId) (h : P.underlying t = some .string) (l : List Nat) (k : IntKind) (m : Nat) (E : Int) (hE : E = (m : Int)) (hm : m ≤ l.length) (w : World) :
    (Instr.slice t (.string (bstr l)) (some (.int k E)) none none).run P w = .ok (.string (bstr (l.drop m))) w := by
  subst hE
  have hs := bstr_size l
  have hj : (0 : Int) ≤ ((m : Nat) : Int) ∧ ((m : Nat) : Int) ≤ ((bstr l).size : Int) := ⟨by omega, by omega⟩
  have e : (bstr l).extract m (bstr l).size = bstr (l.drop m) := by rw [bstr_extract, bstr_size, List.take_of_length_le (by simp)]
  rw [hs] at e
  simp [Instr.slice, Instr.sliceBounds, Instr.sliceBound, asIntOf, run_underlying h, hj, e, hs, hm]
end
/-- What []byte(s) makes: the bytes, each readable. -/
theorem run_bytes_bstr {P : Program} (w : World) (src dst e : TypeId) (l : List Nat) (hb : Bts l) (hs : P.underlying src = some .string) (hd : P.underlying dst = some (.slice e)) (he : P.underlying e = some (.int .u8)) :
    ∃ cap o, (convert src dst (.string (bstr l))).run P w = .ok (.slice (some ⟨w.heap.size, 0, none⟩) l.length cap) (w.drew.alloc o) ∧ ∀ j, j < l.length → (w.drew.alloc o).cell? ⟨w.heap.size, j, none⟩ = some (.int .u8 ((nth l j : Nat) : Int)) := by
  refine ⟨_, _, by rw [run_bytes_of_string w src dst e (bstr l) hs hd he, bstr_size], fun j hj => ?_⟩
  have hj' : j < (bstr l).data.size := by simpa [bstr] using hj
  have hat := bytesRow_at (bstr l) (grownCap w l.length 0 e) j hj'
  have e1 : (bstr l).data[j]'hj' = UInt8.ofNat (nth l j) := by rw [nth_lt l hj]; simp [bstr]
  rw [e1, UInt8.toNat_ofNat_of_lt' (by have := hb.nth j; omega)] at hat
  rw [← hat]
  exact cell_of_row _ _ _ _ _ _ (heap_alloc_new w.drew _)
/-- A limb of a row of one's own, written over. -/
theorem OwnR.poke {w : World} {B : Nat} {e : TypeId} {k : IntKind} {g n c : Nat} {l : List Nat} (h : OwnR w B e k (.slice (some ⟨g, 0, none⟩) n c) l) {i y : Nat} (hi : i < l.length) {E : Int} (hE : E = (y : Int)) : OwnR (w.setCell ⟨g, i, none⟩ (.int k E)) B e k (.slice (some ⟨g, 0, none⟩) n c) (l.set i y) := by
  subst hE
  unfold OwnR at h ⊢
  rw [List.length_set]
  refine ⟨by simp, ?_⟩
  rcases h.2 with ⟨e0, _⟩ | ⟨g', cap, cur, e0, hg, hh, h1, h2, h3, h4⟩
  · cases e0
  · injection e0 with a1 a2 a3
    injection a1 with a1; injection a1 with a1
    subst a1 a2 a3
    refine .inr ⟨g, c, cur.setIfInBounds i (.int k (y : Int)), rfl, hg, Blk.set_ hh i _, h1, h2, by simpa using h3, ?_⟩
    rw [Array.toList_setIfInBounds, List.take_set, h4]
    simp [ints, List.map_set]
theorem OwnR.addr {w : World} {B : Nat} {e : TypeId} {k : IntKind} {A : Option Addr} {n c : Nat} {l : List Nat} (h : OwnR w B e k (.slice A n c) l) (hn : 0 < l.length) : ∃ g, A = some ⟨g, 0, none⟩ ∧ B ≤ g ∧ g < w.heap.size ∧ n = l.length ∧ (∀ j, w.frozen? ⟨g, j, none⟩ = false) ∧ ∀ j, j < l.length → w.cell? ⟨g, j, none⟩ = some (.int k ((nth l j : Nat) : Int)) := by
  rcases h.form with ⟨_, rfl⟩ | ⟨g, cap, cur, e0, hg, hh, h1, h2, h3⟩
  · simp at hn
  · injection e0 with a1 a2 a3
    exact ⟨g, a1, hg, hh.lt, a2, fun j => hh.frozen j, fun j hj => (hh.cell j).trans (h3 j hj)⟩
def strLen : Value → Nat | .string s => s.size | _ => 0
/-- One limb of the old number, times ten's power, and what is carried. -/
theorem ten_step {o l : List Nat} {k ten cy cy0 : Nat} (hk : k < o.length) (hl : nth l k = nth o k) (ht : 0 < ten) (h : val o + 4294967296 ^ k * cy = val l + cy0 + (ten - 1) * val (l.take k)) :
    val (o.set k ((cy + nth o k * ten) % 4294967296)) + 4294967296 ^ (k + 1) * ((cy + nth o k * ten) / 4294967296) = val l + cy0 + (ten - 1) * val (l.take (k + 1)) := by
  have h1 := row_step (P := (ten - 1) * nth o k) hk h
  have e : (ten - 1) * nth o k + nth o k + cy = cy + nth o k * ten := by
    obtain ⟨t, rfl⟩ : ∃ t, ten = t + 1 := ⟨ten - 1, by omega⟩
    rw [Nat.add_sub_cancel, Nat.mul_succ, Nat.mul_comm (nth o k) t]; omega
  rw [e] at h1
  rw [h1, val_take_succ', hl, Nat.mul_add, ← Nat.mul_assoc, ← Nat.mul_assoc, Nat.mul_comm (4294967296 ^ k) (ten - 1)]
theorem carry_lt {x ten cy : Nat} (hx : x < 4294967296) (hc : cy < ten) : (cy + x * ten) / 4294967296 < ten := by
  rw [Nat.div_lt_iff_lt_mul (by decide)]
  have h1 : x * ten ≤ 4294967295 * ten := Nat.mul_le_mul_right _ (by omega)
  omega
end Go.Proofs.YtenekbfnlbipiaaDoor
