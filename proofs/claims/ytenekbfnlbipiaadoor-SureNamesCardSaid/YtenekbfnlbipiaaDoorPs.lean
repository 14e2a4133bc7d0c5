/- Plain: numbers out of texts; what a string reads as. No program here. -/
import Derived.Test.YtenekbfnlbipiaaDoorPl2
import Derived.Test.YtenekbfnlbipiaaDoorApp
import Derived.Test.YtenekbfnlbipiaaDoorProg
import Derived.Deep.QuietTactic
import Derived.BigQuiet
import Derived.Handy
namespace Go.Proofs.YtenekbfnlbipiaaDoor
open Go.RowKit
set_option linter.unusedVariables false
set_option linter.unusedSimpArgs false
set_option maxHeartbeats 4000000
set_option maxRecDepth 100000

/-- Is a byte a digit? -/
abbrev Dgt (b : Nat) : Prop := 48 ≤ b ∧ b ≤ 57
/-- The number that a text of digits tells. -/
def dv (l : List Nat) : Nat := l.foldl (fun n b => 10 * n + (b - 48)) 0
theorem dv_from (l : List Nat) : ∀ n, l.foldl (fun n b => 10 * n + (b - 48)) n = n * 10 ^ l.length + dv l := by
  induction l with
  | nil => intro n; simp [dv]
  | cons x l ih =>
    intro n
    unfold dv
    simp only [List.foldl_cons, List.length_cons]
    rw [ih, ih (10 * 0 + (x - 48)), Nat.pow_succ]
    generalize 10 ^ l.length = P
    generalize dv l = D
    simp only [Nat.mul_zero, Nat.zero_add, Nat.add_mul]
    have : 10 * n * P = n * (P * 10) := by rw [Nat.mul_comm 10 n, Nat.mul_assoc, Nat.mul_comm 10 P]
    omega
theorem dv_append (a b : List Nat) : dv (a ++ b) = dv a * 10 ^ b.length + dv b := by
  unfold dv
  rw [List.foldl_append, dv_from]
  rfl
theorem dv_snoc (a : List Nat) (x : Nat) : dv (a ++ [x]) = 10 * dv a + (x - 48) := by
  rw [dv_append]; simp [dv]; omega
theorem dv_take_succ (l : List Nat) (k : Nat) (h : k < l.length) : dv (l.take (k + 1)) = 10 * dv (l.take k) + (nth l k - 48) := by
  have e : l.take (k + 1) = l.take k ++ [nth l k] := by
    rw [nth_lt _ h]; exact (List.take_append_getElem h).symm
  rw [e, dv_snoc]
theorem dv_split (l : List Nat) (k m : Nat) (h : k + m ≤ l.length) : dv (l.take (k + m)) = dv (l.take k) * 10 ^ m + dv ((l.drop k).take m) := by
  have e : l.take (k + m) = l.take k ++ (l.drop k).take m := by rw [List.take_add]
  have hm : ((l.drop k).take m).length = m := by simp; omega
  rw [e, dv_append, hm]
theorem dv_lt (l : List Nat) (h : ∀ x ∈ l, Dgt x) : dv l < 10 ^ l.length := by
  induction l with
  | nil => simp [dv]
  | cons x l ih =>
    have h1 := ih fun y hy => h y (List.mem_cons_of_mem _ hy)
    have h2 := h x List.mem_cons_self
    have e : dv (x :: l) = (x - 48) * 10 ^ l.length + dv l := by
      have := dv_append [x] l
      simpa [dv] using this
    rw [e, List.length_cons, Nat.pow_succ]
    have h3 : (x - 48) * 10 ^ l.length ≤ 9 * 10 ^ l.length := Nat.mul_le_mul_right _ (by omega)
    omega
/-- What Parse answers: the limbs, the place, the error. -/
def parseL (l : List Nat) : List Nat × Int × Int :=
  if 65536 < l.length then ([], 0, 3)
  else if l.findIdx (fun b => !decide (Dgt b)) < l.length then ([], (l.findIdx (fun b => !decide (Dgt b)) : Nat), 12)
  else if l = [] then ([], 0, 12) else (limbs (dv l), 0, 0)
theorem parseL_long {l : List Nat} (h : 65536 < l.length) : parseL l = ([], 0, 3) := if_pos h
theorem parseL_bad {l : List Nat} (h : l.length ≤ 65536) {i : Nat} (hi : i < l.length) (hb : ¬Dgt (nth l i)) (ha : ∀ j, j < i → Dgt (nth l j)) : parseL l = ([], ((i : Nat) : Int), 12) := by
  have e : l.findIdx (fun b => !decide (Dgt b)) = i := by
    rw [List.findIdx_eq hi]
    refine ⟨by rw [← nth_lt l hi]; simp only [Bool.not_eq_true', decide_eq_false_iff_not]; exact hb, fun j hj => ?_⟩
    rw [← nth_lt l (by omega)]
    simpa using ha j hj
  unfold parseL
  rw [if_neg (by omega), e, if_pos hi]
theorem parseL_nil : parseL [] = ([], 0, 12) := rfl
theorem parseL_ok {l : List Nat} (h : l.length ≤ 65536) (hn : l ≠ []) (ha : ∀ j, j < l.length → Dgt (nth l j)) : parseL l = (limbs (dv l), 0, 0) := by
  have e : ¬ l.findIdx (fun b => !decide (Dgt b)) < l.length := by
    intro hlt
    have := List.findIdx_getElem (w := hlt)
    rw [← nth_lt l hlt] at this
    have h2 := ha _ hlt
    simp only [Bool.not_eq_true', decide_eq_false_iff_not] at this
    exact this h2
  unfold parseL
  rw [if_neg (by omega), if_neg e, if_neg hn]

/-- Bytes. -/
def Bts (l : List Nat) : Prop := ∀ x ∈ l, x < 256
theorem Bts.nth {l : List Nat} (h : Bts l) (i : Nat) : nth l i < 256 := by
  rcases Nat.lt_or_ge i l.length with h1 | h1
  · rw [nth_lt l h1]; exact h _ (List.getElem_mem h1)
  · rw [nth_ge l h1]; decide
theorem Bts.take {l : List Nat} (h : Bts l) (n : Nat) : Bts (l.take n) := fun x hx => h x (List.mem_of_mem_take hx)
theorem Bts.drop {l : List Nat} (h : Bts l) (n : Nat) : Bts (l.drop n) := fun x hx => h x (List.mem_of_mem_drop hx)
/-- A string's bytes. -/
def sb (s : ByteArray) : List Nat := s.data.toList.map UInt8.toNat
theorem sb_bts (s : ByteArray) : Bts (sb s) := by
  intro x hx
  simp only [sb, List.mem_map] at hx
  obtain ⟨b, _, rfl⟩ := hx
  exact b.toNat_lt
theorem bstr_sb (s : ByteArray) : bstr (sb s) = s := by
  have e : UInt8.ofNat ∘ UInt8.toNat = id := by funext x; simp
  unfold bstr sb
  rw [List.map_map, e, List.map_id]
theorem sb_length (s : ByteArray) : (sb s).length = s.size := by unfold sb; rw [List.length_map]; rfl
theorem bstr_extract (l : List Nat) (i j : Nat) : (bstr l).extract i j = bstr ((l.drop i).take (j - i)) := by
  apply ByteArray.ext
  rw [ByteArray.data_extract]
  simp only [bstr]
  apply Array.ext'
  simp [List.map_take, List.map_drop, List.extract_eq_take_drop]
section
variable {P : Program}
theorem run_index_bstr (t : TypeId) (h : P.underlying t = some .string) (l : List Nat) (hb : Bts l) (k : IntKind) (i : Nat) (E : Int) (hE : E = (i : Int)) (hi : i < l.length) (w : World) :
    (Instr.index t (.string (bstr l)) (.int k E)).run P w = .ok (.int .u8 ((nth l i : Nat) : Int)) w := by
  subst hE
  rw [run_index_string w t (bstr l) k _ h, dif_pos ⟨by omega, by rw [bstr_size]; omega⟩]
  have e : (bstr l)[((i : Nat) : Int).toNat]'(by rw [bstr_size]; omega) = UInt8.ofNat (nth l i) := by
    simp only [Int.toNat_natCast]
    show ((l.map UInt8.ofNat).toArray)[i]'(by simpa using hi) = _
    rw [nth_lt l hi]; simp
  rw [e, UInt8.toNat_ofNat_of_lt' (by have := hb.nth i; omega)]
theorem run_slice_bstr_to (t : TypeId) (h : P.underlying t = some .string) (l : List Nat) (k : IntKind) (m : Nat) (E : Int) (hE : E = (m : Int)) (hm : m ≤ l.length) (w : World) :
    (Instr.slice t (.string (bstr l)) none (some (.int k E)) none).run P w = .ok (.string (bstr (l.take m))) w := by
  subst hE
  have hs := bstr_size l
  have hj : (0 : Int) ≤ ((m : Nat) : Int) ∧ ((m : Nat) : Int) ≤ ((bstr l).size : Int) := ⟨by omega, by omega⟩
  have e : (bstr l).extract 0 m = bstr (l.take m) := by rw [bstr_extract]; simp
  simp [Instr.slice, Instr.sliceBounds, Instr.sliceBound, asIntOf, run_underlying h, hj, e, hs, hm]
theorem run_slice_bstr_from (t : TypeId) (h : P.underlying t = some .string) (l : List Nat) (k : IntKind) (m : Nat) (E : Int) (hE : E = (m : Int)) (hm : m ≤ l.length) (w : World) :
    (Instr.slice t (.string (bstr l)) (some (.int k E)) none none).run P w = .ok (.string (bstr (l.drop m))) w := by
  subst hE
  have hs := bstr_size l
  have hj : (0 : Int) ≤ ((m : Nat) : Int) ∧ ((m : Nat) : Int) ≤ ((bstr l).size : Int) := ⟨by omega, by omega⟩
  have e : (bstr l).extract m (bstr l).size = bstr (l.drop m) := by rw [bstr_extract, bstr_size, List.take_of_length_le (by simp)]
  rw [hs] at e
  simp [Instr.slice, Instr.sliceBounds, Instr.sliceBound, asIntOf, run_underlying h, hj, e, hs, hm]
end
/-- What []byte(s) makes: the bytes, each readable. -/
theorem run_bytes_bstr {P : Program} (w : World) (src dst e : TypeId) (l : List Nat) (hb : Bts l) (hs : P.underlying src = some .string) (hd : P.underlying dst = some (.slice e)) (he : P.underlying e = some (.int .u8)) :
    ∃ cap o, (convert src dst (.string (bstr l))).run P w = .ok (.slice (some ⟨w.heap.size, 0, none⟩) l.length cap) (w.drew.alloc o) ∧ ∀ j, j < l.length → (w.drew.alloc o).cell? ⟨w.heap.size, j, none⟩ = some (.int .u8 ((nth l j : Nat) : Int)) := by
  refine ⟨_, _, by rw [run_bytes_of_string w src dst e (bstr l) hs hd he, bstr_size], fun j hj => ?_⟩
  have hj' : j < (bstr l).data.size := by simpa [bstr] using hj
  have hat := bytesRow_at (bstr l) (grownCap w l.length 0 e) j hj'
  have e1 : (bstr l).data[j]'hj' = UInt8.ofNat (nth l j) := by rw [nth_lt l hj]; simp [bstr]
  rw [e1, UInt8.toNat_ofNat_of_lt' (by have := hb.nth j; omega)] at hat
  rw [← hat]
  exact cell_of_row _ _ _ _ _ _ (heap_alloc_new w.drew _)
/-- A limb of a row of one's own, written over. -/
theorem OwnR.poke {w : World} {B : Nat} {e : TypeId} {k : IntKind} {g n c : Nat} {l : List Nat} (h : OwnR w B e k (.slice (some ⟨g, 0, none⟩) n c) l) {i y : Nat} (hi : i < l.length) {E : Int} (hE : E = (y : Int)) : OwnR (w.setCell ⟨g, i, none⟩ (.int k E)) B e k (.slice (some ⟨g, 0, none⟩) n c) (l.set i y) := by
  subst hE
  unfold OwnR at h ⊢
  rw [List.length_set]
  refine ⟨by simp, ?_⟩
  rcases h.2 with ⟨e0, _⟩ | ⟨g', cap, cur, e0, hg, hh, h1, h2, h3, h4⟩
  · cases e0
  · injection e0 with a1 a2 a3
    injection a1 with a1; injection a1 with a1
    subst a1 a2 a3
    refine .inr ⟨g, c, cur.setIfInBounds i (.int k (y : Int)), rfl, hg, Blk.set_ hh i _, h1, h2, by simpa using h3, ?_⟩
    rw [Array.toList_setIfInBounds, List.take_set, h4]
    simp [ints, List.map_set]
theorem OwnR.addr {w : World} {B : Nat} {e : TypeId} {k : IntKind} {A : Option Addr} {n c : Nat} {l : List Nat} (h : OwnR w B e k (.slice A n c) l) (hn : 0 < l.length) : ∃ g, A = some ⟨g, 0, none⟩ ∧ B ≤ g ∧ g < w.heap.size ∧ n = l.length ∧ (∀ j, w.frozen? ⟨g, j, none⟩ = false) ∧ ∀ j, j < l.length → w.cell? ⟨g, j, none⟩ = some (.int k ((nth l j : Nat) : Int)) := by
  rcases h.form with ⟨_, rfl⟩ | ⟨g, cap, cur, e0, hg, hh, h1, h2, h3⟩
  · simp at hn
  · injection e0 with a1 a2 a3
    exact ⟨g, a1, hg, hh.lt, a2, fun j => hh.frozen j, fun j hj => (hh.cell j).trans (h3 j hj)⟩
def strLen : Value → Nat | .string s => s.size | _ => 0
/-- One limb of the old number, times ten's power, and what is carried. -/
theorem ten_step {o l : List Nat} {k ten cy cy0 : Nat} (hk : k < o.length) (hl : nth l k = nth o k) (ht : 0 < ten) (h : val o + 4294967296 ^ k * cy = val l + cy0 + (ten - 1) * val (l.take k)) :
    val (o.set k ((cy + nth o k * ten) % 4294967296)) + 4294967296 ^ (k + 1) * ((cy + nth o k * ten) / 4294967296) = val l + cy0 + (ten - 1) * val (l.take (k + 1)) := by
  have h1 := row_step (P := (ten - 1) * nth o k) hk h
  have e : (ten - 1) * nth o k + nth o k + cy = cy + nth o k * ten := by
    obtain ⟨t, rfl⟩ : ∃ t, ten = t + 1 := ⟨ten - 1, by omega⟩
    rw [Nat.add_sub_cancel, Nat.mul_succ, Nat.mul_comm (nth o k) t]; omega
  rw [e] at h1
  rw [h1, val_take_succ', hl, Nat.mul_add, ← Nat.mul_assoc, ← Nat.mul_assoc, Nat.mul_comm (4294967296 ^ k) (ten - 1)]
theorem carry_lt {x ten cy : Nat} (hx : x < 4294967296) (hc : cy < ten) : (cy + x * ten) / 4294967296 < ten := by
  rw [Nat.div_lt_iff_lt_mul (by decide)]
  have h1 : x * ten ≤ 4294967295 * ten := Nat.mul_le_mul_right _ (by omega)
  omega
end Go.Proofs.YtenekbfnlbipiaaDoor
namespace Go.Proofs.YtenekbfnlbipiaaDoor
open Go.RowKit
set_option linter.unusedVariables false
set_option linter.unusedSimpArgs false
set_option maxHeartbeats 4000000
set_option maxRecDepth 100000

theorem chk_facts (l : List Nat) (A : Option Addr) (w : World) (h : Rd w A l) (hn : 0 < l.length) :
    ∃ b off, A = some ⟨b, off, none⟩ ∧ b < w.heap.size ∧ w.cell? ⟨b, off + (l.length - 1), none⟩ = some (.int .u32 ((nth l (l.length - 1) : Nat) : Int)) := by
  obtain ⟨b, off, e, hc⟩ := h.open_ hn
  exact ⟨b, off, e, cell_lt (hc 0 hn), hc _ (by omega)⟩
theorem chk_ten {l : List Nat} (h1 : ¬16384 < l.length) (h2 : 0 < l.length) (h3 : nth l (l.length - 1) = 0) : chk l = 10 := by
  unfold chk; rw [if_neg h1, last_nth (by intro e; rw [e] at h2; simp at h2), h3, if_pos rfl]
theorem chk_ok {l : List Nat} (h1 : ¬16384 < l.length) (h2 : 0 < l.length) (h3 : nth l (l.length - 1) ≠ 0) : chk l = 0 := by
  unfold chk; rw [if_neg h1, last_nth (by intro e; rw [e] at h2; simp at h2), if_neg (by simpa using h3)]
theorem chk_nil {l : List Nat} (h2 : ¬0 < l.length) : chk l = 0 := by
  have : l = [] := List.eq_nil_of_length_eq_zero (by omega)
  subst this; rfl

theorem nat_Check (A : Option Addr) (l : List Nat) (n c : Nat) (hn : n = l.length) (w : World) (h : Rd w A l) :
    Calls Tryd.prog 76 #[.agg #[.slice A n c]] w (Says w (.int .i64 (chk l))) := by
  subst hn
  have hl := h.len
  by_cases h1 : 16384 < l.length
  · have e : chk l = 4 := by unfold chk; rw [if_pos h1]
    rw [e]
    go_enter Tryd.func76, Tryd.ntmps76
    go_wp2
    go_ret
    exact ⟨rfl, (Below.refl _ _).alloc (Nat.le_refl _) _⟩
  · by_cases h2 : 0 < l.length
    · obtain ⟨b, off, rfl, hb, hc⟩ := chk_facts l A w h h2
      by_cases h3 : nth l (l.length - 1) = 0
      · rw [chk_ten h1 h2 h3]
        rw [h3] at hc
        go_enter Tryd.func76, Tryd.ntmps76
        go_wp2
        go_ret
        exact ⟨rfl, (Below.refl _ _).alloc (Nat.le_refl _) _⟩
      · rw [chk_ok h1 h2 h3]
        have h3' : (((nth l (l.length - 1) : Nat) : Int) == 0) = false := by simp; exact h3
        go_enter Tryd.func76, Tryd.ntmps76
        go_wp2
        go_ret
        exact ⟨rfl, (Below.refl _ _).alloc (Nat.le_refl _) _⟩
    · rw [chk_nil h2]
      go_enter Tryd.func76, Tryd.ntmps76
      go_wp2
      go_ret
      exact ⟨rfl, (Below.refl _ _).alloc (Nat.le_refl _) _⟩

theorem ref_Check (A : Option Addr) (l : List Nat) (n c : Nat) (hn : n = l.length) (w : World) (h : Rd w A l) :
    Calls Tryd.prog 56 #[.agg #[.slice A n c]] w (Says w (.int .i64 (chk l))) := by
  subst hn
  have hl := h.len
  by_cases h1 : 16384 < l.length
  · have e : chk l = 4 := by unfold chk; rw [if_pos h1]
    rw [e]
    go_enter Tryd.func56, Tryd.ntmps56
    go_wp2
    go_ret
    exact ⟨rfl, (Below.refl _ _).alloc (Nat.le_refl _) _⟩
  · by_cases h2 : 0 < l.length
    · obtain ⟨b, off, rfl, hb, hc⟩ := chk_facts l A w h h2
      by_cases h3 : nth l (l.length - 1) = 0
      · rw [chk_ten h1 h2 h3]
        rw [h3] at hc
        go_enter Tryd.func56, Tryd.ntmps56
        go_wp2
        go_ret
        exact ⟨rfl, (Below.refl _ _).alloc (Nat.le_refl _) _⟩
      · rw [chk_ok h1 h2 h3]
        have h3' : (((nth l (l.length - 1) : Nat) : Int) == 0) = false := by simp; exact h3
        go_enter Tryd.func56, Tryd.ntmps56
        go_wp2
        go_ret
        exact ⟨rfl, (Below.refl _ _).alloc (Nat.le_refl _) _⟩
    · rw [chk_nil h2]
      go_enter Tryd.func56, Tryd.ntmps56
      go_wp2
      go_ret
      exact ⟨rfl, (Below.refl _ _).alloc (Nat.le_refl _) _⟩

theorem bdn {B : Nat} {a w : World} (h : Below B a w) (n : Nat) : Below B a (w.drewN n) := h.trans ⟨rfl, rfl, rfl, Nat.le_refl _, fun _ _ => rfl⟩
theorem rd_at {w wr : World} {A : Option Addr} {l : List Nat} (h : Rd w A l) (hb : Below w.heap.size w wr) {k : Nat} (hk : k < l.length) :
    ∃ b off, A = some ⟨b, off, none⟩ ∧ wr.cell? ⟨b, off + k, none⟩ = some (.int .u32 ((nth l k : Nat) : Int)) := by
  obtain ⟨b, off, e, hc⟩ := (h.below hb).open_ (by omega)
  exact ⟨b, off, e, hc k hk⟩

theorem nat_cmp (A B : Option Addr) (a b : List Nat) (n m c d : Nat) (hn : n = a.length) (hm : m = b.length) (w : World) (ha : Rd w A a) (hb : Rd w B b) :
    Calls Tryd.prog 81 #[.slice A n c, .slice B m d] w (Says w (.int .i64 (cmpL a b))) := by
  subst hn hm
  have hla := ha.len
  have hlb := hb.len
  by_cases h1 : a.length < b.length
  · have e : cmpL a b = -1 := by unfold cmpL; rw [if_pos h1]
    rw [e]
    go_enter Tryd.func81, Tryd.ntmps81
    go_wp2
    go_ret
    exact ⟨rfl, Below.refl _ _⟩
  by_cases h2 : b.length < a.length
  · have e : cmpL a b = 1 := by unfold cmpL; rw [if_neg h1, if_pos h2]
    rw [e]
    go_enter Tryd.func81, Tryd.ntmps81
    go_wp2
    go_ret
    exact ⟨rfl, Below.refl _ _⟩
  have hl : a.length = b.length := by omega
  have HL := Lib.hid hl
  clear hl
  go_enter Tryd.func81, Tryd.ntmps81
  go_wp2
  go_loopw [5] (fun i wr => ∃ k : Nat, k ≤ a.length ∧ i = .int .i64 ((k : Int) - 1) ∧ a.drop k = b.drop k ∧ Below w.heap.size w wr) (fun i _ => (intOf i + 1).toNat)
  case atStart => exact ⟨a.length, Nat.le_refl _, rfl, by rw [List.drop_length, HL.out, List.drop_length], Below.refl _ _⟩
  case round =>
    obtain ⟨k, hk, rfl, hd, hbl⟩ := hrel
    have HD := Lib.hid hd
    clear hd
    by_cases hk0 : k = 0
    · subst hk0
      have e : cmpL a b = 0 := (cmpL_zero ha.sm hb.sm).2 (by simpa using HD.out)
      have E := Lib.hid e
      clear e
      go_wp2
      go_ret
      rw [E.out]
      exact ⟨rfl, hbl⟩
    · obtain ⟨k, rfl⟩ : ∃ j, k = j + 1 := ⟨k - 1, by omega⟩
      obtain ⟨ba, oa, rfl, hca⟩ := rd_at ha hbl (k := k) (by omega)
      obtain ⟨bb, ob, rfl, hcb⟩ := rd_at hb hbl (k := k) (by omega)
      rcases Nat.lt_trichotomy (nth a k) (nth b k) with h3 | h3 | h3
      · have E := Lib.hid (cmpL_top_lt HL.out ha.sm k (by omega) HD.out h3)
        go_wp2
        go_quiet (fail)
        go_wp2
        go_ret
        rw [E.out]
        exact ⟨rfl, (by repeat (first | assumption | exact Below.refl _ _ | refine bdn ?_ _ | refine Below.drew ?_))⟩
      · have E := Lib.hid (drop_step HL.out k (by omega) HD.out h3)
        rw [h3] at hca
        clear h3
        go_wp2
        go_quiet (fail)
        go_wp2
        go_quiet (fail)
        go_wp2
        go_roundw
        case rel => exact ⟨k, by omega, by go_num, E.out, (by repeat (first | assumption | exact Below.refl _ _ | refine bdn ?_ _ | refine Below.drew ?_))⟩
        case measure => first | (simp [intOf]; done) | (simp [intOf]; omega)
      · have E := Lib.hid (cmpL_top_gt HL.out hb.sm k (by omega) HD.out h3)
        have h4 : ¬ (nth a k < nth b k) := by omega
        go_wp2
        go_quiet (fail)
        go_wp2
        go_quiet (fail)
        go_wp2
        go_ret
        rw [E.out]
        exact ⟨rfl, (by repeat (first | assumption | exact Below.refl _ _ | refine bdn ?_ _ | refine Below.drew ?_))⟩

theorem ref_cmp (A B : Option Addr) (a b : List Nat) (n m c d : Nat) (hn : n = a.length) (hm : m = b.length) (w : World) (ha : Rd w A a) (hb : Rd w B b) :
    Calls Tryd.prog 62 #[.slice A n c, .slice B m d] w (Says w (.int .i64 (cmpL a b))) := by
  subst hn hm
  have hla := ha.len
  have hlb := hb.len
  by_cases h1 : a.length < b.length
  · have e : cmpL a b = -1 := by unfold cmpL; rw [if_pos h1]
    have hne : ((a.length : Int) != (b.length : Int)) = true := by rw [bne_iff_ne]; omega
    rw [e]
    go_enter Tryd.func62, Tryd.ntmps62
    go_wp2
    go_ret
    exact ⟨rfl, Below.refl _ _⟩
  by_cases h2 : b.length < a.length
  · have e : cmpL a b = 1 := by unfold cmpL; rw [if_neg h1, if_pos h2]
    have hne : ((a.length : Int) != (b.length : Int)) = true := by rw [bne_iff_ne]; omega
    rw [e]
    go_enter Tryd.func62, Tryd.ntmps62
    go_wp2
    go_ret
    exact ⟨rfl, Below.refl _ _⟩
  have hl : a.length = b.length := by omega
  have hne : ((a.length : Int) != (b.length : Int)) = false := by simp [hl]
  have HL := Lib.hid hl
  clear hl
  go_enter Tryd.func62, Tryd.ntmps62
  go_wp2
  go_loopw [5] (fun i wr => ∃ k : Nat, k ≤ a.length ∧ i = .int .i64 ((k : Int) - 1) ∧ a.drop k = b.drop k ∧ Below w.heap.size w wr) (fun i _ => (intOf i + 1).toNat)
  case atStart => exact ⟨a.length, Nat.le_refl _, rfl, by rw [List.drop_length, HL.out, List.drop_length], Below.refl _ _⟩
  case round =>
    obtain ⟨k, hk, rfl, hd, hbl⟩ := hrel
    have HD := Lib.hid hd
    clear hd
    by_cases hk0 : k = 0
    · subst hk0
      have e : cmpL a b = 0 := (cmpL_zero ha.sm hb.sm).2 (by simpa using HD.out)
      have E := Lib.hid e
      clear e
      go_wp2
      go_ret
      rw [E.out]
      exact ⟨rfl, hbl⟩
    · obtain ⟨k, rfl⟩ : ∃ j, k = j + 1 := ⟨k - 1, by omega⟩
      obtain ⟨ba, oa, rfl, hca⟩ := rd_at ha hbl (k := k) (by omega)
      obtain ⟨bb, ob, rfl, hcb⟩ := rd_at hb hbl (k := k) (by omega)
      rcases Nat.lt_trichotomy (nth a k) (nth b k) with h3 | h3 | h3
      · have E := Lib.hid (cmpL_top_lt HL.out ha.sm k (by omega) HD.out h3)
        go_wp2
        go_quiet (fail)
        go_wp2
        go_ret
        rw [E.out]
        exact ⟨rfl, (by repeat (first | assumption | exact Below.refl _ _ | refine bdn ?_ _ | refine Below.drew ?_))⟩
      · have E := Lib.hid (drop_step HL.out k (by omega) HD.out h3)
        rw [h3] at hca
        clear h3
        go_wp2
        go_quiet (fail)
        go_wp2
        go_quiet (fail)
        go_wp2
        go_roundw
        case rel => exact ⟨k, by omega, by go_num, E.out, (by repeat (first | assumption | exact Below.refl _ _ | refine bdn ?_ _ | refine Below.drew ?_))⟩
        case measure => first | (simp [intOf]; done) | (simp [intOf]; omega)
      · have E := Lib.hid (cmpL_top_gt HL.out hb.sm k (by omega) HD.out h3)
        have h4 : ¬ (nth a k < nth b k) := by omega
        go_wp2
        go_quiet (fail)
        go_wp2
        go_quiet (fail)
        go_wp2
        go_ret
        rw [E.out]
        exact ⟨rfl, (by repeat (first | assumption | exact Below.refl _ _ | refine bdn ?_ _ | refine Below.drew ?_))⟩

end Go.Proofs.YtenekbfnlbipiaaDoor
namespace Go.Proofs.YtenekbfnlbipiaaDoor
open Go.RowKit
set_option linter.unusedVariables false
set_option linter.unusedSimpArgs false
set_option maxHeartbeats 4000000
set_option maxRecDepth 100000

theorem ref_Trim (A : Option Addr) (l : List Nat) (n c : Nat) (hn : n = l.length) (hc : n ≤ c) (w : World) (h : Rd w A l) :
    Calls Tryd.prog 55 #[.slice A n c] w fun e w' => e = .returned (.slice A (limbs (val l)).length c) ∧ w = w' := by
  subst hn
  have hl := h.len
  go_enter Tryd.func55, Tryd.ntmps55
  go_wp2
  go_loop [3] (fun i => ∃ k : Nat, k ≤ l.length ∧ i = .int .i64 (k : Int) ∧ (∀ j, k ≤ j → nth l j = 0)) (fun i => (intOf i).toNat)
  case atStart => exact ⟨l.length, Nat.le_refl _, rfl, fun j hj => nth_ge l hj⟩
  case round =>
    obtain ⟨k, hk, rfl, hz⟩ := hrel
    have HZ := Lib.hid hz
    clear hz
    by_cases hk0 : k = 0
    · subst hk0
      have E := Lib.hid (trim_end h.sm 0 hk HZ.out (.inl rfl))
      go_wp2
      go_ret
      rw [E.out.2]
      exact ⟨rfl, rfl⟩
    · obtain ⟨k, rfl⟩ : ∃ j, k = j + 1 := ⟨k - 1, by omega⟩
      obtain ⟨b, o, rfl, hc1⟩ := h.open_ (by omega)
      have hc2 := hc1 k (by omega)
      have hbs : b < w.heap.size := cell_lt hc2
      clear hc1
      by_cases h3 : nth l k = 0
      · rw [h3] at hc2
        have E : Hid (∀ j, k ≤ j → nth l j = 0) := fun j hj => by
          rcases Nat.lt_or_ge k j with h4 | h4
          · exact HZ.out j h4
          · have : j = k := by omega
            rw [this]; exact h3
        clear h3
        go_wp2
        go_round
        case rel => exact ⟨k, by omega, by go_num, E.out⟩
        case measure => first | (simp [intOf]; done) | (simp [intOf]; omega)
      · have E := Lib.hid (trim_end h.sm (k + 1) hk HZ.out (.inr h3))
        have h3' : (((nth l k : Nat) : Int) == 0) = false := by simp; exact h3
        clear h3
        go_wp2
        go_ret
        rw [E.out.2]
        exact ⟨rfl, rfl⟩

/-- What trimmed answers: the list's number, where the list lies; nothing, if it is 0. -/
def TrimPost (A : Option Addr) (l : List Nat) (w : World) (e : Ending) (w' : World) : Prop :=
  ∃ A', (A' = A ∨ A' = none) ∧ (A' = none → val l = 0) ∧ e = .returned (.agg #[.slice A' (limbs (val l)).length (limbs (val l)).length]) ∧ Below w.heap.size w w'

theorem nat_trimmed (A : Option Addr) (l : List Nat) (n c : Nat) (hn : n = l.length) (hc : n ≤ c) (w : World) (h : Rd w A l) :
    Calls Tryd.prog 78 #[.slice A n c] w (TrimPost A l w) := by
  subst hn
  have hl := h.len
  go_enter Tryd.func78, Tryd.ntmps78
  go_wp2
  go_loop [3] (fun i => ∃ k : Nat, k ≤ l.length ∧ i = .int .i64 (k : Int) ∧ (∀ j, k ≤ j → nth l j = 0)) (fun i => (intOf i).toNat)
  case atStart => exact ⟨l.length, Nat.le_refl _, rfl, fun j hj => nth_ge l hj⟩
  case round =>
    obtain ⟨k, hk, rfl, hz⟩ := hrel
    have HZ := Lib.hid hz
    clear hz
    by_cases hk0 : k = 0
    · subst hk0
      have E := Lib.hid (trim_end h.sm 0 hk HZ.out (.inl rfl))
      go_wp2
      go_returns
      have e0 : val l = 0 := by
        have := E.out.1
        rw [List.take_zero, limbs_eq_nil] at this; exact this
      exact ⟨none, .inr rfl, fun _ => e0, by rw [E.out.2], (Below.refl _ _).alloc (Nat.le_refl _) _⟩
    · obtain ⟨k, rfl⟩ : ∃ j, k = j + 1 := ⟨k - 1, by omega⟩
      obtain ⟨b, o, rfl, hc1⟩ := h.open_ (by omega)
      have hc2 := hc1 k (by omega)
      have hbs : b < w.heap.size := cell_lt hc2
      clear hc1
      by_cases h3 : nth l k = 0
      · rw [h3] at hc2
        have E : Hid (∀ j, k ≤ j → nth l j = 0) := fun j hj => by
          rcases Nat.lt_or_ge k j with h4 | h4
          · exact HZ.out j h4
          · have : j = k := by omega
            rw [this]; exact h3
        clear h3
        go_wp2
        go_round
        case rel => exact ⟨k, by omega, by go_num, E.out⟩
        case measure => first | (simp [intOf]; done) | (simp [intOf]; omega)
      · have E := Lib.hid (trim_end h.sm (k + 1) hk HZ.out (.inr h3))
        have h3' : (((nth l k : Nat) : Int) == 0) = false := by simp; exact h3
        have h5 : (((k : Int) + 1) == 0) = false := by simp; omega
        clear h3
        go_wp2
        go_returns
        exact ⟨_, .inl rfl, fun hh => (by cases hh), by rw [E.out.2], (Below.refl _ _).alloc (Nat.le_refl _) _⟩

theorem ref_nat (A : Option Addr) (n c : Nat) (w : World) :
    Calls Tryd.prog 54 #[.slice A n c] w fun e w' => e = .returned (.agg #[.slice A n c]) ∧ Below w.heap.size w w' := by
  go_enter Tryd.func54, Tryd.ntmps54
  go_wp2
  go_returns
  exact ⟨rfl, (Below.refl _ _).alloc (Nat.le_refl _) _⟩

theorem ref_limb (A : Option Addr) (l : List Nat) (n c : Nat) (hn : n = l.length) (i : Int) (hi : 0 ≤ i) (w : World) (h : Rd w A l) :
    Calls Tryd.prog 87 #[.slice A n c, .int .i64 i] w fun e w' => e = .returned (.int .u64 ((nth l i.toNat : Nat) : Int)) ∧ w = w' := by
  subst hn
  have hl := h.len
  obtain ⟨k, rfl⟩ := Int.eq_ofNat_of_zero_le hi
  rw [Int.toNat_natCast]
  by_cases hk : k < l.length
  · obtain ⟨b, o, rfl, hc1⟩ := h.open_ (by omega)
    have hc2 := hc1 k hk
    have hs := h.sm.nth k
    clear hc1
    go_enter Tryd.func87, Tryd.ntmps87
    go_wp2
    go_ret
    exact ⟨by go_num, rfl⟩
  · rw [nth_ge l (by omega)]
    go_enter Tryd.func87, Tryd.ntmps87
    go_wp2
    go_ret
    exact ⟨rfl, rfl⟩
end Go.Proofs.YtenekbfnlbipiaaDoor
