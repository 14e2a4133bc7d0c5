/- Rows of numbers of whatever kind; bytes as a string. No program here. -/
import Derived.Test.YtenekbfnlbipiaaDoorApp
import Derived.Test.YtenekbfnlbipiaaDoorDec
namespace Go.Proofs.YtenekbfnlbipiaaDoor
open Go.RowKit
set_option linter.unusedVariables false
set_option linter.unusedSimpArgs false
set_option maxHeartbeats 4000000
set_option maxRecDepth 100000

/-- A row of the call's own: block g (element type t) holds just the numbers l, of kind k. -/
def RowK (w : World) (t : TypeId) (k : IntKind) (g : Nat) (l : List Nat) : Prop := Blk w g t (ints k l).toArray
section
variable {w w' : World} {g : Nat} {t : TypeId} {k : IntKind} {l : List Nat}
theorem RowK.lt (h : RowK w t k g l) : g < w.heap.size := Blk.lt h
theorem RowK.cell (h : RowK w t k g l) (i : Nat) (hi : i < l.length) : w.cell? ⟨g, i, none⟩ = some (.int k ((nth l i : Nat) : Int)) := by
  rw [Blk.cell h, List.getElem?_toArray]; exact ints_get k l i hi
theorem RowK.frozen (h : RowK w t k g l) (i : Nat) : w.frozen? ⟨g, i, none⟩ = false := Blk.frozen h i
theorem RowK.setE (h : RowK w t k g l) (i x : Nat) {E : Int} (hE : E = (x : Int)) : RowK (w.setCell ⟨g, i, none⟩ (.int k E)) t k g (l.set i x) := by
  rw [hE]
  have := Blk.set_ h i (.int k (x : Int))
  unfold RowK
  have e : (ints k (l.set i x)).toArray = (ints k l).toArray.setIfInBounds i (.int k (x : Int)) := by simp [ints, List.map_set]
  rw [e]; exact this
theorem RowK.alloc (h : RowK w t k g l) (o : Obj) : RowK (w.alloc o) t k g l := Blk.alloc h o
theorem RowK.below {B : Nat} (h : RowK w t k g l) (hb : Below B w w') (hg : g < B) : RowK w' t k g l := Blk.below h hb hg
theorem RowK.far (h : RowK w t k g l) {p : Addr} (hp : g ≠ p.block) (u : Value) : RowK (w.setCell p u) t k g l := Blk.far h hp u
theorem RowK.drewN (h : RowK w t k g l) (n : Nat) : RowK (w.drewN n) t k g l := h
theorem rowK_new {w : World} {cs : Array Value} (hc : cs = (ints k l).toArray) (hg : g = w.heap.size) : RowK (w.alloc (.cells cs t)) t k g l := by
  subst hc hg; exact Blk.new w t _
end
/-- make of numbers of kind k. -/
theorem run_makeK {P : Program} (t e : TypeId) (k : IntKind) (i : TypeInfo) (ht : P.underlying t = some (.slice e)) (hi : P.info? e = some i) (hz : i.zero = some (.int k 0)) (hs : i.size = 1) (hb : i.bytes ≤ 8)
    (n : Nat) (N : Int) (hN : N = (n : Int)) (hn : n ≤ 35184372088832) (w : World) :
    (Instr.makeSlice t (.int .i64 N) (.int .i64 N)).run P w = .ok (.slice (some ⟨w.heap.size, 0, none⟩) n n) (w.alloc (.cells (ints k (List.replicate n 0)).toArray e)) := by
  have hbn : i.bytes * n ≤ 8 * n := Nat.mul_le_mul_right _ hb
  have hbN : (i.bytes : Int) * N ≤ 281474976710656 := by
    rw [hN, ← Int.natCast_mul]; omega
  have hr := run_make (P := P) w t e i _ ht hi hz .i64 .i64 N N (by omega) (by omega) hbN (by omega)
  rw [hr, hs, hN]
  have hc : madeCells (Value.int k 0).cells (n * 1) = (ints k (List.replicate n 0)).toArray := by
    apply Array.ext
    · simp [madeCells]
    · intro j h1 h2
      simp [madeCells, ints, Value.cells, Nat.mod_one]
  simp only [Int.toNat_natCast, hc]

/-- A slice of numbers of kind k reads as the list l. -/
def RdK (k : IntKind) (w : World) (A : Option Addr) (l : List Nat) : Prop :=
  0 < l.length → ∃ b off, A = some ⟨b, off, none⟩ ∧ ∀ j, j < l.length → w.cell? ⟨b, off + j, none⟩ = some (.int k ((nth l j : Nat) : Int))
theorem RdK.keep {k : IntKind} {w w' : World} {A : Option Addr} {l : List Nat} (h : RdK k w A l) (hk : ∀ p : Addr, p.block < w.heap.size → w'.cell? p = w.cell? p) : RdK k w' A l := fun hn => by
  obtain ⟨b, off, e, hc⟩ := h hn
  exact ⟨b, off, e, fun j hj => (hk _ (cell_lt (hc j hj))).trans (hc j hj)⟩
theorem RdK.below {k : IntKind} {w w' : World} {A : Option Addr} {l : List Nat} (h : RdK k w A l) (hb : Below w.heap.size w w') : RdK k w' A l := h.keep fun _ hp => hb.cell hp
theorem Rd.k {w : World} {A : Option Addr} {l : List Nat} (h : Rd w A l) : RdK .u32 w A l := h.2.2

/-- The cells of an owned row, whichever its form. -/
theorem OwnR.rdK {w : World} {B : Nat} {e : TypeId} {k : IntKind} {A : Option Addr} {n c : Nat} {l : List Nat} (h : OwnR w B e k (.slice A n c) l) : RdK k w A l := fun hn => by
  rcases h.form with ⟨_, rfl⟩ | ⟨g, cap, cur, e, hg, hh, hnc, hcs, hc⟩
  · simp at hn
  · injection e with e1 e2 e3
    exact ⟨g, 0, e1, fun j hj => by rw [hh.cell, Nat.zero_add]; exact hc j hj⟩

/-- Bytes as a string. -/
def bstr (l : List Nat) : ByteArray := ⟨(l.map UInt8.ofNat).toArray⟩
theorem bstr_size (l : List Nat) : (bstr l).size = l.length := by simp [bstr, ByteArray.size]
theorem strOfNums_bstr (l : List Nat) : strOfNums (l.map fun x : Nat => (x : Int)) = bstr l := by
  unfold strOfNums bstr
  rw [List.map_map]
  congr 2
theorem bstr_inj {a b : List Nat} (ha : ∀ x ∈ a, x < 256) (hb : ∀ x ∈ b, x < 256) (h : bstr a = bstr b) : a = b := by
  have h1 : a.map UInt8.ofNat = b.map UInt8.ofNat := by
    have := congrArg (fun s : ByteArray => s.data.toList) h
    simpa [bstr] using this
  have back : ∀ l : List Nat, (∀ x ∈ l, x < 256) → (l.map UInt8.ofNat).map UInt8.toNat = l := by
    intro l hl
    induction l with
    | nil => rfl
    | cons x l ih =>
      simp only [List.map_cons]
      rw [ih fun y hy => hl y (List.mem_cons_of_mem _ hy)]
      have := hl x List.mem_cons_self
      rw [UInt8.toNat_ofNat_of_lt' (by omega)]
  rw [← back a ha, h1, back b hb]
/-- string(bytes), the bytes in memory. -/
theorem run_bytes {P : Program} (w : World) (src e dst : TypeId) (hs : P.underlying src = some (.slice e)) (he : P.underlying e = some (.int .u8)) (hd : P.underlying dst = some .string)
    (b off len cap : Nat) (l : List Nat) (hl : l.length = len) (hc : ∀ j, j < l.length → w.cell? ⟨b, off + j, none⟩ = some (.int .u8 ((nth l j : Nat) : Int))) :
    (convert src dst (.slice (some ⟨b, off, none⟩) len cap)).run P w = .ok (.string (bstr l)) w := by
  rw [← strOfNums_bstr]
  refine run_convert_bytes_arg w src e hs he b off len cap _ (by simpa using hl) (fun i hi => ?_) dst hd
  rw [hc i (by omega), nth_lt l (by omega), List.getD_eq_getElem?_getD]
  simp [show i < l.length by omega]

/-- A slice of limbs whose block is old or holds limbs: an append elsewhere leaves it alone. -/
def RdS (w : World) (B : Nat) (t : TypeId) (A : Option Addr) (l : List Nat) : Prop :=
  Rd w A l ∧ ∀ a, A = some a → 0 < l.length → a.block < B ∨ ∃ cur, Blk w a.block t cur
theorem RdS.rd {w : World} {B : Nat} {t : TypeId} {A : Option Addr} {l : List Nat} (h : RdS w B t A l) : Rd w A l := h.1
theorem Own.rdS {w : World} {B B' c : Nat} {t : TypeId} {A : Option Addr} {l : List Nat} (h : Own w t B' A c l) : RdS w B t A l := by
  refine ⟨h.rd, fun a ha hn => ?_⟩
  rcases h.2.2 with ⟨rfl, _⟩ | ⟨g, cur, rfl, hg, hk, r⟩
  · cases ha
  · injection ha with ha; subst ha; exact .inr ⟨cur, hk⟩
theorem Rd.rdS {w : World} {B : Nat} {t : TypeId} {A : Option Addr} {l : List Nat} (h : Rd w A l) (hB : w.heap.size ≤ B) : RdS w B t A l := by
  refine ⟨h, fun a ha hn => .inl ?_⟩
  obtain ⟨b, off, e, hc⟩ := h.open_ hn
  have := cell_lt (hc 0 hn)
  rw [ha] at e; injection e with e; subst e
  simp at this ⊢; omega
theorem RdS.below {w w' : World} {B : Nat} {t : TypeId} {A : Option Addr} {l : List Nat} (h : RdS w B t A l) (hb : Below w.heap.size w w') : RdS w' B t A l := by
  refine ⟨h.1.below hb, fun a ha hn => ?_⟩
  rcases h.2 a ha hn with h1 | ⟨cur, hk⟩
  · exact .inl h1
  · exact .inr ⟨cur, hk.below hb hk.lt⟩
theorem RdS.grown {w w' : World} {B : Nat} {t e : TypeId} {k : IntKind} {v : Value} {m : List Nat} {A : Option Addr} {l : List Nat} (h : RdS w B t A l) (hg : w.grownBy w' v.ownBlock) (hown : OwnR w B e k v m) (hne : e ≠ t) : RdS w' B t A l := by
  have key : ∀ a, A = some a → 0 < l.length → w'.heap[a.block]? = w.heap[a.block]? := by
    intro a ha hn
    obtain ⟨b, off, e', hc⟩ := h.1.open_ hn
    have hlt := cell_lt (hc 0 hn)
    rw [ha] at e'; injection e' with e'; subst e'
    refine hg.block _ hlt fun he => ?_
    have hlt2 := (hown.lt b he.symm).1
    rcases h.2 _ ha hn with h1 | ⟨cur, hk⟩
    · simp at h1; omega
    · rcases hown.form with ⟨rfl, _⟩ | ⟨g, cap, cur', rfl, _, hh, _⟩
      · simp [Value.ownBlock] at he
      · simp [Value.ownBlock] at he
        subst he
        unfold Blk at hk hh
        simp only at hk
        rw [hk] at hh; injection hh with hh; injection hh with _ hh
        exact hne hh.symm
  refine ⟨⟨h.1.1, h.1.2.1, fun hn => ?_⟩, fun a ha hn => ?_⟩
  · obtain ⟨b, off, e', hc⟩ := h.1.open_ hn
    refine ⟨b, off, e', fun j hj => ?_⟩
    rw [← hc j hj]
    have := key _ e' hn
    unfold World.cell?
    rw [this]
  · rcases h.2 a ha hn with h1 | ⟨cur, hk⟩
    · exact .inl h1
    · exact .inr ⟨cur, (key a ha hn).trans hk⟩
def sliceLen : Value → Nat | .slice _ n _ => n | _ => 0
theorem OwnR.len {w : World} {B : Nat} {e : TypeId} {k : IntKind} {v : Value} {l : List Nat} (h : OwnR w B e k v l) : sliceLen v = l.length ∧ ∃ A c, v = .slice A l.length c := by
  rcases h.form with ⟨rfl, rfl⟩ | ⟨g, cap, cur, rfl, _⟩
  · exact ⟨rfl, _, _, rfl⟩
  · exact ⟨rfl, _, _, rfl⟩
end Go.Proofs.YtenekbfnlbipiaaDoor
