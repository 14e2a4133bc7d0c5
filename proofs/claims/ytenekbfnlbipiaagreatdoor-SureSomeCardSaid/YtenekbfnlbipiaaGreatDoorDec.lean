/- Plain laws on decimal digits, the lowest first. No program here. -/
import Derived.Test.YtenekbfnlbipiaaGreatDoorPlain
import Derived.Test.YtenekbfnlbipiaaGreatDoorBits
import Derived.Test.YtenekbfnlbipiaaGreatDoorBgF
import Derived.Test.YtenekbfnlbipiaaGreatDoorBgA
import Derived.Test.YtenekbfnlbipiaaGreatDoorBgB
import Derived.Test.YtenekbfnlbipiaaGreatDoorBgAA
import Derived.Deep.RegionHeld3
namespace Go.Proofs.YtenekbfnlbipiaaGreatDoor
open Go.RowKit
set_option linter.unusedVariables false
set_option linter.unusedSimpArgs false
set_option maxHeartbeats 4000000
set_option maxRecDepth 100000

def dval : List Nat → Nat
  | [] => 0
  | x :: l => x + 10 * dval l
def digsF : Nat → Nat → List Nat
  | 0, _ => []
  | k + 1, n => if n = 0 then [] else n % 10 :: digsF k (n / 10)
def digs (n : Nat) : List Nat := digsF n n
def Dg (l : List Nat) : Prop := ∀ x ∈ l, x < 10
theorem Dg.nil : Dg [] := by intro x h; cases h
theorem Dg.cons {x : Nat} {l : List Nat} (hx : x < 10) (h : Dg l) : Dg (x :: l) := by
  intro y hy; rcases List.mem_cons.1 hy with rfl | hy
  · exact hx
  · exact h y hy
theorem Dg.tail {x : Nat} {l : List Nat} (h : Dg (x :: l)) : Dg l := fun y hy => h y (List.mem_cons_of_mem _ hy)
theorem Dg.head {x : Nat} {l : List Nat} (h : Dg (x :: l)) : x < 10 := h x List.mem_cons_self
theorem Dg.append {a b : List Nat} (ha : Dg a) (hb : Dg b) : Dg (a ++ b) := by
  intro y hy; rcases List.mem_append.1 hy with h | h
  · exact ha y h
  · exact hb y h
theorem dval_append (a b : List Nat) : dval (a ++ b) = dval a + 10 ^ a.length * dval b := by
  induction a with
  | nil => simp [dval]
  | cons x a ih => simp only [List.cons_append, dval, ih, List.length_cons, Nat.pow_succ]; grind
theorem dval_lt {l : List Nat} (h : Dg l) : dval l < 10 ^ l.length := by
  induction l with
  | nil => simp [dval]
  | cons x l ih =>
    have := ih h.tail
    have hx := h.head
    simp only [dval, List.length_cons, Nat.pow_succ]
    omega
theorem digsF_val : ∀ k n : Nat, n ≤ k → dval (digsF k n) = n
  | 0, n, h => by obtain rfl : n = 0 := by omega
                  rfl
  | k + 1, n, h => by
    unfold digsF
    by_cases h0 : n = 0
    · rw [if_pos h0, h0]; rfl
    · rw [if_neg h0]
      simp only [dval]
      rw [digsF_val k (n / 10) (by omega)]
      omega
theorem digsF_dg : ∀ k n : Nat, Dg (digsF k n)
  | 0, n => Dg.nil
  | k + 1, n => by
    unfold digsF
    by_cases h0 : n = 0
    · rw [if_pos h0]; exact Dg.nil
    · rw [if_neg h0]; exact Dg.cons (by omega) (digsF_dg k _)
theorem digsF_low : ∀ k n : Nat, n ≤ k → n ≠ 0 → 10 ^ ((digsF k n).length - 1) ≤ n
  | 0, n, h, h0 => by omega
  | k + 1, n, h, h0 => by
    unfold digsF
    rw [if_neg h0]
    by_cases h1 : n / 10 = 0
    · have : digsF k (n / 10) = [] := by
        rw [h1]; cases k <;> simp [digsF]
      rw [this]; simp; omega
    · have ih := digsF_low k (n / 10) (by omega) h1
      have hl : digsF k (n / 10) ≠ [] := by
        intro e
        have := digsF_val k (n / 10) (by omega)
        rw [e] at this
        exact h1 this.symm
      have hp : 0 < (digsF k (n / 10)).length := List.length_pos_iff.2 hl
      rw [List.length_cons, Nat.add_sub_cancel]
      have e : 10 ^ (digsF k (n / 10)).length = 10 ^ ((digsF k (n / 10)).length - 1) * 10 := by
        rw [← Nat.pow_succ]; congr 1; omega
      rw [e]
      omega
@[simp] theorem dval_digs (n : Nat) : dval (digs n) = n := digsF_val n n (Nat.le_refl n)
theorem dg_digs (n : Nat) : Dg (digs n) := digsF_dg n n
theorem digs_low {n : Nat} (h : n ≠ 0) : 10 ^ ((digs n).length - 1) ≤ n := digsF_low n n (Nat.le_refl n) h
theorem digs_lt (n : Nat) : n < 10 ^ (digs n).length := by
  have := dval_lt (dg_digs n); rw [dval_digs] at this; exact this
theorem dval_inj : ∀ {a b : List Nat}, a.length = b.length → Dg a → Dg b → dval a = dval b → a = b
  | [], [], _, _, _, _ => rfl
  | x :: s, y :: t, hl, ga, gb, h => by
    have hx := ga.head
    have hy := gb.head
    simp only [dval] at h
    have h1 : x = y := by omega
    have h2 : dval s = dval t := by omega
    rw [h1, dval_inj (by simpa using hl) ga.tail gb.tail h2]
theorem pow10_lt {a b n : Nat} (ha : 10 ^ (a - 1) ≤ n) (hb : n < 10 ^ b) : a ≤ b := by
  rcases Nat.lt_or_ge b a with h | h
  · have : 10 ^ b ≤ 10 ^ (a - 1) := Nat.pow_le_pow_right (by decide) (by omega)
    omega
  · exact h
theorem digs_of {l : List Nat} (h : Dg l) (hl : l = [] ∨ 10 ^ (l.length - 1) ≤ dval l) : digs (dval l) = l := by
  rcases hl with rfl | hl
  · rfl
  · have h1 := dval_lt h
    have h0 : dval l ≠ 0 := by have : 0 < 10 ^ (l.length - 1) := Nat.pow_pos (by decide); omega
    have h2 := digs_low h0
    have h3 := digs_lt (dval l)
    exact dval_inj (Nat.le_antisymm (pow10_lt h2 h1) (pow10_lt hl h3)) (dg_digs _) h (dval_digs _)
theorem digs_nil {n : Nat} : digs n = [] ↔ n = 0 := by
  constructor
  · intro h; have := dval_digs n; rw [h] at this; exact this.symm
  · intro h; rw [h]; rfl
def textL (n : Nat) : List Nat := if n = 0 then [48] else ((digs n).map (48 + ·)).reverse
theorem textL_pos {n : Nat} (h : n ≠ 0) : textL n = ((digs n).map (48 + ·)).reverse := by unfold textL; rw [if_neg h]
theorem low_bound {n b k : Nat} (h : n < 2 ^ b) (hk : 10 ^ (k - 1) ≤ n) : k ≤ b + 1 := by
  have h2 : 2 ^ (k - 1) ≤ 10 ^ (k - 1) := Nat.pow_le_pow_left (by decide) _
  rcases Nat.lt_or_ge b (k - 1) with h3 | h3
  · have : 2 ^ b ≤ 2 ^ (k - 1) := Nat.pow_le_pow_right (by decide) (by omega)
    omega
  · omega
theorem digit_step {N R : Nat} {ds : List Nat} (h : N = dval ds + 10 ^ ds.length * R) : N = dval (ds ++ [R % 10]) + 10 ^ (ds ++ [R % 10]).length * (R / 10) := by
  rw [dval_append, List.length_append]
  simp only [List.length_singleton, dval, Nat.pow_succ]
  have := Nat.mod_add_div R 10
  generalize R % 10 = a at *
  generalize R / 10 = b at *
  grind
theorem digit_low {N R : Nat} {ds : List Nat} (h : N = dval ds + 10 ^ ds.length * R) (hR : 0 < R) (d : Nat) : 10 ^ ((ds ++ [d]).length - 1) ≤ N := by
  rw [List.length_append, List.length_singleton, Nat.add_sub_cancel, h]
  have : 10 ^ ds.length * 1 ≤ 10 ^ ds.length * R := Nat.mul_le_mul_left _ hR
  omega

def RowK (w : World) (t : TypeId) (k : IntKind) (g : Nat) (l : List Nat) : Prop := Blk w g t (ints k l).toArray
section
variable {w w' : World} {g : Nat} {t : TypeId} {k : IntKind} {l : List Nat}
theorem RowK.cell (h : RowK w t k g l) (i : Nat) (hi : i < l.length) : w.cell? ⟨g, i, none⟩ = some (.int k ((nth l i : Nat) : Int)) := by
  rw [Blk.cell h, List.getElem?_toArray]; exact ints_get k l i hi
theorem RowK.frozen (h : RowK w t k g l) (i : Nat) : w.frozen? ⟨g, i, none⟩ = false := Blk.frozen h i
theorem RowK.setE (h : RowK w t k g l) (i x : Nat) {E : Int} (hE : E = (x : Int)) : RowK (w.setCell ⟨g, i, none⟩ (.int k E)) t k g (l.set i x) := by
  rw [hE]
  have := Blk.set_ h i (.int k (x : Int))
  unfold RowK
  have e : (ints k (l.set i x)).toArray = (ints k l).toArray.setIfInBounds i (.int k (x : Int)) := by simp [ints, List.map_set]
  rw [e]; exact this
theorem rowK_new {w : World} {cs : Array Value} (hc : cs = (ints k l).toArray) (hg : g = w.heap.size) : RowK (w.alloc (.cells cs t)) t k g l := by
  subst hc hg; exact Blk.new w t _
end
theorem run_makeK {P : Program} (t e : TypeId) (k : IntKind) (i : TypeInfo) (ht : P.underlying t = some (.slice e)) (hi : P.info? e = some i) (hz : i.zero = some (.int k 0)) (hs : i.size = 1) (hb : i.bytes ≤ 8)
    (n : Nat) (N : Int) (hN : N = (n : Int)) (hn : n ≤ 35184372088832) (w : World) :
    (Instr.makeSlice t (.int .i64 N) (.int .i64 N)).run P w = .ok (.slice (some ⟨w.heap.size, 0, none⟩) n n) (w.alloc (.cells (ints k (List.replicate n 0)).toArray e)) := by
  have hbn : i.bytes * n ≤ 8 * n := Nat.mul_le_mul_right _ hb
  have hbN : (i.bytes : Int) * N ≤ 281474976710656 := by
    rw [hN, ← Int.natCast_mul]; omega
  have hr := run_make (P := P) w t e i _ ht hi hz .i64 .i64 N N (by omega) (by omega) hbN (by omega)
  rw [hr, hs, hN]
  have hc : madeCells (Value.int k 0).cells (n * 1) = (ints k (List.replicate n 0)).toArray := by
    apply Array.ext
    · simp [madeCells]
    · intro j h1 h2
      simp [madeCells, ints, Value.cells, Nat.mod_one]
  simp only [Int.toNat_natCast, hc]

def RdK (k : IntKind) (w : World) (A : Option Addr) (l : List Nat) : Prop :=
  0 < l.length → ∃ b off, A = some ⟨b, off, none⟩ ∧ ∀ j, j < l.length → w.cell? ⟨b, off + j, none⟩ = some (.int k ((nth l j : Nat) : Int))
theorem RdK.keep {k : IntKind} {w w' : World} {A : Option Addr} {l : List Nat} (h : RdK k w A l) (hk : ∀ p : Addr, p.block < w.heap.size → w'.cell? p = w.cell? p) : RdK k w' A l := fun hn => by
  obtain ⟨b, off, e, hc⟩ := h hn
  exact ⟨b, off, e, fun j hj => (hk _ (cell_lt (hc j hj))).trans (hc j hj)⟩
theorem RdK.below {k : IntKind} {w w' : World} {A : Option Addr} {l : List Nat} (h : RdK k w A l) (hb : Below w.heap.size w w') : RdK k w' A l := h.keep fun _ hp => hb.cell hp
theorem OwnR.rdK {w : World} {B : Nat} {e : TypeId} {k : IntKind} {A : Option Addr} {n c : Nat} {l : List Nat} (h : OwnR w B e k (.slice A n c) l) : RdK k w A l := fun hn => by
  rcases h.form with ⟨_, rfl⟩ | ⟨g, cap, cur, e, hg, hh, hnc, hcs, hc⟩
  · simp at hn
  · injection e with e1 e2 e3
    exact ⟨g, 0, e1, fun j hj => by rw [hh.cell, Nat.zero_add]; exact hc j hj⟩

def bstr (l : List Nat) : ByteArray := ⟨(l.map UInt8.ofNat).toArray⟩
theorem strOfNums_bstr (l : List Nat) : strOfNums (l.map fun x : Nat => (x : Int)) = bstr l := by
  unfold strOfNums bstr
  rw [List.map_map]
  congr 2
theorem run_bytes {P : Program} (w : World) (src e dst : TypeId) (hs : P.underlying src = some (.slice e)) (he : P.underlying e = some (.int .u8)) (hd : P.underlying dst = some .string)
    (b off len cap : Nat) (l : List Nat) (hl : l.length = len) (hc : ∀ j, j < l.length → w.cell? ⟨b, off + j, none⟩ = some (.int .u8 ((nth l j : Nat) : Int))) :
    (convert src dst (.slice (some ⟨b, off, none⟩) len cap)).run P w = .ok (.string (bstr l)) w := by
  rw [← strOfNums_bstr]
  refine run_convert_bytes_arg w src e hs he b off len cap _ (by simpa using hl) (fun i hi => ?_) dst hd
  rw [hc i (by omega), nth_lt l (by omega), List.getD_eq_getElem?_getD]
  simp [show i < l.length by omega]

def sliceLen : Value → Nat | .slice _ n _ => n | _ => 0
theorem OwnR.len {w : World} {B : Nat} {e : TypeId} {k : IntKind} {v : Value} {l : List Nat} (h : OwnR w B e k v l) : sliceLen v = l.length ∧ ∃ A c, v = .slice A l.length c := by
  rcases h.form with ⟨rfl, rfl⟩ | ⟨g, cap, cur, rfl, _⟩
  · exact ⟨rfl, _, _, rfl⟩
  · exact ⟨rfl, _, _, rfl⟩

section
variable {P : Program}
end



theorem nat_Mul (A B : Option Addr) (a b : List Nat) (n m c d : Nat) (hn : n = a.length) (hm : m = b.length) (w : World) (ha : Rd w A a) (hb : Rd w B b) :
    Calls Tryz.prog 179 #[.agg #[.slice A n c], .agg #[.slice B m d]] w (NatAns 153 w (mulS a b)) := by
  subst hn hm
  have hla := ha.len
  have hlb := hb.len
  have ha2 := (((ha.alloc (Obj.cells #[Value.slice A a.length c] 67)).alloc (Obj.cells #[Value.slice B b.length d] 67)).alloc (Obj.cells #[Value.slice none 0 0] 67)).alloc (Obj.cells #[Value.slice A a.length c, Value.slice B b.length d] 67)
  have hb2 := (((hb.alloc (Obj.cells #[Value.slice A a.length c] 67)).alloc (Obj.cells #[Value.slice B b.length d] 67)).alloc (Obj.cells #[Value.slice none 0 0] 67)).alloc (Obj.cells #[Value.slice A a.length c, Value.slice B b.length d] 67)
  by_cases hz : chk2 a b = 0
  · have hl1 := (chk_zero (chk2_zero hz).1).1
    have hl2 := (chk_zero (chk2_zero hz).2).1
    have HZ := Lib.hid hz
    by_cases hbig : 16385 < a.length + b.length
    · have e : mulS a b = ([], 4) := by unfold mulS; rw [if_pos hz, if_pos hbig]
      rw [e]
      clear hz
      go_enter Tryz.func179, Tryz.ntmps179
      go_wp2_with fail
      refine (nat_checks _ A B a b _ _ c d rfl rfl _ ha2 hb2 (by simp [go_sem]) (by simp [go_sem])).mono ?_
      rintro e w1 ⟨rfl, hb1⟩
      rw [HZ.out]
      obtain ⟨hc1, hf1⟩ := bcell hb1
      have hbw1 : Below w.heap.size w w1 := Below.trans (b := _) (by repeat' (first | (with_reducible assumption) | (with_reducible exact Below.refl _ _) | (with_reducible refine bdn ?_ _) | (with_reducible refine Below.drew ?_) | (with_reducible refine Below.setCell ?_ ?_ _) | (with_reducible refine Below.alloc ?_ ?_ _) | go_size)) (hb1.mono (by go_size))
      have hz1_0 : w.heap.size < w1.heap.size := by have := hb1.size; simp at this; omega
      have hz1_1 : w.heap.size + 1 < w1.heap.size := by have := hb1.size; simp at this; omega
      have hz1_2 : w.heap.size + 2 < w1.heap.size := by have := hb1.size; simp at this; omega
      have hz1_3 : w.heap.size + 3 < w1.heap.size := by have := hb1.size; simp at this; omega
      go_wp2
      go_quiet (fail)
      go_wp2
      (try simp only [Exit.inBlock, Exit.then]); refine bodyPost_ret (by simp (maxDischargeDepth := 9) [results, Tryz.results179, go_sem, hc1, hz1_0, hz1_1, hz1_2, hz1_3]; try rfl) rfl ?_
      exact ⟨none, 0, rfl, Own.nil _ _ _, (by repeat' (first | (with_reducible assumption) | (with_reducible exact Below.refl _ _) | (with_reducible refine bdn ?_ _) | (with_reducible refine Below.drew ?_) | (with_reducible refine Below.setCell ?_ ?_ _) | (with_reducible refine Below.alloc ?_ ?_ _) | go_size))⟩
    · have e : mulS a b = fitS (val a * val b) := by unfold mulS; rw [if_pos hz, if_neg hbig]
      have hmk := fun W => mk32 (a.length + b.length) ((a.length : Int) + (b.length : Int)) (by omega) (by omega) W
      rw [e]
      clear hz
      go_enter Tryz.func179, Tryz.ntmps179
      go_wp2_with fail
      refine (nat_checks _ A B a b _ _ c d rfl rfl _ ha2 hb2 (by simp [go_sem]) (by simp [go_sem])).mono ?_
      rintro e w1 ⟨rfl, hb1⟩
      rw [HZ.out]
      obtain ⟨hc1, hf1⟩ := bcell hb1
      have hbw1 : Below w.heap.size w w1 := Below.trans (b := _) (by repeat' (first | (with_reducible assumption) | (with_reducible exact Below.refl _ _) | (with_reducible refine bdn ?_ _) | (with_reducible refine Below.drew ?_) | (with_reducible refine Below.setCell ?_ ?_ _) | (with_reducible refine Below.alloc ?_ ?_ _) | go_size)) (hb1.mono (by go_size))
      have hz1_0 : w.heap.size < w1.heap.size := by have := hb1.size; simp at this; omega
      have hz1_1 : w.heap.size + 1 < w1.heap.size := by have := hb1.size; simp at this; omega
      have hz1_2 : w.heap.size + 2 < w1.heap.size := by have := hb1.size; simp at this; omega
      have hz1_3 : w.heap.size + 3 < w1.heap.size := by have := hb1.size; simp at this; omega
      go_wp2
      go_quiet (fail)
      go_wp2
      clear ha2 hb2
      have hb1' := hb1.size
      simp at hb1'
      have ha1 := ha.below hbw1
      have hb1b := hb.below hbw1
      have hcr : w1.cell? ⟨w.heap.size + 2, 0, none⟩ = some (Value.slice none 0 0) := by
        rw [hc1 _ _ (by simp)]; simp [go_sem]
      have hfr : w1.frozen? ⟨w.heap.size + 2, 0, none⟩ = false := by
        rw [hf1 _ _ (by simp)]; simp [go_sem]
      have hbase := w1.heap.size
      clear hc1 hf1 hb1
      go_loopw [43] (fun i wr => ∃ (k : Nat) (o : List Nat), k ≤ a.length ∧ i = .int .i64 (k : Int) ∧ o.length = a.length + b.length ∧ Sm o ∧ (∀ j, k + b.length ≤ j → nth o j = 0) ∧ val o = val (a.take k) * val b ∧ Row wr 153 w1.heap.size o ∧ Below w1.heap.size w1 wr) (fun i _ => a.length - (intOf i).toNat)
      case atStart =>
        exact ⟨0, List.replicate (a.length + b.length) 0, Nat.zero_le _, rfl, by simp, Sm.replicate _, fun j _ => nth_replicate _ _, by rw [val_replicate]; simp [val], row_new rfl (by simp), (by repeat' (first | (with_reducible assumption) | (with_reducible exact Below.refl _ _) | (with_reducible refine bdn ?_ _) | (with_reducible refine Below.drew ?_) | (with_reducible refine Below.setCell ?_ ?_ _) | (with_reducible refine Below.alloc ?_ ?_ _) | go_size))⟩
      case round =>
        obtain ⟨wo, rfl⟩ : ∃ wo : World, wo = wr := ⟨_, rfl⟩
        obtain ⟨i, o, hi, rfl, hol, hos, hoz, hov, hrow, hbl⟩ := hrel
        have HOL := Lib.hid hol
        have HOZ := Lib.hid hoz
        have HOV := Lib.hid hov
        clear hol hoz hov
        by_cases hi1 : i < a.length
        · obtain ⟨ba, oa, rfl, hca⟩ := rd_at ha1 hbl (k := i) hi1
          go_wp2
          go_loopw [12, 63] (fun v7 v8 wr => RowRel w1 w1.heap.size a b i (a.length + b.length) (val o) v7 v8 wr) (fun _ v8 _ => b.length - (intOf v8).toNat)
          case atStart =>
            exact ⟨0, 0, o, Nat.zero_le _, rfl, rfl, by decide, HOL.out, hos, HOZ.out, by simp [val], hrow, hbl⟩
          case round =>
            obtain ⟨k, cy, o2, hk, rfl, rfl, hcy, hol2, hos2, hoz2, hov2, hrow2, hbl2⟩ := hrel
            have HOL2 := Lib.hid hol2
            have HOZ2 := Lib.hid hoz2
            have HOV2 := Lib.hid hov2
            clear hol2 hoz2 hov2 hca
            by_cases hk1 : k < b.length
            · obtain ⟨bb, ob, rfl, hcb⟩ := rd_at hb1b hbl2 (k := k) (by omega)
              have hco := hrow2.cell (i + k) (by rw [HOL2.out]; omega)
              have hfz := hrow2.frozen (i + k)
              have hx := ha.sm.nth i
              have hy := hb.sm.nth k
              have ho := hos2.nth (i + k)
              have hPb := prod_le hx hy
              obtain ⟨P, hP⟩ : ∃ P : Nat, P = nth a i * nth b k := ⟨_, rfl⟩
              rw [← hP] at hPb
              have hPe : ((nth a i : Nat) : Int) * ((nth b k : Nat) : Int) = (P : Int) := by rw [hP, Int.natCast_mul]
              have HP := Lib.hid hP
              clear hP
              go_wp2
              go_roundw
              case rel =>
                have st := row_step (P := nth a i * nth b k) (by rw [HOL2.out]; omega) HOV2.out
                rw [← HP.out] at st
                refine ⟨k + 1, (P + nth o2 (i + k) + cy) / 4294967296, o2.set (i + k) ((P + nth o2 (i + k) + cy) % 4294967296), by omega, by go_num, vi (by omega), by omega, by simp [HOL2.out], hos2.set _ _ (by omega), ?_, ?_, hrow2.setE _ _ (by omega), (by repeat' (first | (with_reducible assumption) | (with_reducible exact Below.refl _ _) | (with_reducible refine bdn ?_ _) | (with_reducible refine Below.drew ?_) | (with_reducible refine Below.setCell ?_ ?_ _) | (with_reducible refine Below.alloc ?_ ?_ _) | go_size))⟩
                · intro j hj
                  rw [nth_set_ne _ _ _ _ (by omega)]
                  exact HOZ2.out j hj
                · rw [← Nat.add_assoc, st, val_take_succ', HP.out]
                  congr 1
                  rw [Nat.pow_add, Nat.mul_add, Nat.mul_add]
                  congr 1
                  simp only [Nat.mul_assoc, Nat.mul_left_comm]
              case measure => first | (simp [intOf]; done) | (simp [intOf]; omega)
            · have hkb : k = b.length := by omega
              have hco := hrow2.cell (i + b.length) (by rw [HOL2.out]; omega)
              have hfz := hrow2.frozen (i + b.length)
              have HKB := Lib.hid hkb
              clear hkb
              go_wp2
              go_roundw
              case rel =>
                have hv := HOV2.out
                rw [HKB.out, List.take_length] at hv
                have hz0 := HOZ2.out (i + b.length) (Nat.le_refl _)
                have hs := val_set o2 (i + b.length) cy (by rw [HOL2.out]; omega)
                refine ⟨i + 1, o2.set (i + b.length) cy, by omega, by go_num, by simp [HOL2.out], hos2.set _ _ hcy, ?_, ?_, hrow2.setE _ _ (by omega), (by repeat' (first | (with_reducible assumption) | (with_reducible exact Below.refl _ _) | (with_reducible refine bdn ?_ _) | (with_reducible refine Below.drew ?_) | (with_reducible refine Below.setCell ?_ ?_ _) | (with_reducible refine Below.alloc ?_ ?_ _) | go_size))⟩
                · intro j hj
                  rw [nth_set_ne _ _ _ _ (by omega)]
                  exact HOZ2.out j (by omega)
                · rw [hz0, Nat.mul_zero, Nat.add_zero] at hs
                  rw [hs, hv, HOV.out, val_take_succ', Nat.add_mul, Nat.mul_assoc]
              case measure => first | (simp [intOf]; done) | (simp [intOf]; omega)
        · have hia : i = a.length := by omega
          have hfin : val o = val a * val b := by rw [HOV.out, hia, List.take_length]
          have HF := Lib.hid hfin
          clear hfin hia
          go_wp2_with fail
          refine (nat_fits w1.heap.size o _ (a.length + b.length) w1.heap.size HOL.out.symm (Nat.le_refl _) _ hrow hos (by rw [HOL.out]; omega) (Nat.le_refl _) hbl.size).mono ?_
          rw [HF.out]
          rintro e w3 ⟨A3, c3, rfl, ho3, hb3⟩
          have hz3 : w.heap.size + 2 < w3.heap.size := by have := hb3.size; have := hbl.size; omega
          have hc3 : w3.cell? ⟨w.heap.size + 2, 0, none⟩ = some (Value.slice none 0 0) := by
            rw [below_cell hb3 (by have := hbl.size; omega), below_cell hbl (by omega)]; exact hcr
          have hf3 : w3.frozen? ⟨w.heap.size + 2, 0, none⟩ = false := by
            rw [below_frozen hb3 (by have := hbl.size; omega), below_frozen hbl (by omega)]; exact hfr
          have hbw3 : Below w.heap.size w w3 := (hbw1.trans (hbl.mono (by omega))).trans (hb3.mono (by have := hbl.size; omega))
          clear hcr hfr
          go_wp2
          (try simp only [Exit.inBlock, Exit.then]); refine bodyPost_ret (by simp (maxDischargeDepth := 9) [results, Tryz.results179, go_sem, hc3]; try rfl) rfl ?_
          exact ⟨_, _, rfl, (ho3.setCell (by simp; omega) _).mono (by omega), (by repeat' (first | (with_reducible assumption) | (with_reducible exact Below.refl _ _) | (with_reducible refine bdn ?_ _) | (with_reducible refine Below.drew ?_) | (with_reducible refine Below.setCell ?_ ?_ _) | (with_reducible refine Below.alloc ?_ ?_ _) | go_size))⟩
  · have e : mulS a b = ([], chk2 a b) := by unfold mulS; rw [if_neg hz]
    have hne : (chk2 a b != 0) = true := by rw [bne_iff_ne]; exact hz
    rw [e]
    clear hz
    go_enter Tryz.func179, Tryz.ntmps179
    go_wp2_with fail
    refine (nat_checks _ A B a b _ _ c d rfl rfl _ ha2 hb2 (by simp [go_sem]) (by simp [go_sem])).mono ?_
    rintro e w1 ⟨rfl, hb1⟩
    obtain ⟨hc1, hf1⟩ := bcell hb1
    have hbw1 : Below w.heap.size w w1 := Below.trans (b := _) (by repeat' (first | (with_reducible assumption) | (with_reducible exact Below.refl _ _) | (with_reducible refine bdn ?_ _) | (with_reducible refine Below.drew ?_) | (with_reducible refine Below.setCell ?_ ?_ _) | (with_reducible refine Below.alloc ?_ ?_ _) | go_size)) (hb1.mono (by go_size))
    have hz1_0 : w.heap.size < w1.heap.size := by have := hb1.size; simp at this; omega
    have hz1_1 : w.heap.size + 1 < w1.heap.size := by have := hb1.size; simp at this; omega
    have hz1_2 : w.heap.size + 2 < w1.heap.size := by have := hb1.size; simp at this; omega
    have hz1_3 : w.heap.size + 3 < w1.heap.size := by have := hb1.size; simp at this; omega
    go_wp2
    (try simp only [Exit.inBlock, Exit.then]); refine bodyPost_ret (by simp (maxDischargeDepth := 9) [results, Tryz.results179, go_sem, hc1, hz1_0, hz1_1, hz1_2, hz1_3]; try rfl) rfl ?_
    exact ⟨none, 0, rfl, Own.nil _ _ _, (by repeat' (first | (with_reducible assumption) | (with_reducible exact Below.refl _ _) | (with_reducible refine bdn ?_ _) | (with_reducible refine Below.drew ?_) | (with_reducible refine Below.setCell ?_ ?_ _) | (with_reducible refine Below.alloc ?_ ?_ _) | go_size))⟩


def downS (l : List Nat) (n : Int) : List Nat × Int := if chk l = 0 then if n < 0 then ([], 2) else (limbs (val l / 2 ^ n.toNat), 0) else ([], chk l)
theorem down_zero {l : List Nat} (h : Sm l) {m : Nat} (hm : l.length ≤ m / 32) : val l / 2 ^ m = 0 := by
  refine Nat.div_eq_of_lt (Nat.lt_of_lt_of_le (val_lt h) ?_)
  rw [show 4294967296 = 2 ^ 32 from rfl, ← Nat.pow_mul]
  exact Nat.pow_le_pow_right (by decide) (by omega)



theorem nth_valS {l : List Nat} (h : Sm l) (k : Nat) : nth l k = val l / 4294967296 ^ k % 4294967296 := getD_val l h k


def bitsS (l : List Nat) : Int × Int := if chk l = 0 then (((bitLen (val l) : Nat) : Int), 0) else (0, chk l)

theorem nat_Bits (A : Option Addr) (l : List Nat) (n c : Nat) (hn : n = l.length) (w : World) (h : Rd w A l) :
    Calls Tryz.prog 130 #[.agg #[.slice A n c]] w (Says w (.tuple #[.int .i64 (bitsS l).1, .int .i64 (bitsS l).2])) := by
  subst hn
  have hl := h.len
  have h1 := h.alloc (Obj.cells #[Value.slice A l.length c] 67)
  by_cases hc0 : chk l = 0
  · have hlen := (chk_zero hc0).1
    have hlast := (chk_zero hc0).2
    have Hchk : Hid (chk l = 0) := hc0
    have e : bitsS l = (((bitLen (val l) : Nat) : Int), 0) := by unfold bitsS; rw [if_pos hc0]
    rw [e]
    clear hc0
    by_cases h0 : 0 < l.length
    · obtain ⟨b, off, rfl, hb, hc⟩ := chk_facts l A w h h0
      have hne : nth l (l.length - 1) ≠ 0 := by
        rw [last_nth (by intro e; rw [e] at h0; simp at h0)] at hlast; simpa using hlast
      have E := Lib.hid (bitLen_val h.sm h0 hne)
      have hlt := h.sm.nth (l.length - 1)
      have hbl : bitLen (nth l (l.length - 1)) ≤ 32 := bitLen_le hlt
      have h2 : ((l.length : Int) == 0) = false := by rw [beq_eq_false_iff_ne]; omega
      clear hlast hne
      go_enter Tryz.func130, Tryz.ntmps130
      go_wp2_with fail
      refine (nat_Check _ l _ c rfl _ h1).mono ?_
      rintro e w1 ⟨rfl, hb1⟩
      rw [Hchk.out]
      obtain ⟨hc1, hf1⟩ := bcell hb1
      have hbw1 : Below w.heap.size w w1 := Below.trans (b := _) (by repeat' (first | (with_reducible assumption) | (with_reducible exact Below.refl _ _) | (with_reducible refine bdn ?_ _) | (with_reducible refine Below.drew ?_) | (with_reducible refine Below.setCell ?_ ?_ _) | (with_reducible refine Below.alloc ?_ ?_ _) | go_size)) (hb1.mono (by go_size))
      have hz1_0 : w.heap.size < w1.heap.size := by have := hb1.size; simp at this; omega
      have hcc := cell_keep hbw1 hc
      go_wp2_with fail
      refine (bits_LeadingZeros32 _ _ (by omega) (by omega)).mono ?_
      rintro e w2 ⟨rfl, rfl⟩
      rw [Int.toNat_natCast]
      go_wp2
      go_ret2
      exact ⟨ret_pair (by rw [E.out]; omega) rfl, hbw1⟩
    · have hl0 : l = [] := List.eq_nil_of_length_eq_zero (by omega)
      subst hl0
      go_enter Tryz.func130, Tryz.ntmps130
      go_wp2_with fail
      refine (nat_Check _ [] _ c rfl _ h1).mono ?_
      rintro e w1 ⟨rfl, hb1⟩
      rw [Hchk.out]
      obtain ⟨hc1, hf1⟩ := bcell hb1
      have hbw1 : Below w.heap.size w w1 := Below.trans (b := _) (by repeat' (first | (with_reducible assumption) | (with_reducible exact Below.refl _ _) | (with_reducible refine bdn ?_ _) | (with_reducible refine Below.drew ?_) | (with_reducible refine Below.setCell ?_ ?_ _) | (with_reducible refine Below.alloc ?_ ?_ _) | go_size)) (hb1.mono (by go_size))
      have hz1_0 : w.heap.size < w1.heap.size := by have := hb1.size; simp at this; omega
      go_wp2
      go_ret2
      exact ⟨rfl, hbw1⟩
  · have e : bitsS l = (0, chk l) := by unfold bitsS; rw [if_neg hc0]
    have hne : (chk l != 0) = true := by rw [bne_iff_ne]; exact hc0
    rw [e]
    clear hc0
    go_enter Tryz.func130, Tryz.ntmps130
    go_wp2_with fail
    refine (nat_Check A l _ c rfl _ h1).mono ?_
    rintro e w1 ⟨rfl, hb1⟩
    obtain ⟨hc1, hf1⟩ := bcell hb1
    have hbw1 : Below w.heap.size w w1 := Below.trans (b := _) (by repeat' (first | (with_reducible assumption) | (with_reducible exact Below.refl _ _) | (with_reducible refine bdn ?_ _) | (with_reducible refine Below.drew ?_) | (with_reducible refine Below.setCell ?_ ?_ _) | (with_reducible refine Below.alloc ?_ ?_ _) | go_size)) (hb1.mono (by go_size))
    have hz1_0 : w.heap.size < w1.heap.size := by have := hb1.size; simp at this; omega
    go_wp2
    go_ret2
    exact ⟨rfl, hbw1⟩

end Go.Proofs.YtenekbfnlbipiaaGreatDoor
