/- alive, of layer 19. -/
import Derived.Test.YtenekbfnlbipiaaDoorSuAA
import Derived.Test.YtenekbfnlbipiaaDoorBits
import Derived.Test.YtenekbfnlbipiaaDoorApp
namespace Go.Proofs.YtenekbfnlbipiaaDoor
open Go.RowKit
set_option linter.unusedVariables false
set_option linter.unusedSimpArgs false
set_option maxHeartbeats 4000000
set_option maxRecDepth 100000

theorem alive19 (w : World) (hT : Tab5 w) (hU : TabU w) : Calls Tryd.prog 20 #[] w (Says w (.bool true)) := by
  have hb0 : Below w.heap.size w w := Below.refl _ _
  have r3 := run_bits64
  go_enter Tryd.func20, Tryd.ntmps20
  go_wp2_with fail
  refine (Fo.forms_Double _).mono ?_
  rintro e w1 ⟨rfl, hb1⟩
  replace hb0 := hb0.trans (hb1.mono hb0.size)
  replace hT := hT.below hb1
  replace hU := hU.below hb1
  clear hb1
  go_upto_region 2 with fail
  have hv2 : Below w1.heap.size w1 (w1.alloc (.cells #[.int .i64 11, .int .i64 52] 35)) := (Below.refl _ _).alloc (by first | exact Nat.le_refl _ | (simp; done) | (simp; omega)) _
  have k1 : Blk (w1.alloc (.cells #[.int .i64 11, .int .i64 52] 35)) (w1.heap.size) 35 #[.int .i64 11, .int .i64 52] := Blk.new w1 35 #[.int .i64 11, .int .i64 52]
  replace hb0 := hb0.trans (hv2.mono hb0.size)
  replace hT := hT.below hv2
  replace hU := hU.below hv2
  generalize (w1.alloc (.cells #[.int .i64 11, .int .i64 52] 35)) = v2 at *
  clear hv2
  have k1_c0 := k1.cell 0
  have k1_f0 := k1.frozen 0
  have k1_c1 := k1.cell 1
  have k1_f1 := k1.frozen 1
  have k1_z := k1.lt
  simp only [List.getElem?_toArray, List.getElem?_cons_zero, List.getElem?_cons_succ] at k1_c0 k1_c1
  go_upto_region 2 with fail
  have hTd : Tab5 v2.drew := hT
  have hUd : TabU v2.drew := hU
  go_region_held3 (fun w' => w'.cell? ⟨w1.heap.size, 0, none⟩ = some (.int .i64 11) ∧ w'.cell? ⟨w1.heap.size, 1, none⟩ = some (.int .i64 52)) (first | exact ⟨j2a, j2b⟩ | exact ⟨j2c, j2d⟩ | exact ⟨j2e, j2f⟩ | exact ⟨k1_c0, k1_c1⟩ | go_keep)
    (first
     | (go_at_call 16; (with_reducible refine (sd1 _ hTd hUd).mono ?_); rintro e wa2 ⟨rfl, ba2⟩; have j2a := cell_keep ba2 k1_c0; have j2b := cell_keep ba2 k1_c1)
     | (go_at_call 15; (with_reducible refine (law19_of _ _ _ _ _ _).mono ?_); rintro e wb2 ⟨rfl, bb2⟩; have j2c := cell_keep bb2 j2a; have j2d := cell_keep bb2 j2b)
     | (go_at_call 17; (with_reducible refine (law19_d _ _ _ _).mono ?_); rintro e wc2 ⟨rfl, bc2⟩; have j2e := cell_keep bc2 j2c; have j2f := cell_keep bc2 j2d)
     | fail)
  clear k1_c0 k1_f0 k1_c1 k1_f1 k1_z
  have hx0 := (Below.refl v2.heap.size v2).drew
  have hx1 := hx0.trans (ba2.mono hx0.size)
  have hx2 := hx1.trans (bb2.mono hx1.size)
  have hx3 := hx2.trans (bc2.mono hx2.size)
  replace hb0 := hb0.trans (hx3.mono hb0.size)
  replace hT := hT.below hx3
  replace hU := hU.below hx3
  replace k1 := k1.below hx3 k1.lt
  clear hx0 hx1 hx2 hx3 hTd hUd j2a j2b j2c j2d j2e j2f ba2 bb2 bc2
  rename_i hHd
  clear hHd
  have k1_c0 := k1.cell 0
  have k1_f0 := k1.frozen 0
  have k1_c1 := k1.cell 1
  have k1_f1 := k1.frozen 1
  have k1_z := k1.lt
  simp only [List.getElem?_toArray, List.getElem?_cons_zero, List.getElem?_cons_succ] at k1_c0 k1_c1
  go_wp2_with fail
  clear k1_c0 k1_f0 k1_c1 k1_f1 k1_z
  refine (forms_Half _).mono ?_
  rintro e w4 ⟨rfl, hb4⟩
  replace hb0 := hb0.trans (hb4.mono hb0.size)
  replace hT := hT.below hb4
  replace hU := hU.below hb4
  replace k1 := k1.below hb4 k1.lt
  clear hb4
  have k1_c0 := k1.cell 0
  have k1_f0 := k1.frozen 0
  have k1_c1 := k1.cell 1
  have k1_f1 := k1.frozen 1
  have k1_z := k1.lt
  simp only [List.getElem?_toArray, List.getElem?_cons_zero, List.getElem?_cons_succ] at k1_c0 k1_c1
  go_wp2_with fail
  clear k1_c0 k1_f0 k1_c1 k1_f1 k1_z
  refine (sd2 _ hT hU).mono ?_
  rintro e w5 ⟨rfl, hb5⟩
  replace hb0 := hb0.trans (hb5.mono hb0.size)
  replace hT := hT.below hb5
  replace hU := hU.below hb5
  replace k1 := k1.below hb5 k1.lt
  clear hb5
  have k1_c0 := k1.cell 0
  have k1_f0 := k1.frozen 0
  have k1_c1 := k1.cell 1
  have k1_f1 := k1.frozen 1
  have k1_z := k1.lt
  simp only [List.getElem?_toArray, List.getElem?_cons_zero, List.getElem?_cons_succ] at k1_c0 k1_c1
  go_wp2_with fail
  clear k1_c0 k1_f0 k1_c1 k1_f1 k1_z
  refine (law19_of _ _ _ _ _ _).mono ?_
  rintro e w6 ⟨rfl, hb6⟩
  replace hb0 := hb0.trans (hb6.mono hb0.size)
  replace hT := hT.below hb6
  replace hU := hU.below hb6
  replace k1 := k1.below hb6 k1.lt
  clear hb6
  have k1_c0 := k1.cell 0
  have k1_f0 := k1.frozen 0
  have k1_c1 := k1.cell 1
  have k1_f1 := k1.frozen 1
  have k1_z := k1.lt
  simp only [List.getElem?_toArray, List.getElem?_cons_zero, List.getElem?_cons_succ] at k1_c0 k1_c1
  go_wp2_with fail
  clear k1_c0 k1_f0 k1_c1 k1_f1 k1_z
  refine (law19_d _ _ _ _).mono ?_
  rintro e w7 ⟨rfl, hb7⟩
  replace hb0 := hb0.trans (hb7.mono hb0.size)
  replace hT := hT.below hb7
  replace hU := hU.below hb7
  replace k1 := k1.below hb7 k1.lt
  clear hb7
  have k1_c0 := k1.cell 0
  have k1_f0 := k1.frozen 0
  have k1_c1 := k1.cell 1
  have k1_f1 := k1.frozen 1
  have k1_z := k1.lt
  simp only [List.getElem?_toArray, List.getElem?_cons_zero, List.getElem?_cons_succ] at k1_c0 k1_c1
  go_upto_region 4 with fail
  have hTd : Tab5 w7.drew := hT
  have hUd : TabU w7.drew := hU
  go_region_held3 (fun w' => w'.cell? ⟨w1.heap.size, 0, none⟩ = some (.int .i64 11) ∧ w'.cell? ⟨w1.heap.size, 1, none⟩ = some (.int .i64 52)) (first | exact ⟨j7a, j7b⟩ | exact ⟨j7c, j7d⟩ | exact ⟨j7e, j7f⟩ | exact ⟨k1_c0, k1_c1⟩ | go_keep)
    (first
     | (go_at_call 19; (with_reducible refine (ss3 _ hTd hUd).mono ?_); rintro e wa7 ⟨rfl, ba7⟩; have j7a := cell_keep ba7 k1_c0; have j7b := cell_keep ba7 k1_c1)
     | (go_at_call 15; (with_reducible refine (law19_of _ _ _ _ _ _).mono ?_); rintro e wb7 ⟨rfl, bb7⟩; have j7c := cell_keep bb7 j7a; have j7d := cell_keep bb7 j7b)
     | (go_at_call 17; (with_reducible refine (law19_d _ _ _ _).mono ?_); rintro e wc7 ⟨rfl, bc7⟩; have j7e := cell_keep bc7 j7c; have j7f := cell_keep bc7 j7d)
     | fail)
  clear k1_c0 k1_f0 k1_c1 k1_f1 k1_z
  have hx0 := (Below.refl w7.heap.size w7).drew
  have hx1 := hx0.trans (ba7.mono hx0.size)
  have hx2 := hx1.trans (bb7.mono hx1.size)
  have hx3 := hx2.trans (bc7.mono hx2.size)
  replace hb0 := hb0.trans (hx3.mono hb0.size)
  replace hT := hT.below hx3
  replace hU := hU.below hx3
  replace k1 := k1.below hx3 k1.lt
  clear hx0 hx1 hx2 hx3 hTd hUd j7a j7b j7c j7d j7e j7f ba7 bb7 bc7
  rename_i hHd
  clear hHd
  have k1_c0 := k1.cell 0
  have k1_f0 := k1.frozen 0
  have k1_c1 := k1.cell 1
  have k1_f1 := k1.frozen 1
  have k1_z := k1.lt
  simp only [List.getElem?_toArray, List.getElem?_cons_zero, List.getElem?_cons_succ] at k1_c0 k1_c1
  go_upto_region 5 with fail
  have hTd : Tab5 wc7.drew := hT
  have hUd : TabU wc7.drew := hU
  go_region_held3 (fun w' => w'.cell? ⟨w1.heap.size, 0, none⟩ = some (.int .i64 11) ∧ w'.cell? ⟨w1.heap.size, 1, none⟩ = some (.int .i64 52)) (first | exact ⟨j8a, j8b⟩ | exact ⟨j8c, j8d⟩ | exact ⟨j8e, j8f⟩ | exact ⟨k1_c0, k1_c1⟩ | go_keep)
    (first
     | (go_at_call 19; (with_reducible refine (ss4 _ hTd hUd).mono ?_); rintro e wa8 ⟨rfl, ba8⟩; have j8a := cell_keep ba8 k1_c0; have j8b := cell_keep ba8 k1_c1)
     | (go_at_call 15; (with_reducible refine (law19_of _ _ _ _ _ _).mono ?_); rintro e wb8 ⟨rfl, bb8⟩; have j8c := cell_keep bb8 j8a; have j8d := cell_keep bb8 j8b)
     | (go_at_call 17; (with_reducible refine (law19_d _ _ _ _).mono ?_); rintro e wc8 ⟨rfl, bc8⟩; have j8e := cell_keep bc8 j8c; have j8f := cell_keep bc8 j8d)
     | fail)
  clear k1_c0 k1_f0 k1_c1 k1_f1 k1_z
  have hx0 := (Below.refl wc7.heap.size wc7).drew
  have hx1 := hx0.trans (ba8.mono hx0.size)
  have hx2 := hx1.trans (bb8.mono hx1.size)
  have hx3 := hx2.trans (bc8.mono hx2.size)
  replace hb0 := hb0.trans (hx3.mono hb0.size)
  replace hT := hT.below hx3
  replace hU := hU.below hx3
  replace k1 := k1.below hx3 k1.lt
  clear hx0 hx1 hx2 hx3 hTd hUd j8a j8b j8c j8d j8e j8f ba8 bb8 bc8
  rename_i hHd
  clear hHd
  have k1_c0 := k1.cell 0
  have k1_f0 := k1.frozen 0
  have k1_c1 := k1.cell 1
  have k1_f1 := k1.frozen 1
  have k1_z := k1.lt
  simp only [List.getElem?_toArray, List.getElem?_cons_zero, List.getElem?_cons_succ] at k1_c0 k1_c1
  go_wp2
  go_ret
  exact ⟨rfl, hb0⟩
end Go.Proofs.YtenekbfnlbipiaaDoor
namespace Go.Proofs.YtenekbfnlbipiaaDoor
open Go.RowKit
set_option linter.unusedVariables false
set_option linter.unusedSimpArgs false
set_option maxHeartbeats 4000000
set_option maxRecDepth 100000

theorem info_u8 : (Tryd.prog.info? 5).map (fun i => (i.zero, i.size, i.bytes)) = some (some (.int .u8 0), 1, 1) := by kernel_rfl
theorem under_u8s : Tryd.prog.underlying 151 = some (.slice 5) := Tryd.underlying151
theorem under_u8 : Tryd.prog.underlying 5 = some (.int .u8) := Tryd.underlying5
theorem under_str : Tryd.prog.underlying 9 = some .string := Tryd.underlying9
theorem elem8 : ElemOf Tryd.prog 151 5 .u8 := by
  obtain ⟨i, hi, hz, hs, hb⟩ := info_parts info_u8
  exact ⟨under_u8s, i, 1, hi, hz, hs, hb, by decide⟩
theorem mk8 (n : Nat) (N : Int) (hN : N = (n : Int)) (hn : n ≤ 35184372088832) (w : World) :
    (Instr.makeSlice 151 (.int .i64 N) (.int .i64 N)).run Tryd.prog w = .ok (.slice (some ⟨w.heap.size, 0, none⟩) n n) (w.alloc (.cells (ints .u8 (List.replicate n 0)).toArray 5)) := by
  obtain ⟨i, hi, hz, hs, hb⟩ := info_parts info_u8
  exact run_makeK _ _ .u8 i under_u8s hi hz hs (by omega) n N hN hn w

/-- The text of a number, or the fault. -/
def textS (l : List Nat) : ByteArray × Int := if chk l = 0 then (bstr (textL (val l)), 0) else (bstr [], chk l)

def bitsMax : Nat := 524288
def cap6 : Nat := 600000
theorem cap_lt (x y : Nat) (h1 : x < y) (h2 : y ≤ 524289) : cap6 - y < cap6 - x := by unfold cap6; omega
theorem gap_lt {Q i a b : Nat} (hQ : Q = 0) (hI : i = 0 → 0 < 0 + 10 ^ 9 * Q) (h : a + i ≤ b) : a < b := by
  rcases Nat.eq_zero_or_pos i with h0 | h0
  · have := hI h0
    rw [hQ] at this; simp at this
  · omega
/-- The relation of Text's outer loop: the digits so far are the number's last ones, what is left are its first ones. -/
def TextRel (N : Nat) (w : World) (v5 v6 : Value) (wr : World) : Prop :=
  ∃ (ds : List Nat) (A : Option Addr) (l : List Nat) (c : Nat), v6 = .slice A l.length c ∧ RdS wr w.heap.size 90 A l ∧ l = limbs (val l) ∧ l.length ≤ 16384 ∧ OwnR wr w.heap.size 5 .u8 v5 (ds.map (48 + ·)) ∧
    Dg ds ∧ N = dval ds + 10 ^ ds.length * val l ∧ (ds = [] ∨ 10 ^ (ds.length - 1) ≤ N) ∧ Below w.heap.size w wr
/-- The relation of its inner loop. -/
def TextIn (N Q : Nat) (w : World) (v5 v8 v9 : Value) (A : Option Addr) (l : List Nat) (wr : World) (n0 : Nat) : Prop :=
  ∃ (ds : List Nat) (r i : Nat), i ≤ 9 ∧ v8 = .int .u64 (r : Int) ∧ v9 = .int .i64 (i : Int) ∧ r < 10 ^ (9 - i) ∧ RdS wr w.heap.size 90 A l ∧ OwnR wr w.heap.size 5 .u8 v5 (ds.map (48 + ·)) ∧
    Dg ds ∧ N = dval ds + 10 ^ ds.length * (r + 10 ^ (9 - i) * Q) ∧ (ds = [] ∨ 10 ^ (ds.length - 1) ≤ N) ∧ n0 + i ≤ ds.length ∧ (i = 0 → 0 < r + 10 ^ 9 * Q) ∧ Below w.heap.size w wr

theorem nine_mod (r i Q : Nat) (hi : i < 9) : (r + 10 ^ (9 - i) * Q) % 10 = r % 10 ∧ (r + 10 ^ (9 - i) * Q) / 10 = r / 10 + 10 ^ (9 - (i + 1)) * Q := by
  have e : 10 ^ (9 - i) = 10 * 10 ^ (9 - (i + 1)) := by
    rw [← Nat.pow_succ']; congr 1; omega
  rw [e, Nat.mul_assoc]
  generalize 10 ^ (9 - (i + 1)) * Q = X
  omega
theorem nine_lt (r i : Nat) (hi : i < 9) (h : r < 10 ^ (9 - i)) : r / 10 < 10 ^ (9 - (i + 1)) := by
  have e : 10 ^ (9 - i) = 10 * 10 ^ (9 - (i + 1)) := by
    rw [← Nat.pow_succ']; congr 1; omega
  rw [e] at h
  omega
theorem rev_of {o b : List Nat} (hl : o.length = b.length) (h : ∀ j, j < b.length → nth o j = nth b (b.length - 1 - j)) : o = b.reverse := by
  apply List.ext_getElem
  · simp [hl]
  · intro j h1 h2
    have := h j (by omega)
    rw [nth_lt o h1, nth_lt b (by omega)] at this
    rw [List.getElem_reverse, this]
theorem RdS.alloc {w : World} {B : Nat} {t : TypeId} {A : Option Addr} {l : List Nat} (h : RdS w B t A l) (o : Obj) : RdS (w.alloc o) B t A l := by
  refine ⟨h.1.alloc o, fun a ha hn => ?_⟩
  rcases h.2 a ha hn with h1 | ⟨cur, hk⟩
  · exact .inl h1
  · exact .inr ⟨cur, hk.alloc o⟩

end Go.Proofs.YtenekbfnlbipiaaDoor
