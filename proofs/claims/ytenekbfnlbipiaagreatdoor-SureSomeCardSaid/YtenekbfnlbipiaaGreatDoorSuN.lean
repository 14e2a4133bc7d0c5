/- Walk: the scale for so many digits. -/
import Derived.Test.YtenekbfnlbipiaaGreatDoorSuM
namespace Go.Proofs.YtenekbfnlbipiaaGreatDoor
open Go.RowKit
set_option linter.unusedVariables false
set_option linter.unusedSimpArgs false
set_option maxHeartbeats 4000000
set_option maxRecDepth 100000
theorem results_cell_tmp {P : Program} {fn : Func} {p q : Tmp} {ty : TypeId} (h : fn.results = #[.cell p ty, .tmp q]) (tmps : Array Value) (w : World) (g : Nat) (t : TypeId) (cs : Array Value) (fr : Nat × Nat) (d : TypeDesc) (y : Value)
    (hp : tmps.getD p undef = .pointer (some ⟨g, 0, none⟩)) (hq : tmps.getD q undef = y) (hg : w.heap[g]? = some (.cells cs t fr))
    (hu : P.underlying ty = some d) (hd : (match d with | .struct _ | .array _ _ => true | _ => false) = true) (hi : (P.info? ty).map (·.size) = some cs.size) :
    (results fn tmps).run P w = .ok (.tuple #[.agg cs, y]) w := by
  subst hq
  have hp' : tmps[p]?.getD undef = .pointer (some ⟨g, 0, none⟩) := by simpa using hp
  simp [results, h, hp', asAddr, run_loadVar_row w g t ty cs fr d hg hu hd hi]
theorem results_cells_tmp {P : Program} {fn : Func} {p p2 q : Tmp} {ty ty2 : TypeId} (h : fn.results = #[.cell p ty, .cell p2 ty2, .tmp q]) (tmps : Array Value) (w : World) (g g2 : Nat) (t t2 : TypeId) (cs cs2 : Array Value) (fr fr2 : Nat × Nat) (d d2 : TypeDesc) (y : Value)
    (hp : tmps.getD p undef = .pointer (some ⟨g, 0, none⟩)) (hp2 : tmps.getD p2 undef = .pointer (some ⟨g2, 0, none⟩)) (hq : tmps.getD q undef = y) (hg : w.heap[g]? = some (.cells cs t fr)) (hg2 : w.heap[g2]? = some (.cells cs2 t2 fr2))
    (hu : P.underlying ty = some d) (hd : (match d with | .struct _ | .array _ _ => true | _ => false) = true) (hi : (P.info? ty).map (·.size) = some cs.size)
    (hu2 : P.underlying ty2 = some d2) (hd2 : (match d2 with | .struct _ | .array _ _ => true | _ => false) = true) (hi2 : (P.info? ty2).map (·.size) = some cs2.size) :
    (results fn tmps).run P w = .ok (.tuple #[.agg cs, .agg cs2, y]) w := by
  subst hq
  have hp' : tmps[p]?.getD undef = .pointer (some ⟨g, 0, none⟩) := by simpa using hp
  have hp2' : tmps[p2]?.getD undef = .pointer (some ⟨g2, 0, none⟩) := by simpa using hp2
  simp [results, h, hp', hp2', asAddr, run_loadVar_row w g t ty cs fr d hg hu hd hi, run_loadVar_row w g2 t2 ty2 cs2 fr2 d2 hg2 hu2 hd2 hi2]
theorem W4_lo {v c d : Nat} (hc : c < 18446744073709551616) (hd : d < 18446744073709551616) (h : v = c * 18446744073709551616 + d) : W4 v = #[.int .u64 0, .int .u64 0, .int .u64 (c : Int), .int .u64 (d : Int)] :=
  W4_of (a := 0) (b := 0) (by decide) hc hd (by decide) (by rw [h, Nat.zero_mul, Nat.zero_add])
def kB (k : Int) : Nat := tenN k + (if tenX k then 0 else 1)

theorem sure_at (p n s : Int) (hp1 : -1000 ≤ p) (hp2 : p ≤ 1000) (hn1 : 0 ≤ n) (hn2 : n ≤ 100) (hsv : s = p + 1 - n) (hf : farB (-s) = false) (w : World) (hT : Tab5 w) :
    Calls Tryz.prog 12 #[.int .i64 p, .int .i64 n] w (Says w (.tuple #[.agg (W4 (tenN (-s)) ++ W4 (kB (-s)) ++ #[.int .i64 (tenE (-s)), .int .i64 s]), .int .i64 0])) := by
  have hTe := fun W hT => power_Ten (-s) W hT
  have hWh := fun W hT => power_Whole (-s) W hT
  have e2 : (tenHi (-s) = tenN (-s) / 18446744073709551616) ∧ (tenLo (-s) = tenN (-s) % 18446744073709551616) ∧ tenEr (-s) = 0 ∧ tenEx (-s) = tenE (-s) ∧ wholeB (-s) = tenX (-s) := by
    unfold tenHi tenLo tenEr tenEx wholeB; rw [hf]; exact ⟨rfl, rfl, rfl, rfl, rfl⟩
  rw [e2.1, e2.2.1, e2.2.2.1, e2.2.2.2.1] at hTe
  rw [e2.2.2.1, e2.2.2.2.2] at hWh
  have hbd := (tenN_bd hf).2
  have hs1 : -400 ≤ s ∧ s ≤ 400 := by
    simp only [farB, Bool.or_eq_false_iff, decide_eq_false_iff_not] at hf; omega
  clear e2
  unfold kB
  generalize tenE (-s) = X at hTe ⊢
  generalize tenN (-s) = T at hTe hbd ⊢
  have h128 : (2 : Nat) ^ 128 = 340282366920938463463374607431768211456 := rfl
  rw [h128] at hbd
  have hNx := fun W => sure_next T hbd W
  obtain ⟨H, hH⟩ : ∃ a, a = T / 18446744073709551616 := ⟨_, rfl⟩
  obtain ⟨L, hL⟩ : ∃ a, a = T % 18446744073709551616 := ⟨_, rfl⟩
  have hW := W4_lo (v := T) (c := H) (d := L) (by omega) (by omega) (by omega)
  rw [hW] at hNx
  rw [← hH, ← hL] at hTe
  have hk : -(p + 1 - n) = -s := by omega
  have hb0 : Below w.heap.size w w := Below.refl _ _
  clear hH hL hf h128 hbd
  subst hsv
  cases hX : tenX (-(p + 1 - n))
  · rw [hX] at hWh
    rw [if_neg (by decide)]
    obtain ⟨y0, y1, y2, y3, hy⟩ : ∃ y0 y1 y2 y3 : Nat, W4 (T + 1) = #[.int .u64 (y0 : Int), .int .u64 (y1 : Int), .int .u64 (y2 : Int), .int .u64 (y3 : Int)] := ⟨_, _, _, _, rfl⟩
    rw [hy] at hNx ⊢
    rw [hW]
    clear hy hW hX
    show Calls _ _ _ _ (Says w (.tuple #[.agg #[.int .u64 0, .int .u64 0, .int .u64 (H : Int), .int .u64 (L : Int), .int .u64 (y0 : Int), .int .u64 (y1 : Int), .int .u64 (y2 : Int), .int .u64 (y3 : Int), .int .i64 X, .int .i64 (p + 1 - n)], .int .i64 0]))
    go_enter Tryz.func12, Tryz.ntmps12
    go_wp2_with fail
    have hv1 : Below w.heap.size w (w.alloc (.cells #[.int .u64 0, .int .u64 0, .int .u64 0, .int .u64 0, .int .u64 0, .int .u64 0, .int .u64 0, .int .u64 0, .int .i64 0, .int .i64 0] 45)) := (Below.refl _ _).alloc (by first | exact Nat.le_refl _ | (simp; done) | (simp; omega)) _
    have k1 : Blk (w.alloc (.cells #[.int .u64 0, .int .u64 0, .int .u64 0, .int .u64 0, .int .u64 0, .int .u64 0, .int .u64 0, .int .u64 0, .int .i64 0, .int .i64 0] 45)) (w.heap.size) 45 #[.int .u64 0, .int .u64 0, .int .u64 0, .int .u64 0, .int .u64 0, .int .u64 0, .int .u64 0, .int .u64 0, .int .i64 0, .int .i64 0] := Blk.new w 45 #[.int .u64 0, .int .u64 0, .int .u64 0, .int .u64 0, .int .u64 0, .int .u64 0, .int .u64 0, .int .u64 0, .int .i64 0, .int .i64 0]
    replace hb0 := hb0.trans (hv1.mono hb0.size)
    replace hT := hT.below hv1
    generalize (w.alloc (.cells #[.int .u64 0, .int .u64 0, .int .u64 0, .int .u64 0, .int .u64 0, .int .u64 0, .int .u64 0, .int .u64 0, .int .i64 0, .int .i64 0] 45)) = v1 at *
    clear hv1
    refine (hTe _ hT).mono ?_
    rintro e w2 ⟨rfl, hb2⟩
    replace hb0 := hb0.trans (hb2.mono hb0.size)
    replace hT := hT.below hb2
    replace k1 := k1.below hb2 k1.lt
    clear hb2
    have k1_c0 := k1.cell 0
    have k1_f0 := k1.frozen 0
    have k1_c1 := k1.cell 1
    have k1_f1 := k1.frozen 1
    have k1_c2 := k1.cell 2
    have k1_f2 := k1.frozen 2
    have k1_c3 := k1.cell 3
    have k1_f3 := k1.frozen 3
    have k1_c4 := k1.cell 4
    have k1_f4 := k1.frozen 4
    have k1_c5 := k1.cell 5
    have k1_f5 := k1.frozen 5
    have k1_c6 := k1.cell 6
    have k1_f6 := k1.frozen 6
    have k1_c7 := k1.cell 7
    have k1_f7 := k1.frozen 7
    have k1_c8 := k1.cell 8
    have k1_f8 := k1.frozen 8
    have k1_c9 := k1.cell 9
    have k1_f9 := k1.frozen 9
    have k1_z := k1.lt
    simp only [List.getElem?_toArray, List.getElem?_cons_zero, List.getElem?_cons_succ] at k1_c0 k1_c1 k1_c2 k1_c3 k1_c4 k1_c5 k1_c6 k1_c7 k1_c8 k1_c9
    go_wp2_with fail
    clear k1_c0 k1_f0 k1_c1 k1_f1 k1_c2 k1_f2 k1_c3 k1_f3 k1_c4 k1_f4 k1_c5 k1_f5 k1_c6 k1_f6 k1_c7 k1_f7 k1_c8 k1_f8 k1_c9 k1_f9 k1_z
    refine (hWh _ hT).mono ?_
    rintro e w3 ⟨rfl, hb3⟩
    replace hb0 := hb0.trans (hb3.mono hb0.size)
    replace hT := hT.below hb3
    replace k1 := k1.below hb3 k1.lt
    clear hb3
    go_upto_region 7 with fail
    obtain ⟨B, hB⟩ : ∃ B, B = w3.heap.size := ⟨_, rfl⟩
    have k1_z := k1.lt
    have hBz : w.heap.size < B := by omega
    have k2 : Blk (w3.alloc (.cells #[.int .u64 0, .int .u64 0, .int .u64 (H : Int), .int .u64 (L : Int), .int .u64 0, .int .u64 0, .int .u64 0, .int .u64 0, .int .i64 X, .int .i64 (p + 1 - n)] 45)) B 45 #[.int .u64 0, .int .u64 0, .int .u64 (H : Int), .int .u64 (L : Int), .int .u64 0, .int .u64 0, .int .u64 0, .int .u64 0, .int .i64 X, .int .i64 (p + 1 - n)] := by rw [hB]; exact Blk.new w3 45 #[.int .u64 0, .int .u64 0, .int .u64 (H : Int), .int .u64 (L : Int), .int .u64 0, .int .u64 0, .int .u64 0, .int .u64 0, .int .i64 X, .int .i64 (p + 1 - n)]
    replace k1 := k1.alloc (.cells #[.int .u64 0, .int .u64 0, .int .u64 (H : Int), .int .u64 (L : Int), .int .u64 0, .int .u64 0, .int .u64 0, .int .u64 0, .int .i64 X, .int .i64 (p + 1 - n)] 45)
    replace hb0 := hb0.alloc (o := .cells #[.int .u64 0, .int .u64 0, .int .u64 (H : Int), .int .u64 (L : Int), .int .u64 0, .int .u64 0, .int .u64 0, .int .u64 0, .int .i64 X, .int .i64 (p + 1 - n)] 45) (by omega)
    rw [← hB]
    have hne : w.heap.size ≠ B := by omega
    have hle : w.heap.size ≤ B := by omega
    generalize (w3.alloc (.cells #[.int .u64 0, .int .u64 0, .int .u64 (H : Int), .int .u64 (L : Int), .int .u64 0, .int .u64 0, .int .u64 0, .int .u64 0, .int .i64 X, .int .i64 (p + 1 - n)] 45)) = v9 at *
    clear hB k1_z
    have k1_c0 := k1.cell 0
    have k1_f0 := k1.frozen 0
    have k1_c1 := k1.cell 1
    have k1_f1 := k1.frozen 1
    have k1_c2 := k1.cell 2
    have k1_f2 := k1.frozen 2
    have k1_c3 := k1.cell 3
    have k1_f3 := k1.frozen 3
    have k1_c4 := k1.cell 4
    have k1_f4 := k1.frozen 4
    have k1_c5 := k1.cell 5
    have k1_f5 := k1.frozen 5
    have k1_c6 := k1.cell 6
    have k1_f6 := k1.frozen 6
    have k1_c7 := k1.cell 7
    have k1_f7 := k1.frozen 7
    have k1_c8 := k1.cell 8
    have k1_f8 := k1.frozen 8
    have k1_c9 := k1.cell 9
    have k1_f9 := k1.frozen 9
    have k1_z := k1.lt
    have k2_c0 := k2.cell 0
    have k2_f0 := k2.frozen 0
    have k2_c1 := k2.cell 1
    have k2_f1 := k2.frozen 1
    have k2_c2 := k2.cell 2
    have k2_f2 := k2.frozen 2
    have k2_c3 := k2.cell 3
    have k2_f3 := k2.frozen 3
    have k2_c4 := k2.cell 4
    have k2_f4 := k2.frozen 4
    have k2_c5 := k2.cell 5
    have k2_f5 := k2.frozen 5
    have k2_c6 := k2.cell 6
    have k2_f6 := k2.frozen 6
    have k2_c7 := k2.cell 7
    have k2_f7 := k2.frozen 7
    have k2_c8 := k2.cell 8
    have k2_f8 := k2.frozen 8
    have k2_c9 := k2.cell 9
    have k2_f9 := k2.frozen 9
    have k2_z := k2.lt
    simp only [List.getElem?_toArray, List.getElem?_cons_zero, List.getElem?_cons_succ] at k1_c0 k1_c1 k1_c2 k1_c3 k1_c4 k1_c5 k1_c6 k1_c7 k1_c8 k1_c9 k2_c0 k2_c1 k2_c2 k2_c3 k2_c4 k2_c5 k2_c6 k2_c7 k2_c8 k2_c9
    go_upto_region 8 with fail
    clear k1_c0 k1_f0 k1_c1 k1_f1 k1_c2 k1_f2 k1_c3 k1_f3 k1_c4 k1_f4 k1_c5 k1_f5 k1_c6 k1_f6 k1_c7 k1_f7 k1_c8 k1_f8 k1_c9 k1_f9 k1_z k2_c0 k2_f0 k2_c1 k2_f1 k2_c2 k2_f2 k2_c3 k2_f3 k2_c4 k2_f4 k2_c5 k2_f5 k2_c6 k2_f6 k2_c7 k2_f7 k2_c8 k2_f8 k2_c9 k2_f9 k2_z
    refine (fun (HH : ∀ W, Blk W (w.heap.size) 45 #[.int .u64 0, .int .u64 0, .int .u64 0, .int .u64 0, .int .u64 0, .int .u64 0, .int .u64 0, .int .u64 0, .int .i64 0, .int .i64 0] ∧ Blk W (B) 45 #[.int .u64 0, .int .u64 0, .int .u64 (H : Int), .int .u64 (L : Int), .int .u64 0, .int .u64 0, .int .u64 (H : Int), .int .u64 (L : Int), .int .i64 X, .int .i64 (p + 1 - n)] ∧ Below w.heap.size w W → Code.wp _ _ _ _ W) => HH _ ⟨by exact ((((k1.far (p := ⟨B, 4, none⟩) (by exact hne) _).far (p := ⟨B, 5, none⟩) (by exact hne) _).far (p := ⟨B, 6, none⟩) (by exact hne) _).far (p := ⟨B, 7, none⟩) (by exact hne) _), by exact ((((k2.set_ 4 _).set_ 5 _).set_ 6 _).set_ 7 _), by exact ((((hb0.setCell (p := ⟨B, 4, none⟩) (by exact hle) _).setCell (p := ⟨B, 5, none⟩) (by exact hle) _).setCell (p := ⟨B, 6, none⟩) (by exact hle) _).setCell (p := ⟨B, 7, none⟩) (by exact hle) _)⟩) ?_
    clear k1 k2 hb0
    rintro w8 ⟨k1, k2, hb0⟩
    have k1_c0 := k1.cell 0
    have k1_f0 := k1.frozen 0
    have k1_c1 := k1.cell 1
    have k1_f1 := k1.frozen 1
    have k1_c2 := k1.cell 2
    have k1_f2 := k1.frozen 2
    have k1_c3 := k1.cell 3
    have k1_f3 := k1.frozen 3
    have k1_c4 := k1.cell 4
    have k1_f4 := k1.frozen 4
    have k1_c5 := k1.cell 5
    have k1_f5 := k1.frozen 5
    have k1_c6 := k1.cell 6
    have k1_f6 := k1.frozen 6
    have k1_c7 := k1.cell 7
    have k1_f7 := k1.frozen 7
    have k1_c8 := k1.cell 8
    have k1_f8 := k1.frozen 8
    have k1_c9 := k1.cell 9
    have k1_f9 := k1.frozen 9
    have k1_z := k1.lt
    have k2_c0 := k2.cell 0
    have k2_f0 := k2.frozen 0
    have k2_c1 := k2.cell 1
    have k2_f1 := k2.frozen 1
    have k2_c2 := k2.cell 2
    have k2_f2 := k2.frozen 2
    have k2_c3 := k2.cell 3
    have k2_f3 := k2.frozen 3
    have k2_c4 := k2.cell 4
    have k2_f4 := k2.frozen 4
    have k2_c5 := k2.cell 5
    have k2_f5 := k2.frozen 5
    have k2_c6 := k2.cell 6
    have k2_f6 := k2.frozen 6
    have k2_c7 := k2.cell 7
    have k2_f7 := k2.frozen 7
    have k2_c8 := k2.cell 8
    have k2_f8 := k2.frozen 8
    have k2_c9 := k2.cell 9
    have k2_f9 := k2.frozen 9
    have k2_z := k2.lt
    simp only [List.getElem?_toArray, List.getElem?_cons_zero, List.getElem?_cons_succ] at k1_c0 k1_c1 k1_c2 k1_c3 k1_c4 k1_c5 k1_c6 k1_c7 k1_c8 k1_c9 k2_c0 k2_c1 k2_c2 k2_c3 k2_c4 k2_c5 k2_c6 k2_c7 k2_c8 k2_c9
    go_wp2_with fail
    clear k1_c0 k1_f0 k1_c1 k1_f1 k1_c2 k1_f2 k1_c3 k1_f3 k1_c4 k1_f4 k1_c5 k1_f5 k1_c6 k1_f6 k1_c7 k1_f7 k1_c8 k1_f8 k1_c9 k1_f9 k1_z k2_c0 k2_f0 k2_c1 k2_f1 k2_c2 k2_f2 k2_c3 k2_f3 k2_c4 k2_f4 k2_c5 k2_f5 k2_c6 k2_f6 k2_c7 k2_f7 k2_c8 k2_f8 k2_c9 k2_f9 k2_z
    refine (hNx _).mono ?_
    rintro e w9 ⟨rfl, hb9⟩
    replace hb0 := hb0.trans (hb9.mono hb0.size)
    replace k1 := k1.below hb9 k1.lt
    replace k2 := k2.below hb9 k2.lt
    clear hb9
    have k1_c0 := k1.cell 0
    have k1_f0 := k1.frozen 0
    have k1_c1 := k1.cell 1
    have k1_f1 := k1.frozen 1
    have k1_c2 := k1.cell 2
    have k1_f2 := k1.frozen 2
    have k1_c3 := k1.cell 3
    have k1_f3 := k1.frozen 3
    have k1_c4 := k1.cell 4
    have k1_f4 := k1.frozen 4
    have k1_c5 := k1.cell 5
    have k1_f5 := k1.frozen 5
    have k1_c6 := k1.cell 6
    have k1_f6 := k1.frozen 6
    have k1_c7 := k1.cell 7
    have k1_f7 := k1.frozen 7
    have k1_c8 := k1.cell 8
    have k1_f8 := k1.frozen 8
    have k1_c9 := k1.cell 9
    have k1_f9 := k1.frozen 9
    have k1_z := k1.lt
    have k2_c0 := k2.cell 0
    have k2_f0 := k2.frozen 0
    have k2_c1 := k2.cell 1
    have k2_f1 := k2.frozen 1
    have k2_c2 := k2.cell 2
    have k2_f2 := k2.frozen 2
    have k2_c3 := k2.cell 3
    have k2_f3 := k2.frozen 3
    have k2_c4 := k2.cell 4
    have k2_f4 := k2.frozen 4
    have k2_c5 := k2.cell 5
    have k2_f5 := k2.frozen 5
    have k2_c6 := k2.cell 6
    have k2_f6 := k2.frozen 6
    have k2_c7 := k2.cell 7
    have k2_f7 := k2.frozen 7
    have k2_c8 := k2.cell 8
    have k2_f8 := k2.frozen 8
    have k2_c9 := k2.cell 9
    have k2_f9 := k2.frozen 9
    have k2_z := k2.lt
    simp only [List.getElem?_toArray, List.getElem?_cons_zero, List.getElem?_cons_succ] at k1_c0 k1_c1 k1_c2 k1_c3 k1_c4 k1_c5 k1_c6 k1_c7 k1_c8 k1_c9 k2_c0 k2_c1 k2_c2 k2_c3 k2_c4 k2_c5 k2_c6 k2_c7 k2_c8 k2_c9
    go_upto_region 10 with fail
    clear k1_c0 k1_f0 k1_c1 k1_f1 k1_c2 k1_f2 k1_c3 k1_f3 k1_c4 k1_f4 k1_c5 k1_f5 k1_c6 k1_f6 k1_c7 k1_f7 k1_c8 k1_f8 k1_c9 k1_f9 k1_z k2_c0 k2_f0 k2_c1 k2_f1 k2_c2 k2_f2 k2_c3 k2_f3 k2_c4 k2_f4 k2_c5 k2_f5 k2_c6 k2_f6 k2_c7 k2_f7 k2_c8 k2_f8 k2_c9 k2_f9 k2_z
    refine (fun (HH : ∀ W, Blk W (w.heap.size) 45 #[.int .u64 0, .int .u64 0, .int .u64 0, .int .u64 0, .int .u64 0, .int .u64 0, .int .u64 0, .int .u64 0, .int .i64 0, .int .i64 0] ∧ Blk W (B) 45 #[.int .u64 0, .int .u64 0, .int .u64 (H : Int), .int .u64 (L : Int), .int .u64 (y0 : Int), .int .u64 (y1 : Int), .int .u64 (y2 : Int), .int .u64 (y3 : Int), .int .i64 X, .int .i64 (p + 1 - n)] ∧ Below w.heap.size w W → Code.wp _ _ _ _ W) => HH _ ⟨by exact ((((k1.far (p := ⟨B, 4, none⟩) (by exact hne) _).far (p := ⟨B, 5, none⟩) (by exact hne) _).far (p := ⟨B, 6, none⟩) (by exact hne) _).far (p := ⟨B, 7, none⟩) (by exact hne) _), by exact ((((k2.set_ 4 _).set_ 5 _).set_ 6 _).set_ 7 _), by exact ((((hb0.setCell (p := ⟨B, 4, none⟩) (by exact hle) _).setCell (p := ⟨B, 5, none⟩) (by exact hle) _).setCell (p := ⟨B, 6, none⟩) (by exact hle) _).setCell (p := ⟨B, 7, none⟩) (by exact hle) _)⟩) ?_
    clear k1 k2 hb0
    rintro w10 ⟨k1, k2, hb0⟩
    have k1_c0 := k1.cell 0
    have k1_f0 := k1.frozen 0
    have k1_c1 := k1.cell 1
    have k1_f1 := k1.frozen 1
    have k1_c2 := k1.cell 2
    have k1_f2 := k1.frozen 2
    have k1_c3 := k1.cell 3
    have k1_f3 := k1.frozen 3
    have k1_c4 := k1.cell 4
    have k1_f4 := k1.frozen 4
    have k1_c5 := k1.cell 5
    have k1_f5 := k1.frozen 5
    have k1_c6 := k1.cell 6
    have k1_f6 := k1.frozen 6
    have k1_c7 := k1.cell 7
    have k1_f7 := k1.frozen 7
    have k1_c8 := k1.cell 8
    have k1_f8 := k1.frozen 8
    have k1_c9 := k1.cell 9
    have k1_f9 := k1.frozen 9
    have k1_z := k1.lt
    have k2_c0 := k2.cell 0
    have k2_f0 := k2.frozen 0
    have k2_c1 := k2.cell 1
    have k2_f1 := k2.frozen 1
    have k2_c2 := k2.cell 2
    have k2_f2 := k2.frozen 2
    have k2_c3 := k2.cell 3
    have k2_f3 := k2.frozen 3
    have k2_c4 := k2.cell 4
    have k2_f4 := k2.frozen 4
    have k2_c5 := k2.cell 5
    have k2_f5 := k2.frozen 5
    have k2_c6 := k2.cell 6
    have k2_f6 := k2.frozen 6
    have k2_c7 := k2.cell 7
    have k2_f7 := k2.frozen 7
    have k2_c8 := k2.cell 8
    have k2_f8 := k2.frozen 8
    have k2_c9 := k2.cell 9
    have k2_f9 := k2.frozen 9
    have k2_z := k2.lt
    simp only [List.getElem?_toArray, List.getElem?_cons_zero, List.getElem?_cons_succ] at k1_c0 k1_c1 k1_c2 k1_c3 k1_c4 k1_c5 k1_c6 k1_c7 k1_c8 k1_c9 k2_c0 k2_c1 k2_c2 k2_c3 k2_c4 k2_c5 k2_c6 k2_c7 k2_c8 k2_c9
    go_wp2
    clear k1_c0 k1_f0 k1_c1 k1_f1 k1_c2 k1_f2 k1_c3 k1_f3 k1_c4 k1_f4 k1_c5 k1_f5 k1_c6 k1_f6 k1_c7 k1_f7 k1_c8 k1_f8 k1_c9 k1_f9 k1_z k2_c0 k2_f0 k2_c1 k2_f1 k2_c2 k2_f2 k2_c3 k2_f3 k2_c4 k2_f4 k2_c5 k2_f5 k2_c6 k2_f6 k2_c7 k2_f7 k2_c8 k2_f8 k2_c9 k2_f9 k2_z
    refine bodyPost_ret (v := .tuple #[.agg #[.int .u64 0, .int .u64 0, .int .u64 (H : Int), .int .u64 (L : Int), .int .u64 (y0 : Int), .int .u64 (y1 : Int), .int .u64 (y2 : Int), .int .u64 (y3 : Int), .int .i64 X, .int .i64 (p + 1 - n)], .int .i64 0]) ?_ rfl ⟨rfl, ((((((((((hb0.setCell (p := ⟨w.heap.size, 0, none⟩) (Nat.le_refl _) _).setCell (p := ⟨w.heap.size, 1, none⟩) (Nat.le_refl _) _).setCell (p := ⟨w.heap.size, 2, none⟩) (Nat.le_refl _) _).setCell (p := ⟨w.heap.size, 3, none⟩) (Nat.le_refl _) _).setCell (p := ⟨w.heap.size, 4, none⟩) (Nat.le_refl _) _).setCell (p := ⟨w.heap.size, 5, none⟩) (Nat.le_refl _) _).setCell (p := ⟨w.heap.size, 6, none⟩) (Nat.le_refl _) _).setCell (p := ⟨w.heap.size, 7, none⟩) (Nat.le_refl _) _).setCell (p := ⟨w.heap.size, 8, none⟩) (Nat.le_refl _) _).setCell (p := ⟨w.heap.size, 9, none⟩) (Nat.le_refl _) _)⟩
    refine results_cell_tmp rfl _ _ w.heap.size _ _ _ _ _ ?_ ?_ ((((((((((k1.set_ 0 _).set_ 1 _).set_ 2 _).set_ 3 _).set_ 4 _).set_ 5 _).set_ 6 _).set_ 7 _).set_ 8 _).set_ 9 _) Tryz.underlying45 rfl (by kernel_rfl)
    · rfl
    · rfl
  · rw [hX] at hWh
    rw [if_pos rfl, Nat.add_zero, hW]
    clear hW hNx hX
    show Calls _ _ _ _ (Says w (.tuple #[.agg #[.int .u64 0, .int .u64 0, .int .u64 (H : Int), .int .u64 (L : Int), .int .u64 0, .int .u64 0, .int .u64 (H : Int), .int .u64 (L : Int), .int .i64 X, .int .i64 (p + 1 - n)], .int .i64 0]))
    go_enter Tryz.func12, Tryz.ntmps12
    go_wp2_with fail
    have hv1 : Below w.heap.size w (w.alloc (.cells #[.int .u64 0, .int .u64 0, .int .u64 0, .int .u64 0, .int .u64 0, .int .u64 0, .int .u64 0, .int .u64 0, .int .i64 0, .int .i64 0] 45)) := (Below.refl _ _).alloc (by first | exact Nat.le_refl _ | (simp; done) | (simp; omega)) _
    have k1 : Blk (w.alloc (.cells #[.int .u64 0, .int .u64 0, .int .u64 0, .int .u64 0, .int .u64 0, .int .u64 0, .int .u64 0, .int .u64 0, .int .i64 0, .int .i64 0] 45)) (w.heap.size) 45 #[.int .u64 0, .int .u64 0, .int .u64 0, .int .u64 0, .int .u64 0, .int .u64 0, .int .u64 0, .int .u64 0, .int .i64 0, .int .i64 0] := Blk.new w 45 #[.int .u64 0, .int .u64 0, .int .u64 0, .int .u64 0, .int .u64 0, .int .u64 0, .int .u64 0, .int .u64 0, .int .i64 0, .int .i64 0]
    replace hb0 := hb0.trans (hv1.mono hb0.size)
    replace hT := hT.below hv1
    generalize (w.alloc (.cells #[.int .u64 0, .int .u64 0, .int .u64 0, .int .u64 0, .int .u64 0, .int .u64 0, .int .u64 0, .int .u64 0, .int .i64 0, .int .i64 0] 45)) = v1 at *
    clear hv1
    refine (hTe _ hT).mono ?_
    rintro e w2 ⟨rfl, hb2⟩
    replace hb0 := hb0.trans (hb2.mono hb0.size)
    replace hT := hT.below hb2
    replace k1 := k1.below hb2 k1.lt
    clear hb2
    have k1_c0 := k1.cell 0
    have k1_f0 := k1.frozen 0
    have k1_c1 := k1.cell 1
    have k1_f1 := k1.frozen 1
    have k1_c2 := k1.cell 2
    have k1_f2 := k1.frozen 2
    have k1_c3 := k1.cell 3
    have k1_f3 := k1.frozen 3
    have k1_c4 := k1.cell 4
    have k1_f4 := k1.frozen 4
    have k1_c5 := k1.cell 5
    have k1_f5 := k1.frozen 5
    have k1_c6 := k1.cell 6
    have k1_f6 := k1.frozen 6
    have k1_c7 := k1.cell 7
    have k1_f7 := k1.frozen 7
    have k1_c8 := k1.cell 8
    have k1_f8 := k1.frozen 8
    have k1_c9 := k1.cell 9
    have k1_f9 := k1.frozen 9
    have k1_z := k1.lt
    simp only [List.getElem?_toArray, List.getElem?_cons_zero, List.getElem?_cons_succ] at k1_c0 k1_c1 k1_c2 k1_c3 k1_c4 k1_c5 k1_c6 k1_c7 k1_c8 k1_c9
    go_wp2_with fail
    clear k1_c0 k1_f0 k1_c1 k1_f1 k1_c2 k1_f2 k1_c3 k1_f3 k1_c4 k1_f4 k1_c5 k1_f5 k1_c6 k1_f6 k1_c7 k1_f7 k1_c8 k1_f8 k1_c9 k1_f9 k1_z
    refine (hWh _ hT).mono ?_
    rintro e w3 ⟨rfl, hb3⟩
    replace hb0 := hb0.trans (hb3.mono hb0.size)
    replace hT := hT.below hb3
    replace k1 := k1.below hb3 k1.lt
    clear hb3
    go_upto_region 7 with fail
    obtain ⟨B, hB⟩ : ∃ B, B = w3.heap.size := ⟨_, rfl⟩
    have k1_z := k1.lt
    have hBz : w.heap.size < B := by omega
    have k2 : Blk (w3.alloc (.cells #[.int .u64 0, .int .u64 0, .int .u64 (H : Int), .int .u64 (L : Int), .int .u64 0, .int .u64 0, .int .u64 0, .int .u64 0, .int .i64 X, .int .i64 (p + 1 - n)] 45)) B 45 #[.int .u64 0, .int .u64 0, .int .u64 (H : Int), .int .u64 (L : Int), .int .u64 0, .int .u64 0, .int .u64 0, .int .u64 0, .int .i64 X, .int .i64 (p + 1 - n)] := by rw [hB]; exact Blk.new w3 45 #[.int .u64 0, .int .u64 0, .int .u64 (H : Int), .int .u64 (L : Int), .int .u64 0, .int .u64 0, .int .u64 0, .int .u64 0, .int .i64 X, .int .i64 (p + 1 - n)]
    replace k1 := k1.alloc (.cells #[.int .u64 0, .int .u64 0, .int .u64 (H : Int), .int .u64 (L : Int), .int .u64 0, .int .u64 0, .int .u64 0, .int .u64 0, .int .i64 X, .int .i64 (p + 1 - n)] 45)
    replace hb0 := hb0.alloc (o := .cells #[.int .u64 0, .int .u64 0, .int .u64 (H : Int), .int .u64 (L : Int), .int .u64 0, .int .u64 0, .int .u64 0, .int .u64 0, .int .i64 X, .int .i64 (p + 1 - n)] 45) (by omega)
    rw [← hB]
    have hne : w.heap.size ≠ B := by omega
    have hle : w.heap.size ≤ B := by omega
    generalize (w3.alloc (.cells #[.int .u64 0, .int .u64 0, .int .u64 (H : Int), .int .u64 (L : Int), .int .u64 0, .int .u64 0, .int .u64 0, .int .u64 0, .int .i64 X, .int .i64 (p + 1 - n)] 45)) = v9 at *
    clear hB k1_z
    have k1_c0 := k1.cell 0
    have k1_f0 := k1.frozen 0
    have k1_c1 := k1.cell 1
    have k1_f1 := k1.frozen 1
    have k1_c2 := k1.cell 2
    have k1_f2 := k1.frozen 2
    have k1_c3 := k1.cell 3
    have k1_f3 := k1.frozen 3
    have k1_c4 := k1.cell 4
    have k1_f4 := k1.frozen 4
    have k1_c5 := k1.cell 5
    have k1_f5 := k1.frozen 5
    have k1_c6 := k1.cell 6
    have k1_f6 := k1.frozen 6
    have k1_c7 := k1.cell 7
    have k1_f7 := k1.frozen 7
    have k1_c8 := k1.cell 8
    have k1_f8 := k1.frozen 8
    have k1_c9 := k1.cell 9
    have k1_f9 := k1.frozen 9
    have k1_z := k1.lt
    have k2_c0 := k2.cell 0
    have k2_f0 := k2.frozen 0
    have k2_c1 := k2.cell 1
    have k2_f1 := k2.frozen 1
    have k2_c2 := k2.cell 2
    have k2_f2 := k2.frozen 2
    have k2_c3 := k2.cell 3
    have k2_f3 := k2.frozen 3
    have k2_c4 := k2.cell 4
    have k2_f4 := k2.frozen 4
    have k2_c5 := k2.cell 5
    have k2_f5 := k2.frozen 5
    have k2_c6 := k2.cell 6
    have k2_f6 := k2.frozen 6
    have k2_c7 := k2.cell 7
    have k2_f7 := k2.frozen 7
    have k2_c8 := k2.cell 8
    have k2_f8 := k2.frozen 8
    have k2_c9 := k2.cell 9
    have k2_f9 := k2.frozen 9
    have k2_z := k2.lt
    simp only [List.getElem?_toArray, List.getElem?_cons_zero, List.getElem?_cons_succ] at k1_c0 k1_c1 k1_c2 k1_c3 k1_c4 k1_c5 k1_c6 k1_c7 k1_c8 k1_c9 k2_c0 k2_c1 k2_c2 k2_c3 k2_c4 k2_c5 k2_c6 k2_c7 k2_c8 k2_c9
    go_upto_region 8 with fail
    clear k1_c0 k1_f0 k1_c1 k1_f1 k1_c2 k1_f2 k1_c3 k1_f3 k1_c4 k1_f4 k1_c5 k1_f5 k1_c6 k1_f6 k1_c7 k1_f7 k1_c8 k1_f8 k1_c9 k1_f9 k1_z k2_c0 k2_f0 k2_c1 k2_f1 k2_c2 k2_f2 k2_c3 k2_f3 k2_c4 k2_f4 k2_c5 k2_f5 k2_c6 k2_f6 k2_c7 k2_f7 k2_c8 k2_f8 k2_c9 k2_f9 k2_z
    refine (fun (HH : ∀ W, Blk W (w.heap.size) 45 #[.int .u64 0, .int .u64 0, .int .u64 0, .int .u64 0, .int .u64 0, .int .u64 0, .int .u64 0, .int .u64 0, .int .i64 0, .int .i64 0] ∧ Blk W (B) 45 #[.int .u64 0, .int .u64 0, .int .u64 (H : Int), .int .u64 (L : Int), .int .u64 0, .int .u64 0, .int .u64 (H : Int), .int .u64 (L : Int), .int .i64 X, .int .i64 (p + 1 - n)] ∧ Below w.heap.size w W → Code.wp _ _ _ _ W) => HH _ ⟨by exact ((((k1.far (p := ⟨B, 4, none⟩) (by exact hne) _).far (p := ⟨B, 5, none⟩) (by exact hne) _).far (p := ⟨B, 6, none⟩) (by exact hne) _).far (p := ⟨B, 7, none⟩) (by exact hne) _), by exact ((((k2.set_ 4 _).set_ 5 _).set_ 6 _).set_ 7 _), by exact ((((hb0.setCell (p := ⟨B, 4, none⟩) (by exact hle) _).setCell (p := ⟨B, 5, none⟩) (by exact hle) _).setCell (p := ⟨B, 6, none⟩) (by exact hle) _).setCell (p := ⟨B, 7, none⟩) (by exact hle) _)⟩) ?_
    clear k1 k2 hb0
    rintro w8 ⟨k1, k2, hb0⟩
    have k1_c0 := k1.cell 0
    have k1_f0 := k1.frozen 0
    have k1_c1 := k1.cell 1
    have k1_f1 := k1.frozen 1
    have k1_c2 := k1.cell 2
    have k1_f2 := k1.frozen 2
    have k1_c3 := k1.cell 3
    have k1_f3 := k1.frozen 3
    have k1_c4 := k1.cell 4
    have k1_f4 := k1.frozen 4
    have k1_c5 := k1.cell 5
    have k1_f5 := k1.frozen 5
    have k1_c6 := k1.cell 6
    have k1_f6 := k1.frozen 6
    have k1_c7 := k1.cell 7
    have k1_f7 := k1.frozen 7
    have k1_c8 := k1.cell 8
    have k1_f8 := k1.frozen 8
    have k1_c9 := k1.cell 9
    have k1_f9 := k1.frozen 9
    have k1_z := k1.lt
    have k2_c0 := k2.cell 0
    have k2_f0 := k2.frozen 0
    have k2_c1 := k2.cell 1
    have k2_f1 := k2.frozen 1
    have k2_c2 := k2.cell 2
    have k2_f2 := k2.frozen 2
    have k2_c3 := k2.cell 3
    have k2_f3 := k2.frozen 3
    have k2_c4 := k2.cell 4
    have k2_f4 := k2.frozen 4
    have k2_c5 := k2.cell 5
    have k2_f5 := k2.frozen 5
    have k2_c6 := k2.cell 6
    have k2_f6 := k2.frozen 6
    have k2_c7 := k2.cell 7
    have k2_f7 := k2.frozen 7
    have k2_c8 := k2.cell 8
    have k2_f8 := k2.frozen 8
    have k2_c9 := k2.cell 9
    have k2_f9 := k2.frozen 9
    have k2_z := k2.lt
    simp only [List.getElem?_toArray, List.getElem?_cons_zero, List.getElem?_cons_succ] at k1_c0 k1_c1 k1_c2 k1_c3 k1_c4 k1_c5 k1_c6 k1_c7 k1_c8 k1_c9 k2_c0 k2_c1 k2_c2 k2_c3 k2_c4 k2_c5 k2_c6 k2_c7 k2_c8 k2_c9
    go_wp2
    clear k1_c0 k1_f0 k1_c1 k1_f1 k1_c2 k1_f2 k1_c3 k1_f3 k1_c4 k1_f4 k1_c5 k1_f5 k1_c6 k1_f6 k1_c7 k1_f7 k1_c8 k1_f8 k1_c9 k1_f9 k1_z k2_c0 k2_f0 k2_c1 k2_f1 k2_c2 k2_f2 k2_c3 k2_f3 k2_c4 k2_f4 k2_c5 k2_f5 k2_c6 k2_f6 k2_c7 k2_f7 k2_c8 k2_f8 k2_c9 k2_f9 k2_z
    refine bodyPost_ret (v := .tuple #[.agg #[.int .u64 0, .int .u64 0, .int .u64 (H : Int), .int .u64 (L : Int), .int .u64 0, .int .u64 0, .int .u64 (H : Int), .int .u64 (L : Int), .int .i64 X, .int .i64 (p + 1 - n)], .int .i64 0]) ?_ rfl ⟨rfl, ((((((((((hb0.setCell (p := ⟨w.heap.size, 0, none⟩) (Nat.le_refl _) _).setCell (p := ⟨w.heap.size, 1, none⟩) (Nat.le_refl _) _).setCell (p := ⟨w.heap.size, 2, none⟩) (Nat.le_refl _) _).setCell (p := ⟨w.heap.size, 3, none⟩) (Nat.le_refl _) _).setCell (p := ⟨w.heap.size, 4, none⟩) (Nat.le_refl _) _).setCell (p := ⟨w.heap.size, 5, none⟩) (Nat.le_refl _) _).setCell (p := ⟨w.heap.size, 6, none⟩) (Nat.le_refl _) _).setCell (p := ⟨w.heap.size, 7, none⟩) (Nat.le_refl _) _).setCell (p := ⟨w.heap.size, 8, none⟩) (Nat.le_refl _) _).setCell (p := ⟨w.heap.size, 9, none⟩) (Nat.le_refl _) _)⟩
    refine results_cell_tmp rfl _ _ w.heap.size _ _ _ _ _ ?_ ?_ ((((((((((k1.set_ 0 _).set_ 1 _).set_ 2 _).set_ 3 _).set_ 4 _).set_ 5 _).set_ 6 _).set_ 7 _).set_ 8 _).set_ 9 _) Tryz.underlying45 rfl (by kernel_rfl)
    · rfl
    · rfl
end Go.Proofs.YtenekbfnlbipiaaGreatDoor
