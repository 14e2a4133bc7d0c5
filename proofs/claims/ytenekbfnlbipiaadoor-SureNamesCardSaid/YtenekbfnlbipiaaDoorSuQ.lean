/- Walk: a decimal is made of a number's digits. -/
import Derived.Test.YtenekbfnlbipiaaDoorLy
namespace Go.Proofs.YtenekbfnlbipiaaDoor
open Go.RowKit
set_option linter.unusedVariables false
set_option linter.unusedSimpArgs false
set_option maxHeartbeats 4000000
set_option maxRecDepth 100000

theorem dec_far (n : Int) (h1 : -1073741824 ≤ n) (h2 : n ≤ 1073741824) (w : World) : Calls Tryd.prog 97 #[.int .i64 n] w fun e w' => e = .returned (.bool false) ∧ w = w' := by
  have g1 : decide (n < -1073741824) = false := by simp; omega
  have g2 : decide (1073741824 < n) = false := by simp; omega
  go_enter Tryd.func97, Tryd.ntmps97
  go_wp2
  go_ret
  exact ⟨rfl, rfl⟩
theorem dec_digits (l : List UInt8) (hl : l.length ≤ 65536) (hd : ∀ i (h : i < l.length), 48 ≤ l[i].toNat ∧ l[i].toNat ≤ 57) (w : World) :
    Calls Tryd.prog 94 #[.string ⟨l.toArray⟩] w (Says w (.bool true)) := by
  have hsz : (⟨l.toArray⟩ : ByteArray).size = l.length := by simp [ByteArray.size]
  go_enter Tryd.func94, Tryd.ntmps94
  go_wp2
  go_loopw [3, 6] (fun v3 v6 wr => ∃ k : Nat, k ≤ l.length ∧ v6 = .int .i64 (k : Int) ∧ Below w.heap.size w wr) (fun _ v6 _ => l.length - (intOf v6).toNat)
  case atStart => exact ⟨0, Nat.zero_le _, rfl, Below.refl _ _⟩
  case round =>
    obtain ⟨k, hk, rfl, hb⟩ := hrel
    by_cases hk1 : k < l.length
    · have hx := hd k hk1
      have hg : decide ((k : Int) < (l.length : Int)) = true := by simp; omega
      have hg2 : decide ((9 : Int) < ((((⟨l.toArray⟩ : ByteArray)[k]'(by rw [hsz]; exact hk1)).toNat : Int) - 48) % 256) = false := by
        have e : (⟨l.toArray⟩ : ByteArray)[k]'(by rw [hsz]; exact hk1) = l[k] := rfl
        rw [e, decide_eq_false_iff_not]; omega
      go_wp2
      go_roundw
      case rel => exact ⟨k + 1, hk1, rfl, hb⟩
      case measure => first | (simp [intOf]; done) | (simp [intOf]; omega)
    · obtain rfl : k = l.length := by omega
      have hg : decide ((l.length : Int) < (l.length : Int)) = false := by simp
      go_wp2
      go_ret
      exact ⟨rfl, hb⟩
/-- What make makes of digits. -/
def mkD (D : List UInt8) (x : Int) : List UInt8 × Int :=
  if Lib.trimLeftB (Lib.trimRightB D 48) 48 = [] then ([], 0) else (Lib.trimLeftB (Lib.trimRightB D 48) 48, x + ((D.length : Int) - ((Lib.trimRightB D 48).length : Int)))
theorem dec_Make (ng : Bool) (l : List UInt8) (x : Int) (hl : l.length ≤ 1000) (hx1 : -10000 ≤ x) (hx2 : x ≤ 10000) (hd : ∀ i (h : i < l.length), 48 ≤ l[i].toNat ∧ l[i].toNat ≤ 57) (w : World) :
    Calls Tryd.prog 73 #[.bool ng, .string ⟨l.toArray⟩, .int .i64 x] w (Says w (.tuple #[.agg #[.bool ng, .string ⟨(mkD l x).1.toArray⟩, .int .i64 (mkD l x).2], .int .i64 0])) := by
  have hsz : (⟨l.toArray⟩ : ByteArray).size = l.length := by simp [ByteArray.size]
  have hDg := fun W => dec_digits l (by omega) hd W
  have hRlen : (Lib.trimRightB l 48).length ≤ l.length := by
    unfold Lib.trimRightB
    rw [List.length_reverse]
    have := (List.dropWhile_sublist (· == (48 : UInt8)) (l := l.reverse)).length_le
    rwa [List.length_reverse] at this
  have hR : ∀ W, Calls Tryd.prog 95 #[.string ⟨l.toArray⟩, .string ⟨#[48]⟩] W fun e w' => e = .returned (.string ⟨(Lib.trimRightB l 48).toArray⟩) ∧ w' = W := fun W => Any.strings_TrimRight_one lays162 ⟨l.toArray⟩ 48 (by decide) W (by rw [hsz]; omega)
  have hL : ∀ W, Calls Tryd.prog 96 #[.string ⟨(Lib.trimRightB l 48).toArray⟩, .string ⟨#[48]⟩] W fun e w' => e = .returned (.string ⟨(Lib.trimLeftB (Lib.trimRightB l 48) 48).toArray⟩) ∧ w' = W := fun W => Any.strings_TrimLeft_one lays161 ⟨(Lib.trimRightB l 48).toArray⟩ 48 (by decide) W
  unfold mkD
  generalize Lib.trimRightB l 48 = R at *
  generalize Lib.trimLeftB R 48 = T at *
  have hszR : (⟨R.toArray⟩ : ByteArray).size = R.length := by simp [ByteArray.size]
  have hFar := fun W => dec_far (x + ((l.length : Int) - (R.length : Int))) (by omega) (by omega) W
  have hg0 : decide ((65536 : Int) < (l.length : Int)) = false := by simp; omega
  clear hd
  by_cases hT : T = []
  · subst hT
    rw [if_pos rfl]
    have hb0 : Below w.heap.size w w := Below.refl _ _
    go_enter Tryd.func73, Tryd.ntmps73
    go_wp2_with fail
    have hv1 : Below w.heap.size w (w.alloc (.cells #[.bool false, .string ⟨#[]⟩, .int .i64 0] 38)) := (Below.refl _ _).alloc (by first | exact Nat.le_refl _ | (simp; done) | (simp; omega)) _
    have k1 : Blk (w.alloc (.cells #[.bool false, .string ⟨#[]⟩, .int .i64 0] 38)) (w.heap.size) 38 #[.bool false, .string ⟨#[]⟩, .int .i64 0] := Blk.new w 38 #[.bool false, .string ⟨#[]⟩, .int .i64 0]
    replace hb0 := hb0.trans (hv1.mono hb0.size)
    generalize (w.alloc (.cells #[.bool false, .string ⟨#[]⟩, .int .i64 0] 38)) = v1 at *
    clear hv1
    refine (hDg _).mono ?_
    rintro e w2 ⟨rfl, hb2⟩
    replace hb0 := hb0.trans (hb2.mono hb0.size)
    replace k1 := k1.below hb2 k1.lt
    clear hb2
    have k1_c0 := k1.cell 0
    have k1_f0 := k1.frozen 0
    have k1_c1 := k1.cell 1
    have k1_f1 := k1.frozen 1
    have k1_c2 := k1.cell 2
    have k1_f2 := k1.frozen 2
    have k1_z := k1.lt
    simp only [List.getElem?_toArray, List.getElem?_cons_zero, List.getElem?_cons_succ] at k1_c0 k1_c1 k1_c2
    go_wp2_with fail
    clear k1_c0 k1_f0 k1_c1 k1_f1 k1_c2 k1_f2 k1_z
    refine (hR _).mono ?_
    rintro e w3 ⟨rfl, rfl⟩
    have k1_c0 := k1.cell 0
    have k1_f0 := k1.frozen 0
    have k1_c1 := k1.cell 1
    have k1_f1 := k1.frozen 1
    have k1_c2 := k1.cell 2
    have k1_f2 := k1.frozen 2
    have k1_z := k1.lt
    simp only [List.getElem?_toArray, List.getElem?_cons_zero, List.getElem?_cons_succ] at k1_c0 k1_c1 k1_c2
    go_wp2_with fail
    clear k1_c0 k1_f0 k1_c1 k1_f1 k1_c2 k1_f2 k1_z
    refine (hL _).mono ?_
    rintro e w3 ⟨rfl, rfl⟩
    have k1_c0 := k1.cell 0
    have k1_f0 := k1.frozen 0
    have k1_c1 := k1.cell 1
    have k1_f1 := k1.frozen 1
    have k1_c2 := k1.cell 2
    have k1_f2 := k1.frozen 2
    have k1_z := k1.lt
    simp only [List.getElem?_toArray, List.getElem?_cons_zero, List.getElem?_cons_succ] at k1_c0 k1_c1 k1_c2
    go_wp2
    refine bodyPost_ret (v := .tuple #[.agg #[.bool ng, .string ⟨#[]⟩, .int .i64 0], .int .i64 0]) ?_ rfl ⟨rfl, ((hb0.setCell (p := ⟨w.heap.size, 0, none⟩) (Nat.le_refl _) _).setCell (p := ⟨w.heap.size, 1, none⟩) (Nat.le_refl _) _).setCell (p := ⟨w.heap.size, 2, none⟩) (Nat.le_refl _) _⟩
    refine results_cell_tmp rfl _ _ w.heap.size _ _ _ _ _ ?_ ?_ (((k1.set_ 0 _).set_ 1 _).set_ 2 _) Tryd.underlying38 rfl (by kernel_rfl)
    · rfl
    · rfl
  · rw [if_neg hT]
    have hTs : T.isEmpty = false := by cases T with | nil => exact absurd rfl hT | cons _ _ => rfl
    have hx3 : decide ((1073741824 : Int) < x) = false := by simp; omega
    have hx4 : decide (x < (-2147483648 : Int)) = false := by simp; omega
    clear hT
    have hb0 : Below w.heap.size w w := Below.refl _ _
    go_enter Tryd.func73, Tryd.ntmps73
    go_wp2_with fail
    have hv1 : Below w.heap.size w (w.alloc (.cells #[.bool false, .string ⟨#[]⟩, .int .i64 0] 38)) := (Below.refl _ _).alloc (by first | exact Nat.le_refl _ | (simp; done) | (simp; omega)) _
    have k1 : Blk (w.alloc (.cells #[.bool false, .string ⟨#[]⟩, .int .i64 0] 38)) (w.heap.size) 38 #[.bool false, .string ⟨#[]⟩, .int .i64 0] := Blk.new w 38 #[.bool false, .string ⟨#[]⟩, .int .i64 0]
    replace hb0 := hb0.trans (hv1.mono hb0.size)
    generalize (w.alloc (.cells #[.bool false, .string ⟨#[]⟩, .int .i64 0] 38)) = v1 at *
    clear hv1
    refine (hDg _).mono ?_
    rintro e w2 ⟨rfl, hb2⟩
    replace hb0 := hb0.trans (hb2.mono hb0.size)
    replace k1 := k1.below hb2 k1.lt
    clear hb2
    have k1_c0 := k1.cell 0
    have k1_f0 := k1.frozen 0
    have k1_c1 := k1.cell 1
    have k1_f1 := k1.frozen 1
    have k1_c2 := k1.cell 2
    have k1_f2 := k1.frozen 2
    have k1_z := k1.lt
    simp only [List.getElem?_toArray, List.getElem?_cons_zero, List.getElem?_cons_succ] at k1_c0 k1_c1 k1_c2
    go_wp2_with fail
    clear k1_c0 k1_f0 k1_c1 k1_f1 k1_c2 k1_f2 k1_z
    refine (hR _).mono ?_
    rintro e w3 ⟨rfl, rfl⟩
    have k1_c0 := k1.cell 0
    have k1_f0 := k1.frozen 0
    have k1_c1 := k1.cell 1
    have k1_f1 := k1.frozen 1
    have k1_c2 := k1.cell 2
    have k1_f2 := k1.frozen 2
    have k1_z := k1.lt
    simp only [List.getElem?_toArray, List.getElem?_cons_zero, List.getElem?_cons_succ] at k1_c0 k1_c1 k1_c2
    go_wp2_with fail
    clear k1_c0 k1_f0 k1_c1 k1_f1 k1_c2 k1_f2 k1_z
    refine (hL _).mono ?_
    rintro e w3 ⟨rfl, rfl⟩
    have k1_c0 := k1.cell 0
    have k1_f0 := k1.frozen 0
    have k1_c1 := k1.cell 1
    have k1_f1 := k1.frozen 1
    have k1_c2 := k1.cell 2
    have k1_f2 := k1.frozen 2
    have k1_z := k1.lt
    simp only [List.getElem?_toArray, List.getElem?_cons_zero, List.getElem?_cons_succ] at k1_c0 k1_c1 k1_c2
    go_wp2_with fail
    refine (hFar _).mono ?_
    rintro e w4 ⟨rfl, rfl⟩
    go_wp2
    refine bodyPost_ret (v := .tuple #[.agg #[.bool ng, .string ⟨T.toArray⟩, .int .i64 (x + ((l.length : Int) - (R.length : Int)))], .int .i64 0]) ?_ rfl ⟨rfl, ((hb0.setCell (p := ⟨w.heap.size, 0, none⟩) (Nat.le_refl _) _).setCell (p := ⟨w.heap.size, 1, none⟩) (Nat.le_refl _) _).setCell (p := ⟨w.heap.size, 2, none⟩) (Nat.le_refl _) _⟩
    refine results_cell_tmp rfl _ _ w.heap.size _ _ _ _ _ ?_ ?_ (((k1.set_ 0 _).set_ 1 _).set_ 2 _) Tryd.underlying38 rfl (by kernel_rfl)
    · rfl
    · rfl
end Go.Proofs.YtenekbfnlbipiaaDoor
namespace Go.Proofs.YtenekbfnlbipiaaDoor
open Go.RowKit
set_option linter.unusedVariables false
set_option linter.unusedSimpArgs false
set_option maxHeartbeats 4000000
set_option maxRecDepth 100000

theorem TabU.below {w w' : World} (h : TabU w) (hb : Below w.heap.size w w') : TabU w' := by
  unfold TabU Lib.TabIs World.var? at *
  cases hg : Tryd.prog.globalNamed "internal/strconv.uint64pow10" with
  | none => simp [hg] at h
  | some g =>
    simp only [hg, Option.bind_some] at h ⊢
    have hlt : g < w.heap.size := by
      rcases Nat.lt_or_ge g w.heap.size with h' | h'
      · exact h'
      · rw [Array.getElem?_eq_none h'] at h; simp at h
    rw [hb.block g hlt]
    exact h
theorem alloc_keep {w : World} {b i : Nat} {v : Value} (h : w.cell? ⟨b, i, none⟩ = some v) (o : Obj) : (w.alloc o).cell? ⟨b, i, none⟩ = some v := (World.cell?_alloc_lt _ _ _ (cell_lt h)).trans h
theorem dec_bytes (u : Nat) : ∀ b ∈ Lib.decDigits u, 48 ≤ b.toNat ∧ b.toNat ≤ 57 := by
  induction u using Nat.strongRecOn with
  | _ u ih =>
    have hb : ∀ k, k < 10 → 48 ≤ (UInt8.ofNat (48 + k)).toNat ∧ (UInt8.ofNat (48 + k)).toNat ≤ 57 := by decide
    rw [Lib.decDigits]
    by_cases h : u < 10
    · rw [dif_pos h]
      intro b hm
      rw [List.mem_singleton] at hm
      subst hm
      exact hb u h
    · rw [dif_neg h]
      intro b hm
      rw [List.mem_append, List.mem_singleton] at hm
      rcases hm with hm | rfl
      · exact ih (u / 10) (by omega) b hm
      · exact hb _ (Nat.mod_lt _ (by decide))
theorem dec_len {u : Nat} (h : u < 18446744073709551616) : (Lib.decDigits u).length ≤ 20 := by
  rw [Lib.decDigits_length]
  by_cases h1 : u < 10
  · rw [Lib.nDigits_small h1]; omega
  · have := Lib.numDigits_eq u (by omega) h; split at this <;> omega
theorem fmt_abs {W0 W : World} (hW : Below W0.heap.size W0 W) (u : Nat) (hu : u < 18446744073709551616) (hU : TabU W0) :
    Calls Tryd.prog 74 #[.int .u64 (u : Int), .int .i64 10] W fun e w' => e = .returned (.string ⟨(Lib.decDigits u).toArray⟩) ∧ Below W0.heap.size W0 w' :=
  (fmt_uint u hu W (hU.below hW)).mono fun _ _ ⟨h1, h2⟩ => ⟨h1, hW.trans (h2.mono hW.size)⟩
theorem make_abs {W0 W : World} (hW : Below W0.heap.size W0 W) (ng : Bool) (u : Nat) (hu : u < 18446744073709551616) (x : Int) (hx1 : -10000 ≤ x) (hx2 : x ≤ 10000) :
    Calls Tryd.prog 73 #[.bool ng, .string ⟨(Lib.decDigits u).toArray⟩, .int .i64 x] W fun e w' => e = .returned (.tuple #[.agg #[.bool ng, .string ⟨(mkD (Lib.decDigits u) x).1.toArray⟩, .int .i64 (mkD (Lib.decDigits u) x).2], .int .i64 0]) ∧ Below W0.heap.size W0 w' :=
  (dec_Make ng (Lib.decDigits u) x (by have := dec_len hu; omega) hx1 hx2 (fun i h => dec_bytes u _ (List.getElem_mem h)) W).mono fun _ _ ⟨h1, h2⟩ => ⟨h1, hW.trans (h2.mono hW.size)⟩

theorem results_cell_tmp2 {P : Program} {fn : Func} {p q r : Tmp} {ty : TypeId} (h : fn.results = #[.cell p ty, .tmp q, .tmp r]) (tmps : Array Value) (w : World) (g : Nat) (t : TypeId) (cs : Array Value) (fr : Nat × Nat) (d : TypeDesc) (y z : Value)
    (hp : tmps.getD p undef = .pointer (some ⟨g, 0, none⟩)) (hq : tmps.getD q undef = y) (hr : tmps.getD r undef = z) (hg : w.heap[g]? = some (.cells cs t fr))
    (hu : P.underlying ty = some d) (hd : (match d with | .struct _ | .array _ _ => true | _ => false) = true) (hi : (P.info? ty).map (·.size) = some cs.size) :
    (results fn tmps).run P w = .ok (.tuple #[.agg cs, y, z]) w := by
  subst hq hr
  have hp' : tmps[p]?.getD undef = .pointer (some ⟨g, 0, none⟩) := by simpa using hp
  simp [results, h, hp', asAddr, run_loadVar_row w g t ty cs fr d hg hu hd hi]
theorem sure_decimal (ng st : Bool) (m u : Nat) (q x : Int) (hu : u < 18446744073709551616) (hx1 : -10000 ≤ x) (hx2 : x ≤ 10000) (w : World) (hU : TabU w) :
    Calls Tryd.prog 40 #[.agg #[.bool ng, .int .u64 (m : Int), .int .i64 q, .bool st], .int .u64 (u : Int), .int .i64 x] w (Says w (.tuple #[.agg #[.bool ng, .string ⟨(mkD (Lib.decDigits u) x).1.toArray⟩, .int .i64 (mkD (Lib.decDigits u) x).2], .bool true, .int .i64 0])) := by
  have hA := fun (W : World) (hU : TabU W) => fmt_uint u hu W hU
  have hB := fun (W : World) => dec_Make ng (Lib.decDigits u) x (by have := dec_len hu; omega) hx1 hx2 (fun i h => dec_bytes u _ (List.getElem_mem h)) W
  generalize Lib.decDigits u = D at hA hB ⊢
  generalize mkD D x = R at hB ⊢
  obtain ⟨RL, RX⟩ := R
  simp only at hB ⊢
  have hb0 : Below w.heap.size w w := Below.refl _ _
  go_enter Tryd.func40, Tryd.ntmps40
  go_upto_region 1 with fail
  have hv1 : Below w.heap.size w ((w.alloc (.cells #[.bool ng, .int .u64 (m : Int), .int .i64 q, .bool st] 69)).alloc (.cells #[.bool false, .string ⟨#[]⟩, .int .i64 0] 38)) := ((Below.refl _ _).alloc (by first | exact Nat.le_refl _ | (simp; done) | (simp; omega)) _).alloc (by first | exact Nat.le_refl _ | (simp; done) | (simp; omega)) _
  have k1 : Blk ((w.alloc (.cells #[.bool ng, .int .u64 (m : Int), .int .i64 q, .bool st] 69)).alloc (.cells #[.bool false, .string ⟨#[]⟩, .int .i64 0] 38)) (w.heap.size) 69 #[.bool ng, .int .u64 (m : Int), .int .i64 q, .bool st] := (Blk.new w 69 #[.bool ng, .int .u64 (m : Int), .int .i64 q, .bool st]).alloc _
  have k2 : Blk ((w.alloc (.cells #[.bool ng, .int .u64 (m : Int), .int .i64 q, .bool st] 69)).alloc (.cells #[.bool false, .string ⟨#[]⟩, .int .i64 0] 38)) (w.heap.size + 1) 38 #[.bool false, .string ⟨#[]⟩, .int .i64 0] := by
    have := Blk.new (w.alloc (.cells #[.bool ng, .int .u64 (m : Int), .int .i64 q, .bool st] 69)) 38 #[.bool false, .string ⟨#[]⟩, .int .i64 0]
    simpa using this
  replace hb0 := hb0.trans (hv1.mono hb0.size)
  replace hU := hU.below hv1
  generalize ((w.alloc (.cells #[.bool ng, .int .u64 (m : Int), .int .i64 q, .bool st] 69)).alloc (.cells #[.bool false, .string ⟨#[]⟩, .int .i64 0] 38)) = v1 at *
  clear hv1
  have k1_c0 := k1.cell 0
  have k1_f0 := k1.frozen 0
  have k1_c1 := k1.cell 1
  have k1_f1 := k1.frozen 1
  have k1_c2 := k1.cell 2
  have k1_f2 := k1.frozen 2
  have k1_c3 := k1.cell 3
  have k1_f3 := k1.frozen 3
  have k1_z := k1.lt
  have k2_c0 := k2.cell 0
  have k2_f0 := k2.frozen 0
  have k2_c1 := k2.cell 1
  have k2_f1 := k2.frozen 1
  have k2_c2 := k2.cell 2
  have k2_f2 := k2.frozen 2
  have k2_z := k2.lt
  simp only [List.getElem?_toArray, List.getElem?_cons_zero, List.getElem?_cons_succ] at k1_c0 k1_c1 k1_c2 k1_c3 k2_c0 k2_c1 k2_c2
  go_cut [9, 10] (fun v9 v10 wx => ∃ gp : Nat, v9 = .pointer (some ⟨gp, 0, none⟩) ∧ v10 = .int .i64 0 ∧ v1.heap.size ≤ gp ∧ Blk wx gp 38 #[.bool ng, .string ⟨RL.toArray⟩, .int .i64 RX] ∧ Below v1.heap.size v1 wx)
  case first =>
    have nz : v1.heap.size < (v1.drew.alloc (.cells #[.bool false, .string ⟨#[]⟩, .int .i64 0] 38)).heap.size := by simp
    have kz : Blk (v1.drew.alloc (.cells #[.bool false, .string ⟨#[]⟩, .int .i64 0] 38)) v1.heap.size 38 #[.bool false, .string ⟨#[]⟩, .int .i64 0] := Blk.new v1.drew _ _
    have bz : Below v1.heap.size v1 (v1.drew.alloc (.cells #[.bool false, .string ⟨#[]⟩, .int .i64 0] 38)) := (Below.drew (Below.refl _ _)).alloc (Nat.le_refl _) _
    have b0 : Below v1.heap.size v1 v1.drew := Below.drew (Below.refl _ _)
    go_region_held3 (fun w' => w'.cell? ⟨w.heap.size, 0, none⟩ = some (.bool ng))
      (first | exact k1_c0 | exact cell_keep bz k1_c0 | exact e5 | exact (World.cell?_alloc_lt _ _ _ z5).trans e5 | exact e6 | exact (World.cell?_alloc_lt _ _ _ z6).trans e6 | exact set_keep (set_keep (set_keep e6 z5) z5) z5 | exact set_keep (set_keep (set_keep e6 k1_z) k1_z) k1_z | go_keep)
      (first
      | (go_at_call 74
         refine (hA _ (by first | exact hU.below b0 | exact hU.below bz)).mono ?_
         rintro r w5 ⟨rfl, hb5⟩
         have hw5 : Below v1.heap.size v1 w5 := by first | exact b0.trans hb5 | exact bz.trans (hb5.mono (Nat.le_of_lt nz))
         have e5 := cell_keep hw5 k1_c0
         have z5 := cell_lt e5
         have zz5 := hw5.size
         try (have kp5 : Blk w5 v1.heap.size 38 #[.bool false, .string ⟨#[]⟩, .int .i64 0] := kz.below hb5 nz))
      | (go_at_call 73
         refine (hB _).mono ?_
         rintro r w6 ⟨rfl, hb6⟩
         have hw6 : Below w5.heap.size w5 w6 := by first | exact hb6 | exact ((Below.refl _ _).alloc (Nat.le_refl _) _).trans (hb6.mono (by simp))
         have e6 := cell_keep hw6 e5
         have z6 := cell_lt e6
         have hw06 := hw5.trans (hw6.mono zz5)
         first
           | (have kp6 : Blk w6 v1.heap.size 38 #[.bool false, .string ⟨#[]⟩, .int .i64 0] := kp5.below hw6 kp5.lt
              have p60 : w6.cell? ⟨v1.heap.size, 0, none⟩ = some (.bool false) := kp6.cell 0
              have p61 : w6.cell? ⟨v1.heap.size, 1, none⟩ = some (.string ⟨#[]⟩) := kp6.cell 1
              have p62 : w6.cell? ⟨v1.heap.size, 2, none⟩ = some (.int .i64 0) := kp6.cell 2
              have p60f := kp6.frozen 0
              have p61f := kp6.frozen 1
              have p62f := kp6.frozen 2
              have p6z := kp6.lt)
           | (have kp6 : Blk w6 w5.heap.size 38 #[.bool false, .string ⟨#[]⟩, .int .i64 0] := (Blk.new w5 _ _).below hb6 (by simp)
              have p60 : w6.cell? ⟨w5.heap.size, 0, none⟩ = some (.bool false) := kp6.cell 0
              have p61 : w6.cell? ⟨w5.heap.size, 1, none⟩ = some (.string ⟨#[]⟩) := kp6.cell 1
              have p62 : w6.cell? ⟨w5.heap.size, 2, none⟩ = some (.int .i64 0) := kp6.cell 2
              have p60f := kp6.frozen 0
              have p61f := kp6.frozen 1
              have p62f := kp6.frozen 2
              have p6z := kp6.lt)
           | skip)
      | fail)
    all_goals (go_wp2_with fail; go_meet)
    all_goals (first
      | exact ⟨_, rfl, rfl, hw06.size, Blk.new _ _ _, hw06.alloc hw06.size _⟩
      | exact ⟨_, rfl, rfl, zz5, ((kp6.set_ 0 _).set_ 1 _).set_ 2 _, ((hw06.setCell zz5 _).setCell zz5 _).setCell zz5 _⟩
      | exact ⟨_, rfl, rfl, Nat.le_refl _, ((kp6.set_ 0 _).set_ 1 _).set_ 2 _, ((hw06.setCell (Nat.le_refl _) _).setCell (Nat.le_refl _) _).setCell (Nat.le_refl _) _⟩)
  case rest =>
    obtain ⟨gp, rfl, rfl, hgp, k3, hbc⟩ := hcut
    clear k1_c0 k1_c1 k1_c2 k1_c3 k1_f0 k1_f1 k1_f2 k1_f3 k2_c0 k2_c1 k2_c2 k2_f0 k2_f1 k2_f2 
    have hgp2 : w.heap.size + 1 ≠ gp := by omega
    clear k1_z
    replace hb0 := hb0.trans (hbc.mono hb0.size)
    replace k2 := k2.below hbc k2.lt
    clear hbc k2_z hgp
    have k2_c0 := k2.cell 0
    have k2_f0 := k2.frozen 0
    have k2_c1 := k2.cell 1
    have k2_f1 := k2.frozen 1
    have k2_c2 := k2.cell 2
    have k2_f2 := k2.frozen 2
    have k2_z := k2.lt
    have k3_c0 := k3.cell 0
    have k3_f0 := k3.frozen 0
    have k3_c1 := k3.cell 1
    have k3_f1 := k3.frozen 1
    have k3_c2 := k3.cell 2
    have k3_f2 := k3.frozen 2
    have k3_z := k3.lt
    simp only [List.getElem?_toArray, List.getElem?_cons_zero, List.getElem?_cons_succ] at k2_c0 k2_c1 k2_c2 k3_c0 k3_c1 k3_c2
    go_wp2
    refine bodyPost_ret (v := .tuple #[.agg #[.bool ng, .string ⟨RL.toArray⟩, .int .i64 RX], .bool true, .int .i64 0]) ?_ rfl ⟨rfl, (((hb0.setCell (p := ⟨w.heap.size + 1, 0, none⟩) (by simp) _).setCell (p := ⟨w.heap.size + 1, 1, none⟩) (by simp) _).setCell (p := ⟨w.heap.size + 1, 2, none⟩) (by simp) _)⟩
    refine results_cell_tmp2 rfl _ _ (w.heap.size + 1) _ _ _ _ _ _ ?_ ?_ ?_ (((k2.set_ 0 _).set_ 1 _).set_ 2 _) Tryd.underlying38 rfl (by kernel_rfl)
    · rfl
    · rfl
    · rfl
end Go.Proofs.YtenekbfnlbipiaaDoor
