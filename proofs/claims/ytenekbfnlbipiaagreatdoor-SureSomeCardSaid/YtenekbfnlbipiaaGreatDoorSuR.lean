/- Walk: a whole number times a power of ten as a decimal. -/
import Derived.Test.YtenekbfnlbipiaaGreatDoorSuP
import Derived.Test.YtenekbfnlbipiaaGreatDoorDec
import Derived.Test.YtenekbfnlbipiaaGreatDoorBgA
import Derived.Test.YtenekbfnlbipiaaGreatDoorBgAN
import Derived.Test.YtenekbfnlbipiaaGreatDoorSuF
import Derived.Test.YtenekbfnlbipiaaGreatDoorBgAA
namespace Go.Proofs.YtenekbfnlbipiaaGreatDoor
open Go.RowKit
set_option linter.unusedVariables false
set_option linter.unusedSimpArgs false
set_option maxHeartbeats 4000000
set_option maxRecDepth 100000

theorem TabU.below {w w' : World} (h : TabU w) (hb : Below w.heap.size w w') : TabU w' := by
  unfold TabU Lib.TabIs World.var? at *
  cases hg : Tryz.prog.globalNamed "internal/strconv.uint64pow10" with
  | none => simp [hg] at h
  | some g =>
    simp only [hg, Option.bind_some] at h ⊢
    have hlt : g < w.heap.size := by
      rcases Nat.lt_or_ge g w.heap.size with h' | h'
      · exact h'
      · rw [Array.getElem?_eq_none h'] at h; simp at h
    rw [hb.block g hlt]
    exact h
theorem dec_bytes (u : Nat) : ∀ b ∈ Lib.decDigits u, 48 ≤ b.toNat ∧ b.toNat ≤ 57 := by
  induction u using Nat.strongRecOn with
  | _ u ih =>
    have hb : ∀ k, k < 10 → 48 ≤ (UInt8.ofNat (48 + k)).toNat ∧ (UInt8.ofNat (48 + k)).toNat ≤ 57 := by decide
    rw [Lib.decDigits]
    by_cases h : u < 10
    · rw [dif_pos h]
      intro b hm
      rw [List.mem_singleton] at hm
      subst hm
      exact hb u h
    · rw [dif_neg h]
      intro b hm
      rw [List.mem_append, List.mem_singleton] at hm
      rcases hm with hm | rfl
      · exact ih (u / 10) (by omega) b hm
      · exact hb _ (Nat.mod_lt _ (by decide))
theorem dec_len {u : Nat} (h : u < 18446744073709551616) : (Lib.decDigits u).length ≤ 20 := by
  rw [Lib.decDigits_length]
  by_cases h1 : u < 10
  · rw [Lib.nDigits_small h1]; omega
  · have := Lib.numDigits_eq u (by omega) h; split at this <;> omega
theorem results_cell_tmp2 {P : Program} {fn : Func} {p q r : Tmp} {ty : TypeId} (h : fn.results = #[.cell p ty, .tmp q, .tmp r]) (tmps : Array Value) (w : World) (g : Nat) (t : TypeId) (cs : Array Value) (fr : Nat × Nat) (d : TypeDesc) (y z : Value)
    (hp : tmps.getD p undef = .pointer (some ⟨g, 0, none⟩)) (hq : tmps.getD q undef = y) (hr : tmps.getD r undef = z) (hg : w.heap[g]? = some (.cells cs t fr))
    (hu : P.underlying ty = some d) (hd : (match d with | .struct _ | .array _ _ => true | _ => false) = true) (hi : (P.info? ty).map (·.size) = some cs.size) :
    (results fn tmps).run P w = .ok (.tuple #[.agg cs, y, z]) w := by
  subst hq hr
  have hp' : tmps[p]?.getD undef = .pointer (some ⟨g, 0, none⟩) := by simpa using hp
  simp [results, h, hp', asAddr, run_loadVar_row w g t ty cs fr d hg hu hd hi]
theorem sure_decimal (ng st : Bool) (m u : Nat) (q x : Int) (hu : u < 18446744073709551616) (hx1 : -10000 ≤ x) (hx2 : x ≤ 10000) (w : World) (hU : TabU w) :
    Calls Tryz.prog 15 #[.agg #[.bool ng, .int .u64 (m : Int), .int .i64 q, .bool st], .int .u64 (u : Int), .int .i64 x] w (Says w (.tuple #[.agg #[.bool ng, .string ⟨(mkD (Lib.decDigits u) x).1.toArray⟩, .int .i64 (mkD (Lib.decDigits u) x).2], .bool true, .int .i64 0])) := by
  have hA := fun (W : World) (hU : TabU W) => fmt_uint u hu W hU
  have hB := fun (W : World) => dec_Make ng (Lib.decDigits u) x (by have := dec_len hu; omega) hx1 hx2 (fun i h => dec_bytes u _ (List.getElem_mem h)) W
  generalize Lib.decDigits u = D at hA hB ⊢
  generalize mkD D x = R at hB ⊢
  obtain ⟨RL, RX⟩ := R
  simp only at hB ⊢
  have hb0 : Below w.heap.size w w := Below.refl _ _
  go_enter Tryz.func15, Tryz.ntmps15
  go_upto_region 1 with fail
  have hv1 : Below w.heap.size w ((w.alloc (.cells #[.bool ng, .int .u64 (m : Int), .int .i64 q, .bool st] 37)).alloc (.cells #[.bool false, .string ⟨#[]⟩, .int .i64 0] 26)) := ((Below.refl _ _).alloc (by first | exact Nat.le_refl _ | (simp; done) | (simp; omega)) _).alloc (by first | exact Nat.le_refl _ | (simp; done) | (simp; omega)) _
  have k1 : Blk ((w.alloc (.cells #[.bool ng, .int .u64 (m : Int), .int .i64 q, .bool st] 37)).alloc (.cells #[.bool false, .string ⟨#[]⟩, .int .i64 0] 26)) (w.heap.size) 37 #[.bool ng, .int .u64 (m : Int), .int .i64 q, .bool st] := (Blk.new w 37 #[.bool ng, .int .u64 (m : Int), .int .i64 q, .bool st]).alloc _
  have k2 : Blk ((w.alloc (.cells #[.bool ng, .int .u64 (m : Int), .int .i64 q, .bool st] 37)).alloc (.cells #[.bool false, .string ⟨#[]⟩, .int .i64 0] 26)) (w.heap.size + 1) 26 #[.bool false, .string ⟨#[]⟩, .int .i64 0] := by
    have := Blk.new (w.alloc (.cells #[.bool ng, .int .u64 (m : Int), .int .i64 q, .bool st] 37)) 26 #[.bool false, .string ⟨#[]⟩, .int .i64 0]
    simpa using this
  replace hb0 := hb0.trans (hv1.mono hb0.size)
  replace hU := hU.below hv1
  generalize ((w.alloc (.cells #[.bool ng, .int .u64 (m : Int), .int .i64 q, .bool st] 37)).alloc (.cells #[.bool false, .string ⟨#[]⟩, .int .i64 0] 26)) = v1 at *
  clear hv1
  have k1_c0 := k1.cell 0
  have k1_f0 := k1.frozen 0
  have k1_c1 := k1.cell 1
  have k1_f1 := k1.frozen 1
  have k1_c2 := k1.cell 2
  have k1_f2 := k1.frozen 2
  have k1_c3 := k1.cell 3
  have k1_f3 := k1.frozen 3
  have k1_z := k1.lt
  have k2_c0 := k2.cell 0
  have k2_f0 := k2.frozen 0
  have k2_c1 := k2.cell 1
  have k2_f1 := k2.frozen 1
  have k2_c2 := k2.cell 2
  have k2_f2 := k2.frozen 2
  have k2_z := k2.lt
  simp only [List.getElem?_toArray, List.getElem?_cons_zero, List.getElem?_cons_succ] at k1_c0 k1_c1 k1_c2 k1_c3 k2_c0 k2_c1 k2_c2
  go_cut [9, 10] (fun v9 v10 wx => ∃ gp : Nat, v9 = .pointer (some ⟨gp, 0, none⟩) ∧ v10 = .int .i64 0 ∧ v1.heap.size ≤ gp ∧ Blk wx gp 26 #[.bool ng, .string ⟨RL.toArray⟩, .int .i64 RX] ∧ Below v1.heap.size v1 wx)
  case first =>
    have nz : v1.heap.size < (v1.drew.alloc (.cells #[.bool false, .string ⟨#[]⟩, .int .i64 0] 26)).heap.size := by simp
    have kz : Blk (v1.drew.alloc (.cells #[.bool false, .string ⟨#[]⟩, .int .i64 0] 26)) v1.heap.size 26 #[.bool false, .string ⟨#[]⟩, .int .i64 0] := Blk.new v1.drew _ _
    have bz : Below v1.heap.size v1 (v1.drew.alloc (.cells #[.bool false, .string ⟨#[]⟩, .int .i64 0] 26)) := (Below.drew (Below.refl _ _)).alloc (Nat.le_refl _) _
    have b0 : Below v1.heap.size v1 v1.drew := Below.drew (Below.refl _ _)
    go_region_held3 (fun w' => w'.cell? ⟨w.heap.size, 0, none⟩ = some (.bool ng))
      (first | exact k1_c0 | exact cell_keep bz k1_c0 | exact e5 | exact (World.cell?_alloc_lt _ _ _ z5).trans e5 | exact e6 | exact (World.cell?_alloc_lt _ _ _ z6).trans e6 | exact set_keep (set_keep (set_keep e6 z5) z5) z5 | exact set_keep (set_keep (set_keep e6 k1_z) k1_z) k1_z | go_keep)
      (first
      | (go_at_call 42
         refine (hA _ (by first | exact hU.below b0 | exact hU.below bz)).mono ?_
         rintro r w5 ⟨rfl, hb5⟩
         have hw5 : Below v1.heap.size v1 w5 := by first | exact b0.trans hb5 | exact bz.trans (hb5.mono (Nat.le_of_lt nz))
         have e5 := cell_keep hw5 k1_c0
         have z5 := cell_lt e5
         have zz5 := hw5.size
         try (have kp5 : Blk w5 v1.heap.size 26 #[.bool false, .string ⟨#[]⟩, .int .i64 0] := kz.below hb5 nz))
      | (go_at_call 41
         refine (hB _).mono ?_
         rintro r w6 ⟨rfl, hb6⟩
         have hw6 : Below w5.heap.size w5 w6 := by first | exact hb6 | exact ((Below.refl _ _).alloc (Nat.le_refl _) _).trans (hb6.mono (by simp))
         have e6 := cell_keep hw6 e5
         have z6 := cell_lt e6
         have hw06 := hw5.trans (hw6.mono zz5)
         first
           | (have kp6 : Blk w6 v1.heap.size 26 #[.bool false, .string ⟨#[]⟩, .int .i64 0] := kp5.below hw6 kp5.lt
              have p60 : w6.cell? ⟨v1.heap.size, 0, none⟩ = some (.bool false) := kp6.cell 0
              have p61 : w6.cell? ⟨v1.heap.size, 1, none⟩ = some (.string ⟨#[]⟩) := kp6.cell 1
              have p62 : w6.cell? ⟨v1.heap.size, 2, none⟩ = some (.int .i64 0) := kp6.cell 2
              have p60f := kp6.frozen 0
              have p61f := kp6.frozen 1
              have p62f := kp6.frozen 2
              have p6z := kp6.lt)
           | (have kp6 : Blk w6 w5.heap.size 26 #[.bool false, .string ⟨#[]⟩, .int .i64 0] := (Blk.new w5 _ _).below hb6 (by simp)
              have p60 : w6.cell? ⟨w5.heap.size, 0, none⟩ = some (.bool false) := kp6.cell 0
              have p61 : w6.cell? ⟨w5.heap.size, 1, none⟩ = some (.string ⟨#[]⟩) := kp6.cell 1
              have p62 : w6.cell? ⟨w5.heap.size, 2, none⟩ = some (.int .i64 0) := kp6.cell 2
              have p60f := kp6.frozen 0
              have p61f := kp6.frozen 1
              have p62f := kp6.frozen 2
              have p6z := kp6.lt)
           | skip)
      | fail)
    all_goals (go_wp2_with fail; go_meet)
    all_goals (first
      | exact ⟨_, rfl, rfl, hw06.size, Blk.new _ _ _, hw06.alloc hw06.size _⟩
      | exact ⟨_, rfl, rfl, zz5, ((kp6.set_ 0 _).set_ 1 _).set_ 2 _, ((hw06.setCell zz5 _).setCell zz5 _).setCell zz5 _⟩
      | exact ⟨_, rfl, rfl, Nat.le_refl _, ((kp6.set_ 0 _).set_ 1 _).set_ 2 _, ((hw06.setCell (Nat.le_refl _) _).setCell (Nat.le_refl _) _).setCell (Nat.le_refl _) _⟩)
  case rest =>
    obtain ⟨gp, rfl, rfl, hgp, k3, hbc⟩ := hcut
    clear k1_c0 k1_c1 k1_c2 k1_c3 k1_f0 k1_f1 k1_f2 k1_f3 k2_c0 k2_c1 k2_c2 k2_f0 k2_f1 k2_f2 
    have hgp2 : w.heap.size + 1 ≠ gp := by omega
    clear k1_z
    replace hb0 := hb0.trans (hbc.mono hb0.size)
    replace k2 := k2.below hbc k2.lt
    clear hbc k2_z hgp
    have k2_c0 := k2.cell 0
    have k2_f0 := k2.frozen 0
    have k2_c1 := k2.cell 1
    have k2_f1 := k2.frozen 1
    have k2_c2 := k2.cell 2
    have k2_f2 := k2.frozen 2
    have k2_z := k2.lt
    have k3_c0 := k3.cell 0
    have k3_f0 := k3.frozen 0
    have k3_c1 := k3.cell 1
    have k3_f1 := k3.frozen 1
    have k3_c2 := k3.cell 2
    have k3_f2 := k3.frozen 2
    have k3_z := k3.lt
    simp only [List.getElem?_toArray, List.getElem?_cons_zero, List.getElem?_cons_succ] at k2_c0 k2_c1 k2_c2 k3_c0 k3_c1 k3_c2
    go_wp2
    refine bodyPost_ret (v := .tuple #[.agg #[.bool ng, .string ⟨RL.toArray⟩, .int .i64 RX], .bool true, .int .i64 0]) ?_ rfl ⟨rfl, (((hb0.setCell (p := ⟨w.heap.size + 1, 0, none⟩) (by simp) _).setCell (p := ⟨w.heap.size + 1, 1, none⟩) (by simp) _).setCell (p := ⟨w.heap.size + 1, 2, none⟩) (by simp) _)⟩
    refine results_cell_tmp2 rfl _ _ (w.heap.size + 1) _ _ _ _ _ _ ?_ ?_ ?_ (((k2.set_ 0 _).set_ 1 _).set_ 2 _) Tryz.underlying26 rfl (by kernel_rfl)
    · rfl
    · rfl
    · rfl

def p1 : Nat := 8651
def p2 : Nat := 12655

theorem limbs_len2 {n : Nat} (h : n < 18446744073709551616) : (limbs n).length ≤ 2 := by
  rw [length_limbs_le]; exact h
namespace Bg
theorem ref19_decimal (ng : Bool) (i : Nat) (T : TypeId) (rest : List Value) (v : Nat) (s : Int) (hv : v < 18446744073709551616) (hs1 : -10000 ≤ s) (hs2 : s ≤ 10000) (w : World) (hi : Ob w i T false v rest) :
    Calls Tryz.prog 24 #[.bool ng, .pointer (some ⟨i, 0, none⟩), .int .i64 s] w (Says w (.agg #[.bool ng, .string ⟨(mkD (Lib.decDigits v) s).1.toArray⟩, .int .i64 (mkD (Lib.decDigits v) s).2])) := by
  have hA := fun (W : World) hW => int_String i T rest v (by have := limbs_len2 hv; omega) W hW
  have hB := fun (W : World) => ref10_Make ng (Lib.decDigits v) s (by have := dec_len hv; omega) hs1 hs2 (fun i h => dec_bytes v _ (List.getElem_mem h)) W
  generalize Lib.decDigits v = D at hA hB ⊢
  generalize mkD D s = R at hB ⊢
  obtain ⟨RL, RX⟩ := R
  simp only at hB ⊢
  have hv1 : Below w.heap.size w (w.alloc (.cells #[.bool false, .string ⟨#[]⟩, .int .i64 0] 26)) := (Below.refl _ _).alloc (Nat.le_refl _) _
  have k1 : Blk (w.alloc (.cells #[.bool false, .string ⟨#[]⟩, .int .i64 0] 26)) w.heap.size 26 #[.bool false, .string ⟨#[]⟩, .int .i64 0] := Blk.new w _ _
  go_enter Tryz.func24, Tryz.ntmps24
  go_wp2_with fail
  refine (hA _ (hi.below hv1)).mono ?_
  rintro e w1 ⟨rfl, b1⟩
  have B1 := hv1.trans (b1.mono hv1.size)
  replace k1 := k1.below b1 k1.lt
  go_wp2_with fail
  refine (hB _).mono ?_
  rintro e w2 ⟨rfl, b2⟩
  have B2 := B1.trans (b2.mono B1.size)
  replace k1 := k1.below b2 k1.lt
  have c0 := k1.cell 0
  have f0 := k1.frozen 0
  have c1 := k1.cell 1
  have f1 := k1.frozen 1
  have c2 := k1.cell 2
  have f2 := k1.frozen 2
  have kz := k1.lt
  simp only [List.getElem?_toArray, List.getElem?_cons_zero, List.getElem?_cons_succ] at c0 c1 c2
  go_wp2
  refine bodyPost_ret (v := .agg #[.bool ng, .string ⟨RL.toArray⟩, .int .i64 RX]) ?_ rfl ⟨rfl, (((B2.setCell (p := ⟨w.heap.size, 0, none⟩) (Nat.le_refl _) _).setCell (p := ⟨w.heap.size, 1, none⟩) (Nat.le_refl _) _).setCell (p := ⟨w.heap.size, 2, none⟩) (Nat.le_refl _) _).alloc (by simp; omega) _⟩
  refine results_cell_row rfl _ _ w.heap.size _ _ _ _ ?_ ((((k1.set_ 0 _).set_ 1 _).set_ 2 _).alloc _) Tryz.underlying26 rfl (by kernel_rfl)
  rfl
end Bg
namespace Fo
theorem ref_Pow2 (S : Int) (s P : Nat) (hS : S = (s : Int)) (hs : s < 64) (hP : P = 2 ^ s) (w : World) :
    Calls Tryz.prog 92 #[.int .i64 S] w fun e w' => e = .returned (.int .u64 (P : Int)) ∧ w = w' := by
  subst hS
  have HPP := Lib.hid hP
  clear hP
  go_enter Tryz.func92, Tryz.ntmps92
  go_wp2
  go_loop [3, 4] (fun v i => ∃ (k p : Nat), k ≤ s ∧ i = .int .i64 (k : Int) ∧ p = 2 ^ k ∧ v = .int .u64 (p : Int)) (fun _ i => s - (intOf i).toNat)
  case atStart => exact ⟨0, 1, Nat.zero_le _, rfl, rfl, rfl⟩
  case round =>
    obtain ⟨k, p, hk, rfl, hp, rfl⟩ := hrel
    have HP := Lib.hid hp
    by_cases hk1 : k < s
    · have hlt : p < 9223372036854775808 := by
        have h1 : 2 ^ k ≤ 2 ^ 62 := Nat.pow_le_pow_right (by decide) (by omega)
        rw [hp]; omega
      clear hp
      go_wp2
      go_round
      case rel => exact ⟨k + 1, p * 2, by omega, by go_num, by rw [HP.out, Nat.pow_succ], by go_num⟩
      case measure => first | (simp [intOf]; done) | (simp [intOf]; omega)
    · have hks : k = s := by omega
      clear hp
      go_wp2
      go_ret
      have hps : p = P := by rw [HP.out, hks, HPP.out]
      subst hps
      exact ⟨rfl, rfl⟩
theorem ref_Check (e f : Int) (w : World) :
    Calls Tryz.prog 91 #[.agg #[.int .i64 e, .int .i64 f]] w (Says w (.int .i64 (chkF e f))) := by
  have hb : Below w.heap.size w (w.alloc (.cells #[.int .i64 e, .int .i64 f] 23)) := (Below.refl _ _).alloc (Nat.le_refl _) _
  by_cases h : e < 2 ∨ 11 < e ∨ f < 1 ∨ 52 < f
  · rw [show chkF e f = 5 from by unfold chkF; rw [if_pos h]]
    have hc : e < 2 ∨ (¬ e < 2 ∧ 11 < e) ∨ (¬ e < 2 ∧ ¬ 11 < e ∧ f < 1) ∨ (¬ e < 2 ∧ ¬ 11 < e ∧ ¬ f < 1 ∧ 52 < f) := by omega
    clear h
    rcases hc with h1 | ⟨h1, h2⟩ | ⟨h1, h2, h3⟩ | ⟨h1, h2, h3, h4⟩
    all_goals (
      go_enter Tryz.func91, Tryz.ntmps91
      go_wp2
      go_ret
      exact ⟨rfl, hb⟩)
  · rw [show chkF e f = 0 from by unfold chkF; rw [if_neg h]]
    have h1 : ¬ e < 2 := by omega
    have h2 : ¬ 11 < e := by omega
    have h3 : ¬ f < 1 := by omega
    have h4 : ¬ 52 < f := by omega
    go_enter Tryz.func91, Tryz.ntmps91
    go_wp2
    go_ret
    exact ⟨rfl, hb⟩
theorem ref_Fits (e f B : Int) (b : Nat) (hB : B = (b : Int)) (hb64 : b < 18446744073709551616) (w : World) :
    Calls Tryz.prog 43 #[.agg #[.int .i64 e, .int .i64 f], .int .u64 B] w (Says w (.int .i64 (fitS e f b))) := by
  subst hB
  by_cases hc : chkF e f = 0
  · obtain ⟨E, F, rfl, rfl, hE1, hE2, hF1, hF2⟩ := chk_ok hc
    have HC := Lib.hid hc
    have hj : fitS (E : Int) (F : Int) b = fitF E F b := by unfold fitS; rw [if_pos hc]; rfl
    rw [hj]
    clear hj hc
    by_cases h63 : E + F < 63
    · obtain ⟨P, hP⟩ : ∃ P, P = 2 ^ (1 + E + F) := ⟨_, rfl⟩
      have HP := Lib.hid hP
      have hd : decide ((E : Int) + (F : Int) < 63) = true := by rw [decide_eq_true_iff]; omega
      by_cases hk : P ≤ b
      · rw [show fitF E F b = 6 from by unfold fitF; rw [← hP, if_pos hk]]
        have hk2 : decide ((P : Int) ≤ (b : Int)) = true := by rw [decide_eq_true_iff]; omega
        clear hP
        go_enter Tryz.func43, Tryz.ntmps43
        go_wp2_with fail
        refine (ref_Check _ _ _).mono ?_
        rintro r w1 ⟨rfl, hb1⟩
        rw [HC.out]
        obtain ⟨hc1, hf1⟩ := bcell hb1
        have hbw1 : Below w.heap.size w w1 := Below.trans (b := _) (by repeat' (first | (with_reducible assumption) | (with_reducible exact Below.refl _ _) | (with_reducible refine bdn ?_ _) | (with_reducible refine Below.drew ?_) | (with_reducible refine Below.setCell ?_ ?_ _) | (with_reducible refine Below.alloc ?_ ?_ _) | go_size)) (hb1.mono (by go_size))
        have hz1_0 : w.heap.size < w1.heap.size := by have := hb1.size; simp at this; omega
        go_wp2_with fail
        refine (ref_Pow2 _ (1 + E + F) P (by omega) (by omega) HP.out _).mono ?_
        rintro r w2 ⟨rfl, rfl⟩
        go_wp2
        go_ret
        exact ⟨rfl, (by repeat' (first | (with_reducible assumption) | (with_reducible exact Below.refl _ _) | (with_reducible refine bdn ?_ _) | (with_reducible refine Below.drew ?_) | (with_reducible refine Below.setCell ?_ ?_ _) | (with_reducible refine Below.alloc ?_ ?_ _) | go_size))⟩
      · rw [show fitF E F b = 0 from by unfold fitF; rw [← hP, if_neg hk]]
        have hk2 : decide ((P : Int) ≤ (b : Int)) = false := by rw [decide_eq_false_iff_not]; omega
        clear hP
        go_enter Tryz.func43, Tryz.ntmps43
        go_wp2_with fail
        refine (ref_Check _ _ _).mono ?_
        rintro r w1 ⟨rfl, hb1⟩
        rw [HC.out]
        obtain ⟨hc1, hf1⟩ := bcell hb1
        have hbw1 : Below w.heap.size w w1 := Below.trans (b := _) (by repeat' (first | (with_reducible assumption) | (with_reducible exact Below.refl _ _) | (with_reducible refine bdn ?_ _) | (with_reducible refine Below.drew ?_) | (with_reducible refine Below.setCell ?_ ?_ _) | (with_reducible refine Below.alloc ?_ ?_ _) | go_size)) (hb1.mono (by go_size))
        have hz1_0 : w.heap.size < w1.heap.size := by have := hb1.size; simp at this; omega
        go_wp2_with fail
        refine (ref_Pow2 _ (1 + E + F) P (by omega) (by omega) HP.out _).mono ?_
        rintro r w2 ⟨rfl, rfl⟩
        go_wp2
        go_ret
        exact ⟨rfl, (by repeat' (first | (with_reducible assumption) | (with_reducible exact Below.refl _ _) | (with_reducible refine bdn ?_ _) | (with_reducible refine Below.drew ?_) | (with_reducible refine Below.setCell ?_ ?_ _) | (with_reducible refine Below.alloc ?_ ?_ _) | go_size))⟩
    · rw [show fitF E F b = 0 from by unfold fitF; rw [show 1 + E + F = 64 from by omega, if_neg (by omega)]]
      have hd : decide ((E : Int) + (F : Int) < 63) = false := by rw [decide_eq_false_iff_not]; omega
      go_enter Tryz.func43, Tryz.ntmps43
      go_wp2_with fail
      refine (ref_Check _ _ _).mono ?_
      rintro r w1 ⟨rfl, hb1⟩
      rw [HC.out]
      obtain ⟨hc1, hf1⟩ := bcell hb1
      have hbw1 : Below w.heap.size w w1 := Below.trans (b := _) (by repeat' (first | (with_reducible assumption) | (with_reducible exact Below.refl _ _) | (with_reducible refine bdn ?_ _) | (with_reducible refine Below.drew ?_) | (with_reducible refine Below.setCell ?_ ?_ _) | (with_reducible refine Below.alloc ?_ ?_ _) | go_size)) (hb1.mono (by go_size))
      have hz1_0 : w.heap.size < w1.heap.size := by have := hb1.size; simp at this; omega
      go_wp2
      go_ret
      exact ⟨rfl, (by repeat' (first | (with_reducible assumption) | (with_reducible exact Below.refl _ _) | (with_reducible refine bdn ?_ _) | (with_reducible refine Below.drew ?_) | (with_reducible refine Below.setCell ?_ ?_ _) | (with_reducible refine Below.alloc ?_ ?_ _) | go_size))⟩
  · rw [show fitS e f b = 5 from by unfold fitS; rw [if_neg hc, chk_no hc]]
    have HC := Lib.hid (chk_no hc)
    clear hc
    go_enter Tryz.func43, Tryz.ntmps43
    go_wp2_with fail
    refine (ref_Check _ _ _).mono ?_
    rintro r w1 ⟨rfl, hb1⟩
    rw [HC.out]
    obtain ⟨hc1, hf1⟩ := bcell hb1
    have hbw1 : Below w.heap.size w w1 := Below.trans (b := _) (by repeat' (first | (with_reducible assumption) | (with_reducible exact Below.refl _ _) | (with_reducible refine bdn ?_ _) | (with_reducible refine Below.drew ?_) | (with_reducible refine Below.setCell ?_ ?_ _) | (with_reducible refine Below.alloc ?_ ?_ _) | go_size)) (hb1.mono (by go_size))
    have hz1_0 : w.heap.size < w1.heap.size := by have := hb1.size; simp at this; omega
    go_wp2
    go_ret
    exact ⟨rfl, hbw1⟩
end Fo
namespace Bg
theorem u64_two {k : Nat} (h : k ≤ 63) : IntKind.u64.wrap ((2 : Int) ^ k) = ((2 ^ k : Nat) : Int) := by
  have h1 : (2 : Nat) ^ k ≤ 2 ^ 63 := Nat.pow_le_pow_right (by decide) h
  have e : ((2 : Int) ^ k) = ((2 ^ k : Nat) : Int) := by push_cast; rfl
  rw [e, IntKind.wrap_u64]
  generalize 2 ^ k = P at h1 ⊢
  omega
theorem i64_two {k : Nat} (h : k ≤ 62) : IntKind.i64.wrap ((2 : Int) ^ k) = ((2 ^ k : Nat) : Int) := by
  have h1 : (2 : Nat) ^ k ≤ 2 ^ 62 := Nat.pow_le_pow_right (by decide) h
  have e : ((2 : Int) ^ k) = ((2 ^ k : Nat) : Int) := by push_cast; rfl
  rw [e, IntKind.wrap_i64]
  generalize 2 ^ k = P at h1 ⊢
  omega
theorem w64_two {k : Nat} (h : k ≤ 62) : wrap64 ((2 : Int) ^ k) = ((2 ^ k : Nat) : Int) := by
  have h1 : (2 : Nat) ^ k ≤ 2 ^ 62 := Nat.pow_le_pow_right (by decide) h
  have e : ((2 : Int) ^ k) = ((2 ^ k : Nat) : Int) := by push_cast; rfl
  rw [e]
  unfold wrap64
  generalize 2 ^ k = P at h1 ⊢
  omega
theorem ref05_Sign (E F : Nat) (hE : E ≤ 11) (hF : F ≤ 52) (S : Nat) (hS : S = 2 ^ (E + F)) (w : World) :
    Calls Tryz.prog 18 #[.agg #[.int .i64 (E : Int), .int .i64 (F : Int)]] w (Says w (.int .u64 (S : Int))) := by
  have h1 := u64_two (k := E + F) (by omega)
  have hw : IntKind.u64.wrap ((E : Int) + (F : Int)) = ((E + F : Nat) : Int) := by rw [IntKind.wrap_u64]; omega
  have hb0 : Below w.heap.size w w := Below.refl _ _
  go_enter Tryz.func18, Tryz.ntmps18
  go_wp2
  go_ret
  refine ⟨?_, (Below.refl _ _).alloc (Nat.le_refl _) _⟩
  rw [hS, ← h1]
  rfl
theorem ref19_sign (E F b : Nat) (hE : E ≤ 11) (hF : F ≤ 52) (S : Nat) (hS : S = 2 ^ (E + F)) (w : World) :
    Calls Tryz.prog 17 #[.agg #[.int .i64 (E : Int), .int .i64 (F : Int)], .int .u64 (b : Int)] w (Says w (.bool (decide (S ≤ b)))) := by
  have hC := fun W => ref05_Sign E F hE hF S hS W
  have hd : decide ((S : Int) ≤ (b : Int)) = decide (S ≤ b) := by rw [decide_eq_decide]; omega
  clear hS
  go_enter Tryz.func17, Tryz.ntmps17
  go_wp2_with fail
  have hv1 : Below w.heap.size w (w.alloc (.cells #[.int .i64 (E : Int), .int .i64 (F : Int)] 23)) := (Below.refl _ _).alloc (Nat.le_refl _) _
  refine (hC _).mono ?_
  rintro e w1 ⟨rfl, hb1⟩
  have hb := hv1.trans (hb1.mono hv1.size)
  go_wp2
  go_ret
  exact ⟨rfl, hb⟩
theorem ref05_Fits (E F b : Nat) (hE : E ≤ 11) (hF : F ≤ 52) (hb64 : b < 18446744073709551616) (hb : b < 2 ^ (1 + E + F)) (w : World) :
    Calls Tryz.prog 93 #[.agg #[.int .i64 (E : Int), .int .i64 (F : Int)], .int .u64 (b : Int)] w (Says w (.bool true)) := by
  obtain ⟨S, hS⟩ : ∃ S, S = 2 ^ (E + F) := ⟨_, rfl⟩
  have hC := fun W => ref05_Sign E F hE hF S hS W
  have hS2 : 2 ^ (1 + E + F) = 2 * S := by rw [hS, show 1 + E + F = E + F + 1 by omega, Nat.pow_succ]; omega
  have hb0 : Below w.heap.size w w := Below.refl _ _
  have hv1 : Below w.heap.size w (w.alloc (.cells #[.int .i64 (E : Int), .int .i64 (F : Int)] 23)) := (Below.refl _ _).alloc (Nat.le_refl _) _
  by_cases h63 : E + F < 63
  · have hle : S ≤ 2 ^ 62 := by rw [hS]; exact Nat.pow_le_pow_right (by decide) (by omega)
    have e62 : (2 : Nat) ^ 62 = 4611686018427387904 := rfl
    have hd : decide ((63 : Int) ≤ (E : Int) + (F : Int)) = false := by simp; omega
    have hd2 : decide ((b : Int) < 2 * (S : Int)) = true := by simp; omega
    rw [hS2] at hb
    rw [e62] at hle
    clear hS hS2 e62 h63
    go_enter Tryz.func93, Tryz.ntmps93
    go_wp2_with fail
    refine (hC _).mono ?_
    rintro e w1 ⟨rfl, hb1⟩
    have hb := hv1.trans (hb1.mono hv1.size)
    go_wp2
    go_ret
    exact ⟨rfl, hb⟩
  · have hd : decide ((63 : Int) ≤ (E : Int) + (F : Int)) = true := by simp; omega
    clear hS hS2 h63 hb
    go_enter Tryz.func93, Tryz.ntmps93
    go_wp2
    go_ret
    exact ⟨rfl, hv1⟩
theorem ref05_Finite (E F b X : Nat) (hE2 : 2 ≤ E) (hE : E ≤ 11) (hF1 : 1 ≤ F) (hF : F ≤ 52) (hb64 : b < 18446744073709551616) (hb : b < 2 ^ (1 + E + F)) (hX : X = b / 2 ^ F % 2 ^ E) (w : World) :
    Calls Tryz.prog 44 #[.agg #[.int .i64 (E : Int), .int .i64 (F : Int)], .int .u64 (b : Int)] w (Says w (.bool (!decide (X + 1 = 2 ^ E)))) := by
  have hC := fun W => ref05_Fits E F b hE hF hb64 hb W
  have hv1 : Below w.heap.size w (w.alloc (.cells #[.int .i64 (E : Int), .int .i64 (F : Int)] 23)) := (Below.refl _ _).alloc (Nat.le_refl _) _
  have k1 : Blk (w.alloc (.cells #[.int .i64 (E : Int), .int .i64 (F : Int)] 23)) w.heap.size 23 #[.int .i64 (E : Int), .int .i64 (F : Int)] := Blk.new w _ _
  have eE := u64_two (k := E) (by omega)
  have eI := i64_two (k := E) (by omega)
  have hEp : 2 ^ E ≤ 2048 := Nat.le_trans (Nat.pow_le_pow_right (by decide) hE) (by decide)
  have eW := w64_two (k := E) (by omega)
  have hE0 : 0 < 2 ^ E := Nat.two_pow_pos E
  obtain ⟨q, hq⟩ : ∃ q, q = b / 2 ^ F := ⟨_, rfl⟩
  have hqe : (b : Int) / 2 ^ F = (q : Int) := by rw [hq]; push_cast; rfl
  have hq64 : q < 18446744073709551616 := by rw [hq]; exact Nat.lt_of_le_of_lt (Nat.div_le_self _ _) hb64
  rw [← hq] at hX
  obtain ⟨P, hP⟩ : ∃ P, P = 2 ^ E := ⟨_, rfl⟩
  rw [← hP] at hX eE eI eW hEp hE0 ⊢
  have hXlt : X < P := by rw [hX]; exact Nat.mod_lt _ hE0
  have hXm : (q : Int) % (P : Int) = (X : Int) := by rw [hX]; rfl
  have hXt : (q : Int).tmod (P : Int) = (X : Int) := by rw [hX]; rfl
  have hXn : q % P = X := hX.symm
  have hPn : ¬ P = 0 := by omega
  have hPi : ((P : Int) == 0) = false := by rw [beq_eq_false_iff_ne]; omega
  obtain ⟨fin, hfin⟩ : ∃ fin, fin = decide (X + 1 = P) := ⟨_, rfl⟩
  rw [← hfin]
  have hf1 : ((X : Int) == (P : Int) - 1) = fin := by
    rw [hfin]
    by_cases h : X + 1 = P
    · rw [decide_eq_true h, beq_iff_eq]; omega
    · rw [decide_eq_false h, beq_eq_false_iff_ne]; omega
  have hf2 : ((X : Int) != (P : Int) - 1) = !fin := by rw [bne, hf1]
  clear hX hq hP hfin hb
  go_enter Tryz.func44, Tryz.ntmps44
  go_wp2_with fail
  refine (hC _).mono ?_
  rintro e w1 ⟨rfl, hb1⟩
  have hb2 := hv1.trans (hb1.mono hv1.size)
  replace k1 := k1.below hb1 k1.lt
  have k1_c0 := k1.cell 0
  have k1_f0 := k1.frozen 0
  have k1_c1 := k1.cell 1
  have k1_f1 := k1.frozen 1
  have k1_z := k1.lt
  simp only [List.getElem?_toArray, List.getElem?_cons_zero, List.getElem?_cons_succ] at k1_c0 k1_c1
  go_upto_region 2 with fail
  go_region
  go_wp2
  go_ret
  exact ⟨rfl, hb2.drew⟩
theorem ref19_asked_bad (e f : Int) (b : Nat) (hb64 : b < 18446744073709551616) (h : Fo.fitS e f b ≠ 0) (w : World) :
    Calls Tryz.prog 16 #[.agg #[.int .i64 e, .int .i64 f], .int .u64 (b : Int)] w (Says w (.int .i64 (Fo.fitS e f b))) := by
  have hC := fun W => Fo.ref_Fits e f b b rfl hb64 W
  have hv1 : Below w.heap.size w (w.alloc (.cells #[.int .i64 e, .int .i64 f] 23)) := (Below.refl _ _).alloc (Nat.le_refl _) _
  have hne : (Fo.fitS e f b != 0) = true := by simpa using h
  generalize Fo.fitS e f b = r at *
  go_enter Tryz.func16, Tryz.ntmps16
  go_wp2_with fail
  refine (hC _).mono ?_
  rintro e' w1 ⟨rfl, hb1⟩
  go_wp2
  go_ret
  exact ⟨rfl, hv1.trans (hb1.mono hv1.size)⟩
theorem ref19_asked (E F b X : Nat) (hE2 : 2 ≤ E) (hE : E ≤ 11) (hF1 : 1 ≤ F) (hF : F ≤ 52) (hb64 : b < 18446744073709551616) (hb : b < 2 ^ (1 + E + F)) (hfit : Fo.fitS (E : Int) (F : Int) b = 0) (hX : X = b / 2 ^ F % 2 ^ E) (w : World) :
    Calls Tryz.prog 16 #[.agg #[.int .i64 (E : Int), .int .i64 (F : Int)], .int .u64 (b : Int)] w (Says w (.int .i64 (if X + 1 = 2 ^ E then 8 else 0))) := by
  have hC := fun W => Fo.ref_Fits (E : Int) (F : Int) b b rfl hb64 W
  rw [hfit] at hC
  have hD := fun W => ref05_Finite E F b X hE2 hE hF1 hF hb64 hb hX W
  have hv1 : Below w.heap.size w (w.alloc (.cells #[.int .i64 (E : Int), .int .i64 (F : Int)] 23)) := (Below.refl _ _).alloc (Nat.le_refl _) _
  have k1 : Blk (w.alloc (.cells #[.int .i64 (E : Int), .int .i64 (F : Int)] 23)) w.heap.size 23 #[.int .i64 (E : Int), .int .i64 (F : Int)] := Blk.new w _ _
  clear hb hX hfit
  by_cases h : X + 1 = 2 ^ E
  · rw [if_pos h]
    rw [decide_eq_true h] at hD
    clear h
    go_enter Tryz.func16, Tryz.ntmps16
    go_wp2_with fail
    refine (hC _).mono ?_
    rintro e' w1 ⟨rfl, hb1⟩
    replace k1 := k1.below hb1 k1.lt
    have k1_c0 := k1.cell 0
    have k1_c1 := k1.cell 1
    simp only [List.getElem?_toArray, List.getElem?_cons_zero, List.getElem?_cons_succ] at k1_c0 k1_c1
    go_wp2_with fail
    refine (hD _).mono ?_
    rintro e' w2 ⟨rfl, hb2⟩
    go_wp2
    go_ret
    exact ⟨rfl, (hv1.trans (hb1.mono hv1.size)).trans (hb2.mono (hv1.trans (hb1.mono hv1.size)).size)⟩
  · rw [if_neg h]
    rw [decide_eq_false h] at hD
    clear h
    go_enter Tryz.func16, Tryz.ntmps16
    go_wp2_with fail
    refine (hC _).mono ?_
    rintro e' w1 ⟨rfl, hb1⟩
    replace k1 := k1.below hb1 k1.lt
    have k1_c0 := k1.cell 0
    have k1_c1 := k1.cell 1
    simp only [List.getElem?_toArray, List.getElem?_cons_zero, List.getElem?_cons_succ] at k1_c0 k1_c1
    go_wp2_with fail
    refine (hD _).mono ?_
    rintro e' w2 ⟨rfl, hb2⟩
    go_wp2
    go_ret
    exact ⟨rfl, (hv1.trans (hb1.mono hv1.size)).trans (hb2.mono (hv1.trans (hb1.mono hv1.size)).size)⟩
end Bg
end Go.Proofs.YtenekbfnlbipiaaGreatDoor
