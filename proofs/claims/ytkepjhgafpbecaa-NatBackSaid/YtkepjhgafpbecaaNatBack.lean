/- NatBack: a number's text is read as the number, and has no nought ahead; what is read of a text is written as the text without the noughts ahead. No condition. -/
import Derived.Test.YtkepjhgafpbecaaRows
import Derived.Test.YtkepjhgafpbecaaAlive
import Derived.Test.YtkepjhgafpbecaaMoves
import Derived.Test.YtkepjhgafpbecaaPar
import Derived.Test.YtkepjhgafpbecaaBk
import Derived.Test.YtkepjhgafpbecaaH
import Derived.Test.YtkepjhgafpbecaaSm
namespace Go.Proofs.Ytkepjhgafpbecaa.natBack
open Go.ChangeShapes Go.WideShapes Go.ChangeAt Go.RowKit
open Go.ChangeMaps (open_string shut_string)
open Go.RowKit
set_option linter.unusedVariables false
set_option linter.unusedSimpArgs false
set_option maxHeartbeats 4000000
set_option maxRecDepth 100000

theorem walk (A : Option Addr) (a : List Nat) (n c : Nat) (s : ByteArray) (hn : n = a.length) (w : World) (ha : Rd w A a) :
    Calls Try.prog 11 #[.agg #[.slice A n c], .string s] w fun e w' => e = .returned (.bool true) ∧ Below w.heap.size w w' := by
  subst hn
  have hbs := sb_bts s
  have hs := bstr_sb s
  generalize sb s = ls at hbs hs
  subst hs
  have S0 := (Sq.init w).put (.slice A a.length c)
  have k0 := fun W h => small_any A a _ c rfl 4000 (by decide) W h
  have kp := fun W => nat_Parse ls hbs W
  by_cases hs : chk a = 0 ∧ a.length ≤ 4000
  · rw [decide_eq_true (show chk a = 0 ∧ ((a.length : Nat) : Int) ≤ 4000 from ⟨hs.1, by omega⟩)] at k0
    have kT := fun W h => nat_Text A a _ c rfl W h
    have hte : textS a = (bstr (textL (val a)), 0) := by unfold textS; rw [if_pos hs.1]
    rw [hte] at kT
    have hTb : Bts (textL (val a)) := fun x hx => by have := dgt_text _ x hx; omega
    have kP := fun W => nat_Parse (textL (val a)) hTb W
    rw [parse_text ha.sm hs.1 hs.2] at kP
    have kS := fun A' c' W h h' => ref_Same A A' a a _ _ c c' rfl rfl W h h'
    rw [decide_eq_true rfl] at kS
    have hT0 := text_pos (val a)
    have hTh := text_head (val a)
    generalize textL (val a) = T at *
    have hTs := bstr_size T
    have hix0 := run_index_bstr (P := Try.prog) 9 (by kernel_rfl) T hTb .i64 0 0 rfl hT0
    have hT00 : (((T.length : Nat) : Int) == 0) = false := by rw [beq_eq_false_iff_ne]; omega
    clear hs hte hTb
    go_enter Try.func11, Try.ntmps11
    go_wp2_with fail
    refine (alive_any _).mono ?_
    rintro e w1 ⟨rfl, b1⟩
    have S1 := S0.below b1
    obtain ⟨q1, q1z, q1f⟩ := S1.cell 0 rfl
    clear S0 b1
    go_wp2_with fail
    refine (k0 _ (S1.rd ha)).mono ?_
    rintro e w2 ⟨rfl, b2⟩
    have S2 := S1.below b2
    obtain ⟨q2, q2z, q2f⟩ := S2.cell 0 rfl
    clear S1 b2 q1 q1z q1f k0
    go_wp2_with fail
    refine (kT _ (S2.rd ha)).mono ?_
    rintro e w3 ⟨rfl, b3⟩
    have S3 := S2.below b3
    obtain ⟨q3, q3z, q3f⟩ := S3.cell 0 rfl
    clear S2 b3 q2 q2z q2f kT
    go_wp2_with fail
    refine (kP _).mono ?_
    rintro e w4 ⟨A', c', rfl, o4, b4⟩
    have S4 := ((S3.below b4).pend_ o4 S3.size).put (.slice A' a.length c')
    obtain ⟨q4, q4z, q4f⟩ := S4.cell 0 rfl
    obtain ⟨q5, q5z, q5f⟩ := S4.cell 1 rfl
    clear S3 o4 b4 q3 q3z q3f kP
    by_cases h48 : nth T 0 = 48
    · have hT1 := hTh h48
      have he0 : (((nth T 0 : Nat) : Int) == 48) = true := by rw [beq_iff_eq]; omega
      have hl1 : decide ((1 : Int) < ((T.length : Nat) : Int)) = false := by rw [hT1]; rfl
      clear hT1 hTh h48
      go_wp2_with fail
      refine (kS A' c' _ (S4.rd ha) (S4.prd 0 rfl)).mono ?_
      rintro e w5 ⟨rfl, b5⟩
      have S5 := S4.below b5
      clear S4 b5
      rcases parse_fault ls with hf | hf
      · obtain ⟨hll, hl0, hg, hpl⟩ := parse_good hf
        have hlm := dv_limbs hg hll
        have kT2 := fun A' c' W h => nat_Text A' (limbs (dv ls)) _ c' rfl W h
        rw [textS_limbs hlm] at kT2
        rw [hpl] at kp
        have HG := Lib.hid hg
        have hls := bstr_size ls
        clear hf hg hpl hlm
        generalize limbs (dv ls) = M at kp kT2
        go_wp2_with fail
        refine (kp _).mono ?_
        rintro e w4 ⟨A', c', rfl, o4, b4⟩
        have Q4 := ((S5.below b4).pend_ o4 S5.size).put (.slice A' M.length c')
        obtain ⟨f4, f4z, f4f⟩ := Q4.cell 0 rfl
        clear S5 kp o4 b4
        go_wp2
        generalize hW4 : w4.alloc (.cells #[.slice A' M.length c'] 35) = w4' at *
        clear hW4
        go_loop [14] (fun v14 => ∃ i : Nat, i < ls.length ∧ v14 = .int .i64 (i : Int) ∧ ∀ j, j < i → nth ls j = 48) (fun v14 => ls.length - (intOf v14).toNat)
        case atStart => exact ⟨0, hl0, rfl, fun j hj => absurd hj (Nat.not_lt_zero _)⟩
        case round =>
          obtain ⟨i, hi, rfl, hz⟩ := hrel
          have HZ := Lib.hid hz
          clear hz
          have hix := run_index_bstr (P := Try.prog) 9 (by kernel_rfl) ls hbs .i64 i (i : Int) rfl hi
          by_cases hi1 : i + 1 < ls.length
          · have hd1 : decide ((i : Int) < ((ls.length : Nat) : Int) - 1) = true := by simp; omega
            by_cases h48 : nth ls i = 48
            · have he : (((nth ls i : Nat) : Int) == 48) = true := by rw [beq_iff_eq]; omega
              have H48 := Lib.hid h48
              clear h48
              go_wp2
              go_round
              case rel => exact ⟨i + 1, hi1, vi (by omega), fun j hj => by
                rcases Nat.lt_or_ge j i with h | h
                · exact HZ.out j h
                · rw [show j = i by omega]; exact H48.out⟩
              case measure => first | (simp [intOf]; done) | (simp [intOf]; omega)
            · have he : (((nth ls i : Nat) : Int) == 48) = false := by rw [beq_eq_false_iff_ne]; omega
              have ht : textL (dv ls) = ls.drop i := by
                rw [← dv_drop0 (Nat.le_of_lt hi) HZ.out]
                refine text_of (fun x hx => HG.out x (List.mem_of_mem_drop hx)) (by simp; omega) ?_
                rw [show nth (ls.drop i) 0 = nth ls i by rw [nth_lt _ (by simp; omega), nth_lt _ hi, List.getElem_drop]; simp]
                rw [List.length_drop]
                omega
              have kt := kT2 A' c' w4' (Q4.prd 0 rfl)
              rw [ht] at kt
              have hsl := fun W : World => run_slice_bstr_from (P := Try.prog) 9 (by kernel_rfl) ls .i64 i (i : Int) rfl (Nat.le_of_lt hi) W
              clear ht kT2
              go_wp2_with fail
              refine kt.mono ?_
              rintro e w5 ⟨rfl, b5⟩
              go_wp2
              go_ret
              exact ⟨rfl, (Q4.below b5).bel⟩
          · have hd1 : decide ((i : Int) < ((ls.length : Nat) : Int) - 1) = false := by simp; omega
            have ht : textL (dv ls) = ls.drop i := by
              rw [← dv_drop0 (Nat.le_of_lt hi) HZ.out]
              refine text_of (fun x hx => HG.out x (List.mem_of_mem_drop hx)) (by simp; omega) ?_
              rw [show nth (ls.drop i) 0 = nth ls i by rw [nth_lt _ (by simp; omega), nth_lt _ hi, List.getElem_drop]; simp]
              rw [List.length_drop]
              omega
            have kt := kT2 A' c' w4' (Q4.prd 0 rfl)
            rw [ht] at kt
            have hsl := fun W : World => run_slice_bstr_from (P := Try.prog) 9 (by kernel_rfl) ls .i64 i (i : Int) rfl (Nat.le_of_lt hi) W
            clear ht kT2
            go_wp2_with fail
            refine kt.mono ?_
            rintro e w5 ⟨rfl, b5⟩
            go_wp2
            go_ret
            exact ⟨rfl, (Q4.below b5).bel⟩
      · obtain ⟨h1, h2, h3, h4⟩ := hf
        rcases hpe : parseL ls with ⟨pl, pp, pe⟩
        rw [hpe] at h1 h2 h3 h4 kp
        simp only at h1 h2 h3 h4
        subst h2
        have hls := bstr_size ls
        have d1 : (pe != 0) = true := by rw [bne_iff_ne]; exact h1
        have d2 : decide ((0 : Int) ≤ pp) = true := decide_eq_true h3
        have d3 : decide (pp ≤ ((ls.length : Nat) : Int)) = true := decide_eq_true h4
        clear h1 hpe
        go_wp2_with fail
        refine (kp _).mono ?_
        rintro e w4 ⟨A', c', rfl, o4, b4⟩
        have Q4 := ((S5.below b4).pend_ o4 S5.size).put (.slice A' 0 c')
        obtain ⟨f4, f4z, f4f⟩ := Q4.cell 0 rfl
        clear S5 kp o4 b4
        go_wp2
        go_ret
        exact ⟨rfl, Q4.bel⟩
    · have he0 : (((nth T 0 : Nat) : Int) == 48) = false := by rw [beq_eq_false_iff_ne]; omega
      clear hTh h48
      go_wp2_with fail
      refine (kS A' c' _ (S4.rd ha) (S4.prd 0 rfl)).mono ?_
      rintro e w5 ⟨rfl, b5⟩
      have S5 := S4.below b5
      clear S4 b5
      rcases parse_fault ls with hf | hf
      · obtain ⟨hll, hl0, hg, hpl⟩ := parse_good hf
        have hlm := dv_limbs hg hll
        have kT2 := fun A' c' W h => nat_Text A' (limbs (dv ls)) _ c' rfl W h
        rw [textS_limbs hlm] at kT2
        rw [hpl] at kp
        have HG := Lib.hid hg
        have hls := bstr_size ls
        clear hf hg hpl hlm
        generalize limbs (dv ls) = M at kp kT2
        go_wp2_with fail
        refine (kp _).mono ?_
        rintro e w4 ⟨A', c', rfl, o4, b4⟩
        have Q4 := ((S5.below b4).pend_ o4 S5.size).put (.slice A' M.length c')
        obtain ⟨f4, f4z, f4f⟩ := Q4.cell 0 rfl
        clear S5 kp o4 b4
        go_wp2
        generalize hW4 : w4.alloc (.cells #[.slice A' M.length c'] 35) = w4' at *
        clear hW4
        go_loop [14] (fun v14 => ∃ i : Nat, i < ls.length ∧ v14 = .int .i64 (i : Int) ∧ ∀ j, j < i → nth ls j = 48) (fun v14 => ls.length - (intOf v14).toNat)
        case atStart => exact ⟨0, hl0, rfl, fun j hj => absurd hj (Nat.not_lt_zero _)⟩
        case round =>
          obtain ⟨i, hi, rfl, hz⟩ := hrel
          have HZ := Lib.hid hz
          clear hz
          have hix := run_index_bstr (P := Try.prog) 9 (by kernel_rfl) ls hbs .i64 i (i : Int) rfl hi
          by_cases hi1 : i + 1 < ls.length
          · have hd1 : decide ((i : Int) < ((ls.length : Nat) : Int) - 1) = true := by simp; omega
            by_cases h48 : nth ls i = 48
            · have he : (((nth ls i : Nat) : Int) == 48) = true := by rw [beq_iff_eq]; omega
              have H48 := Lib.hid h48
              clear h48
              go_wp2
              go_round
              case rel => exact ⟨i + 1, hi1, vi (by omega), fun j hj => by
                rcases Nat.lt_or_ge j i with h | h
                · exact HZ.out j h
                · rw [show j = i by omega]; exact H48.out⟩
              case measure => first | (simp [intOf]; done) | (simp [intOf]; omega)
            · have he : (((nth ls i : Nat) : Int) == 48) = false := by rw [beq_eq_false_iff_ne]; omega
              have ht : textL (dv ls) = ls.drop i := by
                rw [← dv_drop0 (Nat.le_of_lt hi) HZ.out]
                refine text_of (fun x hx => HG.out x (List.mem_of_mem_drop hx)) (by simp; omega) ?_
                rw [show nth (ls.drop i) 0 = nth ls i by rw [nth_lt _ (by simp; omega), nth_lt _ hi, List.getElem_drop]; simp]
                rw [List.length_drop]
                omega
              have kt := kT2 A' c' w4' (Q4.prd 0 rfl)
              rw [ht] at kt
              have hsl := fun W : World => run_slice_bstr_from (P := Try.prog) 9 (by kernel_rfl) ls .i64 i (i : Int) rfl (Nat.le_of_lt hi) W
              clear ht kT2
              go_wp2_with fail
              refine kt.mono ?_
              rintro e w5 ⟨rfl, b5⟩
              go_wp2
              go_ret
              exact ⟨rfl, (Q4.below b5).bel⟩
          · have hd1 : decide ((i : Int) < ((ls.length : Nat) : Int) - 1) = false := by simp; omega
            have ht : textL (dv ls) = ls.drop i := by
              rw [← dv_drop0 (Nat.le_of_lt hi) HZ.out]
              refine text_of (fun x hx => HG.out x (List.mem_of_mem_drop hx)) (by simp; omega) ?_
              rw [show nth (ls.drop i) 0 = nth ls i by rw [nth_lt _ (by simp; omega), nth_lt _ hi, List.getElem_drop]; simp]
              rw [List.length_drop]
              omega
            have kt := kT2 A' c' w4' (Q4.prd 0 rfl)
            rw [ht] at kt
            have hsl := fun W : World => run_slice_bstr_from (P := Try.prog) 9 (by kernel_rfl) ls .i64 i (i : Int) rfl (Nat.le_of_lt hi) W
            clear ht kT2
            go_wp2_with fail
            refine kt.mono ?_
            rintro e w5 ⟨rfl, b5⟩
            go_wp2
            go_ret
            exact ⟨rfl, (Q4.below b5).bel⟩
      · obtain ⟨h1, h2, h3, h4⟩ := hf
        rcases hpe : parseL ls with ⟨pl, pp, pe⟩
        rw [hpe] at h1 h2 h3 h4 kp
        simp only at h1 h2 h3 h4
        subst h2
        have hls := bstr_size ls
        have d1 : (pe != 0) = true := by rw [bne_iff_ne]; exact h1
        have d2 : decide ((0 : Int) ≤ pp) = true := decide_eq_true h3
        have d3 : decide (pp ≤ ((ls.length : Nat) : Int)) = true := decide_eq_true h4
        clear h1 hpe
        go_wp2_with fail
        refine (kp _).mono ?_
        rintro e w4 ⟨A', c', rfl, o4, b4⟩
        have Q4 := ((S5.below b4).pend_ o4 S5.size).put (.slice A' 0 c')
        obtain ⟨f4, f4z, f4f⟩ := Q4.cell 0 rfl
        clear S5 kp o4 b4
        go_wp2
        go_ret
        exact ⟨rfl, Q4.bel⟩
  · rw [decide_eq_false (show ¬ (chk a = 0 ∧ ((a.length : Nat) : Int) ≤ 4000) from fun h => hs ⟨h.1, by omega⟩)] at k0
    clear hs
    go_enter Try.func11, Try.ntmps11
    go_wp2_with fail
    refine (alive_any _).mono ?_
    rintro e w1 ⟨rfl, b1⟩
    have S1 := S0.below b1
    obtain ⟨q1, q1z, q1f⟩ := S1.cell 0 rfl
    clear S0 b1
    go_wp2_with fail
    refine (k0 _ (S1.rd ha)).mono ?_
    rintro e w2 ⟨rfl, b2⟩
    have S2 := S1.below b2
    clear S1 b2 q1 q1z q1f k0
    rcases parse_fault ls with hf | hf
    · obtain ⟨hll, hl0, hg, hpl⟩ := parse_good hf
      have hlm := dv_limbs hg hll
      have kT2 := fun A' c' W h => nat_Text A' (limbs (dv ls)) _ c' rfl W h
      rw [textS_limbs hlm] at kT2
      rw [hpl] at kp
      have HG := Lib.hid hg
      have hls := bstr_size ls
      clear hf hg hpl hlm
      generalize limbs (dv ls) = M at kp kT2
      go_wp2_with fail
      refine (kp _).mono ?_
      rintro e w4 ⟨A', c', rfl, o4, b4⟩
      have Q4 := ((S2.below b4).pend_ o4 S2.size).put (.slice A' M.length c')
      obtain ⟨f4, f4z, f4f⟩ := Q4.cell 0 rfl
      clear S2 kp o4 b4
      go_wp2
      generalize hW4 : w4.alloc (.cells #[.slice A' M.length c'] 35) = w4' at *
      clear hW4
      go_loop [14] (fun v14 => ∃ i : Nat, i < ls.length ∧ v14 = .int .i64 (i : Int) ∧ ∀ j, j < i → nth ls j = 48) (fun v14 => ls.length - (intOf v14).toNat)
      case atStart => exact ⟨0, hl0, rfl, fun j hj => absurd hj (Nat.not_lt_zero _)⟩
      case round =>
        obtain ⟨i, hi, rfl, hz⟩ := hrel
        have HZ := Lib.hid hz
        clear hz
        have hix := run_index_bstr (P := Try.prog) 9 (by kernel_rfl) ls hbs .i64 i (i : Int) rfl hi
        by_cases hi1 : i + 1 < ls.length
        · have hd1 : decide ((i : Int) < ((ls.length : Nat) : Int) - 1) = true := by simp; omega
          by_cases h48 : nth ls i = 48
          · have he : (((nth ls i : Nat) : Int) == 48) = true := by rw [beq_iff_eq]; omega
            have H48 := Lib.hid h48
            clear h48
            go_wp2
            go_round
            case rel => exact ⟨i + 1, hi1, vi (by omega), fun j hj => by
              rcases Nat.lt_or_ge j i with h | h
              · exact HZ.out j h
              · rw [show j = i by omega]; exact H48.out⟩
            case measure => first | (simp [intOf]; done) | (simp [intOf]; omega)
          · have he : (((nth ls i : Nat) : Int) == 48) = false := by rw [beq_eq_false_iff_ne]; omega
            have ht : textL (dv ls) = ls.drop i := by
              rw [← dv_drop0 (Nat.le_of_lt hi) HZ.out]
              refine text_of (fun x hx => HG.out x (List.mem_of_mem_drop hx)) (by simp; omega) ?_
              rw [show nth (ls.drop i) 0 = nth ls i by rw [nth_lt _ (by simp; omega), nth_lt _ hi, List.getElem_drop]; simp]
              rw [List.length_drop]
              omega
            have kt := kT2 A' c' w4' (Q4.prd 0 rfl)
            rw [ht] at kt
            have hsl := fun W : World => run_slice_bstr_from (P := Try.prog) 9 (by kernel_rfl) ls .i64 i (i : Int) rfl (Nat.le_of_lt hi) W
            clear ht kT2
            go_wp2_with fail
            refine kt.mono ?_
            rintro e w5 ⟨rfl, b5⟩
            go_wp2
            go_ret
            exact ⟨rfl, (Q4.below b5).bel⟩
        · have hd1 : decide ((i : Int) < ((ls.length : Nat) : Int) - 1) = false := by simp; omega
          have ht : textL (dv ls) = ls.drop i := by
            rw [← dv_drop0 (Nat.le_of_lt hi) HZ.out]
            refine text_of (fun x hx => HG.out x (List.mem_of_mem_drop hx)) (by simp; omega) ?_
            rw [show nth (ls.drop i) 0 = nth ls i by rw [nth_lt _ (by simp; omega), nth_lt _ hi, List.getElem_drop]; simp]
            rw [List.length_drop]
            omega
          have kt := kT2 A' c' w4' (Q4.prd 0 rfl)
          rw [ht] at kt
          have hsl := fun W : World => run_slice_bstr_from (P := Try.prog) 9 (by kernel_rfl) ls .i64 i (i : Int) rfl (Nat.le_of_lt hi) W
          clear ht kT2
          go_wp2_with fail
          refine kt.mono ?_
          rintro e w5 ⟨rfl, b5⟩
          go_wp2
          go_ret
          exact ⟨rfl, (Q4.below b5).bel⟩
    · obtain ⟨h1, h2, h3, h4⟩ := hf
      rcases hpe : parseL ls with ⟨pl, pp, pe⟩
      rw [hpe] at h1 h2 h3 h4 kp
      simp only at h1 h2 h3 h4
      subst h2
      have hls := bstr_size ls
      have d1 : (pe != 0) = true := by rw [bne_iff_ne]; exact h1
      have d2 : decide ((0 : Int) ≤ pp) = true := decide_eq_true h3
      have d3 : decide (pp ≤ ((ls.length : Nat) : Int)) = true := decide_eq_true h4
      clear h1 hpe
      go_wp2_with fail
      refine (kp _).mono ?_
      rintro e w4 ⟨A', c', rfl, o4, b4⟩
      have Q4 := ((S2.below b4).pend_ o4 S2.size).put (.slice A' 0 c')
      obtain ⟨f4, f4z, f4f⟩ := Q4.cell 0 rfl
      clear S2 kp o4 b4
      go_wp2
      go_ret
      exact ⟨rfl, Q4.bel⟩

theorem own : ownKnob Try.prog.godebug = none := by kernel_rfl
theorem laidOut : laidOutB Try.prog = true := by kernel_rfl

theorem lifted (os : Os) (started : os.Started) (H : Type) (enc : TypeId × Value → H) :
    ReturnsInHanded {} Try.checked os 11 .any (Rows.natBackSpec.pre6 enc Try.prog Try.f11 Rows.natBackRow.domain false) (Rows.natBackSpec.post enc Try.prog Try.f11 false true false false) := by
  refine returnsInHanded_of_change_sized (C := Try.checked) own started (by kernel_rfl) Try.func11
    (ChangeSpec.witness6 (enc := enc) (C := Try.checked) false ⟨#[], #[.agg #[.slice none 0 0], .string ⟨#[]⟩], []⟩ 8 (by kernel_rfl) (by kernel_rfl) (by kernel_rfl) (by kernel_rfl)) ?_
  intro W base args ds gs before hval0 hW hcnd hsz0 _
  have hval : ∀ (j : Nat) t v, Try.f11.params[j]? = some t → args[j]? = some v → Value.okWide Try.prog W .any base t v := hval0
  have hsz : (DataW.weightsEach Try.prog (Try.f11.params.toList ++ Rows.natBackSpec.plain.varTypes Try.prog) (ds ++ gs)).all (· ≤ reachBytes) = true := hsz0
  have hW' := hW
  obtain ⟨p, q, hA0, hV, rfl, hfz, hnd⟩ := hW
  have hA : DataW.TrodAll enc Try.prog W 0 (fun _ => true) true Try.f11.params.toList args.toList ds p := hA0
  rw [Try.params11] at hA hval hsz
  obtain ⟨v0, vs0, d0, ds0, p0, q0, hargs, rfl, rfl, h0, r0⟩ := trodAll_cons hA
  obtain ⟨v1, vs1, d1, ds1, p1, q1, rfl, rfl, rfl, h1, r1⟩ := trodAll_cons r0
  obtain ⟨rfl, rfl, rfl⟩ := trodAll_nil r1
  obtain rfl : args = #[v0, v1] := by cases args; simp_all
  obtain ⟨rfl, rfl⟩ := trodVars_none hV
  have k0 := h0
  have lt0 : ∀ x ∈ p0, x.block < W.heap.size := by obtain ⟨m, hm⟩ := k0; exact DataW.trod_lt m _ _ _ hm
  obtain ⟨A0, n0, c0, l0, I0⟩ := open_nat (hval 0 35 v0 rfl rfl) h0 hsz (j := 0) rfl rfl
  obtain rfl := I0.val_
  obtain ⟨s1, rfl, rfl, rfl, w1⟩ := open_string Try.underlying9 (hval 1 9 v1 rfl rfl) h1
  have z1 := sized_string hsz (j := 1) rfl rfl
  clear hA0 hval0 hsz0
  simp only [List.append_nil] at hW'
  refine (walk A0 l0 n0 c0 s1 I0.len W I0.rd).mono fun e W' ⟨he, bel⟩ => ?_
  subst he
  exact ⟨_, rfl, _, _, _, [], _, [], hW', trodAll_cons_mk (shut_bool Try.underlying4 _) trodAll_mk0, trodAll_cons_mk (Below.trod laidOut (by kernel_rfl) (of_decide_eq_true (by kernel_rfl)) k0 bel lt0) (trodAll_cons_mk (shut_string Try.underlying9 w1) trodAll_mk0), rfl, bel.frame _, fun h => by cases h⟩

theorem over : Rows.natBackRow.holds Try.pinned (OpenSpec.ofChange Rows.natBackSpec) :=
  OpenClaim.holds_of_wide 11 Try.f11 rfl rfl rfl rfl rfl rfl rfl ⟨rfl, rfl, rfl, rfl, rfl⟩ rfl rfl rfl rfl rfl (by kernel_rfl) Try.func11 (by kernel_rfl)
    (of_decide_eq_true (by kernel_rfl)) (by unfold Func.isWrapper; first | (rw [if_pos (by decide +kernel)]; kernel_rfl) | (rw [if_neg (by decide +kernel)]; exact ⟨rfl, rfl⟩))
    (fun os started H enc _ => lifted os started H enc)

theorem proved : Rows.NatBackSaid := over
#print axioms proved
end Go.Proofs.Ytkepjhgafpbecaa.natBack
