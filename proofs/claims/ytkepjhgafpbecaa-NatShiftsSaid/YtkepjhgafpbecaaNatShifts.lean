/- NatShifts: of any number and any int Up, Down, Bit; Bits, Low: the document's answers; each answer in memory of its own. No condition. -/
import Derived.Test.YtkepjhgafpbecaaRows
import Derived.Test.YtkepjhgafpbecaaSt
import Derived.Test.YtkepjhgafpbecaaUp
import Derived.Test.YtkepjhgafpbecaaDown
import Derived.Test.YtkepjhgafpbecaaLow
import Derived.Test.YtkepjhgafpbecaaOpen
namespace Go.Proofs.Ytkepjhgafpbecaa.natShifts
open Go.ChangeShapes Go.WideShapes Go.ChangeAt Go.RowKit
open Go.ChangeMaps (open_string shut_string)
open Go.RowKit
set_option linter.unusedVariables false
set_option linter.unusedSimpArgs false
set_option maxHeartbeats 4000000
set_option maxRecDepth 100000

theorem walk (A : Option Addr) (l : List Nat) (n c : Nat) (a1 : Int) (hn : n = l.length) (hsh : l.length * 4 ≤ 140737488351232) (b1l : -9223372036854775808 ≤ a1) (b1h : a1 ≤ 9223372036854775807) (w : World) (h0 : Rd w A l) :
    Calls Try.prog 6 #[.agg #[.slice A n c], .int .i64 a1] w fun e w' => e = .returned (.bool true) ∧ Below w.heap.size w w' := by
  subst hn
  go_enter Try.func6, Try.ntmps6
  go_wp2_with fail
  refine (lent_any A l _ c rfl hsh _ (h0.alloc _)).mono ?_
  rintro e w1 ⟨g, cap, rfl, k1, hb1⟩
  have hbw1 : Below w.heap.size w w1 := ((Below.refl w.heap.size w).alloc (Nat.le_refl _) _).trans (hb1.mono (by simp))
  have hz1 : w.heap.size < w1.heap.size := by have := hb1.size; simp at this; omega
  have q0 : w1.cell? ⟨w.heap.size, 0, none⟩ = some (.slice A l.length c) := by rw [hb1.cell (by simp)]; simp
  have q0f : w1.frozen? ⟨w.heap.size, 0, none⟩ = false := by rw [hb1.frozen (by simp)]; simp
  have S0 := St.start (wk := w1.alloc (.cells #[.slice (some ⟨g, 0, none⟩) l.length cap] 35)) (hbw1.alloc hbw1.size _) [(w1.heap.size, .slice (some ⟨g, 0, none⟩) l.length cap), (w.heap.size, .slice A l.length c)] [⟨g, cap, l⟩]
    (by
      intro p hp
      rcases List.mem_cons.1 hp with rfl | hp
      · exact ⟨by simp, by simp⟩
      · simp at hp; subst hp; exact ⟨(World.cell?_alloc_lt _ _ _ hz1).trans q0, (World.frozen?_alloc_past _ _ _ hz1).trans q0f⟩)
    (by intro x hx; simp at hx; subst hx; exact (k1.alloc _).mono (by simp)) (by simp)
  simp only [World.size_alloc, List.map] at S0
  clear k1 hb1
  go_wp2_with fail
  refine (nat_Up _ l _ cap rfl a1 b1l b1h _ (S0.lrd 0 rfl)).mono ?_
  rintro e w1 ⟨A2, c3, rfl, o4, hb5⟩
  have f7 := S0.fresh o4
  have S6 := (S0.below hb5).pend_ o4 (by have := S0.size; omega)
  clear S0 o4 hb5
  obtain ⟨q8, q8z, q8f⟩ := S6.cell 0 rfl
  obtain ⟨q9, q9z, q9f⟩ := S6.cell 1 rfl
  go_wp2_with fail
  have S10 := S6.put (.slice A2 (upS l a1).1.length c3)
  clear S6
  refine (ref_Up A l _ c rfl a1 b1l b1h _ (S10.rd h0)).mono ?_
  rintro e w11 ⟨A12, c13, rfl, o14, hb15⟩
  have S16 := (S10.below hb15).pend_ o14 (by have := S10.size; omega)
  clear S10 o14 hb15
  obtain ⟨q18, q18z, q18f⟩ := S16.cell 0 rfl
  obtain ⟨q19, q19z, q19f⟩ := S16.cell 1 rfl
  obtain ⟨q20, q20z, q20f⟩ := S16.cell 2 rfl
  go_wp2_with fail
  have S21 := S16.put (.slice A12 (upS l a1).1.length c13)
  clear S16
  refine (st_adds S21 1 0 rfl rfl f7 (by simp) _ rfl rfl).mono ?_
  rintro e w22 ⟨gv23, wv24, rfl, S25⟩
  clear S21 f7
  obtain ⟨q26, q26z, q26f⟩ := S25.cell 2 rfl
  obtain ⟨q27, q27z, q27f⟩ := S25.cell 3 rfl
  go_wp2_with fail
  refine (nat_Down _ l _ cap rfl (by have := (S25.ln _ (List.mem_of_getElem? (i := 0) rfl)).2.1; simp at this; omega) a1 b1l b1h _ (S25.lrd 0 rfl)).mono ?_
  rintro e w28 ⟨A29, c30, rfl, o31, hb32⟩
  have f34 := S25.fresh o31
  have S33 := (S25.below hb32).pend_ o31 (by have := S25.size; omega)
  clear S25 o31 hb32
  obtain ⟨q35, q35z, q35f⟩ := S33.cell 2 rfl
  obtain ⟨q36, q36z, q36f⟩ := S33.cell 3 rfl
  go_wp2_with fail
  have S37 := S33.put (.slice A29 (downS l a1).1.length c30)
  clear S33
  refine (ref_Down A l _ c rfl a1 b1l b1h _ (S37.rd h0)).mono ?_
  rintro e w38 ⟨A39, c40, rfl, o41, hb42⟩
  have S43 := (S37.below hb42).pend_ o41 (by have := S37.size; omega)
  clear S37 o41 hb42
  obtain ⟨q45, q45z, q45f⟩ := S43.cell 0 rfl
  obtain ⟨q46, q46z, q46f⟩ := S43.cell 3 rfl
  obtain ⟨q47, q47z, q47f⟩ := S43.cell 4 rfl
  go_wp2_with fail
  have S48 := S43.put (.slice A39 (downS l a1).1.length c40)
  clear S43
  refine (st_adds S48 1 0 rfl rfl f34 (by simp) _ rfl rfl).mono ?_
  rintro e w49 ⟨gv50, wv51, rfl, S52⟩
  clear S48 f34
  obtain ⟨q53, q53z, q53f⟩ := S52.cell 4 rfl
  obtain ⟨q54, q54z, q54f⟩ := S52.cell 5 rfl
  go_wp2_with fail
  refine (nat_Down _ l _ cap rfl (by have := (S52.ln _ (List.mem_of_getElem? (i := 0) rfl)).2.1; simp at this; omega) 0 (by omega) (by omega) _ (S52.lrd 0 rfl)).mono ?_
  rintro e w55 ⟨A56, c57, rfl, o58, hb59⟩
  have f61 := S52.fresh o58
  have S60 := (S52.below hb59).pend_ o58 (by have := S52.size; omega)
  clear S52 o58 hb59
  obtain ⟨q62, q62z, q62f⟩ := S60.cell 4 rfl
  obtain ⟨q63, q63z, q63f⟩ := S60.cell 5 rfl
  go_wp2_with fail
  have S64 := S60.put (.slice A56 (downS l 0).1.length c57)
  clear S60
  refine (ref_Down A l _ c rfl 0 (by omega) (by omega) _ (S64.rd h0)).mono ?_
  rintro e w65 ⟨A66, c67, rfl, o68, hb69⟩
  have S70 := (S64.below hb69).pend_ o68 (by have := S64.size; omega)
  clear S64 o68 hb69
  obtain ⟨q72, q72z, q72f⟩ := S70.cell 0 rfl
  obtain ⟨q73, q73z, q73f⟩ := S70.cell 5 rfl
  obtain ⟨q74, q74z, q74f⟩ := S70.cell 6 rfl
  go_wp2_with fail
  have S75 := S70.put (.slice A66 (downS l 0).1.length c67)
  clear S70
  refine (st_adds S75 1 0 rfl rfl f61 (by simp) _ rfl rfl).mono ?_
  rintro e w76 ⟨gv77, wv78, rfl, S79⟩
  clear S75 f61
  obtain ⟨q80, q80z, q80f⟩ := S79.cell 6 rfl
  obtain ⟨q81, q81z, q81f⟩ := S79.cell 7 rfl
  go_wp2_with fail
  refine (nat_Bits _ l _ cap rfl _ (S79.lrd 0 rfl)).mono ?_
  rintro e w82 ⟨rfl, hb83⟩
  have S84 := S79.below hb83
  clear S79 hb83
  obtain ⟨q85, q85z, q85f⟩ := S84.cell 6 rfl
  obtain ⟨q86, q86z, q86f⟩ := S84.cell 7 rfl
  go_wp2_with fail
  refine (ref_Bits A l _ c rfl _ (S84.rd h0)).mono ?_
  rintro e w87 ⟨rfl, hb88⟩
  have S89 := S84.below hb88
  clear S84 hb88
  obtain ⟨q90, q90z, q90f⟩ := S89.cell 6 rfl
  obtain ⟨q91, q91z, q91f⟩ := S89.cell 7 rfl
  go_wp2_with fail
  refine (nat_Bit _ l _ cap rfl a1 b1l b1h _ (S89.lrd 0 rfl)).mono ?_
  rintro e w92 ⟨rfl, hb93⟩
  have S94 := S89.below hb93
  clear S89 hb93
  obtain ⟨q95, q95z, q95f⟩ := S94.cell 6 rfl
  obtain ⟨q96, q96z, q96f⟩ := S94.cell 7 rfl
  go_wp2_with fail
  refine (ref_Bit A l _ c rfl a1 b1l b1h _ (S94.rd h0)).mono ?_
  rintro e w97 ⟨rfl, hb98⟩
  have S99 := S94.below hb98
  clear S94 hb98
  obtain ⟨q100, q100z, q100f⟩ := S99.cell 6 rfl
  obtain ⟨q101, q101z, q101f⟩ := S99.cell 7 rfl
  go_wp2_with fail
  refine (nat_Low _ l _ cap rfl _ (S99.lrd 0 rfl)).mono ?_
  rintro e w102 ⟨rfl, hb103⟩
  have S104 := S99.below hb103
  clear S99 hb103
  obtain ⟨q105, q105z, q105f⟩ := S104.cell 6 rfl
  obtain ⟨q106, q106z, q106f⟩ := S104.cell 7 rfl
  go_wp2_with fail
  refine (ref_Low A l _ c rfl _ (S104.rd h0)).mono ?_
  rintro e w107 ⟨rfl, hb108⟩
  have S109 := S104.below hb108
  clear S104 hb108
  obtain ⟨q110, q110z, q110f⟩ := S109.cell 6 rfl
  obtain ⟨q111, q111z, q111f⟩ := S109.cell 7 rfl
  have e1 : ((bitsS l).1 != (bitsS l).1) = false := bne_self_eq_false _
  have e2 : ((bitsS l).2 != (bitsS l).2) = false := bne_self_eq_false _
  have e3 : ((bitS l a1).1 != (bitS l a1).1) = false := bne_self_eq_false _
  have e4 : ((bitS l a1).2 != (bitS l a1).2) = false := bne_self_eq_false _
  have e5 : ((((lowS l).1 : Nat) : Int) != (((lowS l).1 : Nat) : Int)) = false := bne_self_eq_false _
  have e6 : ((lowS l).2 != (lowS l).2) = false := bne_self_eq_false _
  have e3b : ((bitS l a1).1 == (bitS l a1).1) = true := beq_self_eq_true _
  go_wp2_with fail
  refine (kept_any A l _ c _ cap g w.heap.size rfl rfl hsh _ (S109.rd h0) (S109.ln _ (List.mem_of_getElem? (i := 0) rfl))).mono ?_
  rintro e w112 ⟨rfl, hb113⟩
  have S114 := S109.below hb113
  clear S109 hb113
  obtain ⟨q115, q115z, q115f⟩ := S114.cell 6 rfl
  obtain ⟨q116, q116z, q116f⟩ := S114.cell 7 rfl
  go_wp2_with fail
  refine (st_stands (S114.below ((Below.refl _ _).alloc (Nat.le_refl _) _)) (by simp) (by simp) (by simp) (some ⟨w112.heap.size, 0, none⟩) 1 1 rfl (fun _ => ⟨_, rfl, World.news_of_block (heap_alloc_new _ _)⟩)).mono ?_
  rintro e wz ⟨rfl, hz⟩
  go_wp2
  go_ret
  exact ⟨rfl, hz⟩

theorem own : ownKnob Try.prog.godebug = none := by kernel_rfl
theorem laidOut : laidOutB Try.prog = true := by kernel_rfl

theorem lifted (os : Os) (started : os.Started) (H : Type) (enc : TypeId × Value → H) :
    ReturnsInHanded {} Try.checked os 6 .any (Rows.natShiftsSpec.pre6 enc Try.prog Try.f6 Rows.natShiftsRow.domain false) (Rows.natShiftsSpec.post enc Try.prog Try.f6 false true false false) := by
  refine returnsInHanded_of_change_sized (C := Try.checked) own started (by kernel_rfl) Try.func6
    (ChangeSpec.witness6 (enc := enc) (C := Try.checked) false ⟨#[], #[.agg #[.slice none 0 0], .int .i64 0], []⟩ 8 (by kernel_rfl) (by kernel_rfl) (by kernel_rfl) (by kernel_rfl)) ?_
  intro W base args ds gs before hval0 hW hcnd hsz0 _
  have hval : ∀ (j : Nat) t v, Try.f6.params[j]? = some t → args[j]? = some v → Value.okWide Try.prog W .any base t v := hval0
  have hsz : (DataW.weightsEach Try.prog (Try.f6.params.toList ++ Rows.natShiftsSpec.plain.varTypes Try.prog) (ds ++ gs)).all (· ≤ reachBytes) = true := hsz0
  have hW' := hW
  obtain ⟨p, q, hA0, hV, rfl, hfz, hnd⟩ := hW
  have hA : DataW.TrodAll enc Try.prog W 0 (fun _ => true) true Try.f6.params.toList args.toList ds p := hA0
  rw [Try.params6] at hA hval hsz
  obtain ⟨v0, vs0, d0, ds0, p0, q0, hargs, rfl, rfl, h0, r0⟩ := trodAll_cons hA
  obtain ⟨v1, vs1, d1, ds1, p1, q1, rfl, rfl, rfl, h1, r1⟩ := trodAll_cons r0
  obtain ⟨rfl, rfl, rfl⟩ := trodAll_nil r1
  obtain rfl : args = #[v0, v1] := by cases args; simp_all
  obtain ⟨rfl, rfl⟩ := trodVars_none hV
  have k0 := h0
  have lt0 : ∀ x ∈ p0, x.block < W.heap.size := by obtain ⟨m, hm⟩ := k0; exact DataW.trod_lt m _ _ _ hm
  obtain ⟨A0, n0, c0, l0, I0⟩ := open_nat (hval 0 35 v0 rfl rfl) h0 hsz (j := 0) rfl rfl
  obtain rfl := I0.val_
  obtain ⟨a1, rfl, rfl, rfl, w1⟩ := open_int Try.underlying3 (hval 1 3 v1 rfl rfl) h1
  have b1 := bounds_i64 w1
  clear hA0 hval0 hsz0
  simp only [List.append_nil] at hW'
  refine (walk A0 l0 n0 c0 a1 I0.len I0.short b1.1 b1.2 W I0.rd).mono fun e W' ⟨he, bel⟩ => ?_
  subst he
  exact ⟨_, rfl, _, _, _, [], _, [], hW', trodAll_cons_mk (shut_bool Try.underlying4 _) trodAll_mk0, trodAll_cons_mk (Below.trod laidOut (by kernel_rfl) (of_decide_eq_true (by kernel_rfl)) k0 bel lt0) (trodAll_cons_mk (shut_int Try.underlying3 w1) trodAll_mk0), rfl, bel.frame _, fun h => by cases h⟩

theorem over : Rows.natShiftsRow.holds Try.pinned (OpenSpec.ofChange Rows.natShiftsSpec) :=
  OpenClaim.holds_of_wide 6 Try.f6 rfl rfl rfl rfl rfl rfl rfl ⟨rfl, rfl, rfl, rfl, rfl⟩ rfl rfl rfl rfl rfl (by kernel_rfl) Try.func6 (by kernel_rfl)
    (of_decide_eq_true (by kernel_rfl)) (by unfold Func.isWrapper; first | (rw [if_pos (by decide +kernel)]; kernel_rfl) | (rw [if_neg (by decide +kernel)]; exact ⟨rfl, rfl⟩))
    (fun os started H enc _ => lifted os started H enc)

theorem proved : Rows.NatShiftsSaid := over
#print axioms proved
end Go.Proofs.Ytkepjhgafpbecaa.natShifts
