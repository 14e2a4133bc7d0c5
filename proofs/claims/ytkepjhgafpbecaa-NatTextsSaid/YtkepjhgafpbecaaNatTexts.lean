/- NatTexts: of any number its text, of any text its number, or the fault and its place: the document's answers; each answer in memory of its own. No condition. -/
import Derived.Test.YtkepjhgafpbecaaRows
import Derived.Test.YtkepjhgafpbecaaSt
import Derived.Test.YtkepjhgafpbecaaSq
import Derived.Test.YtkepjhgafpbecaaPar
import Derived.Test.YtkepjhgafpbecaaRpar
import Derived.Test.YtkepjhgafpbecaaTx
import Derived.Test.YtkepjhgafpbecaaOpen
namespace Go.Proofs.Ytkepjhgafpbecaa.natTexts
open Go.ChangeShapes Go.WideShapes Go.ChangeAt Go.RowKit
open Go.ChangeMaps (open_string shut_string)
open Go.RowKit
set_option linter.unusedVariables false
set_option linter.unusedSimpArgs false
set_option maxHeartbeats 4000000
set_option maxRecDepth 100000

theorem walk (A : Option Addr) (l : List Nat) (n c : Nat) (s : ByteArray) (hn : n = l.length) (hsh : l.length * 4 ≤ 140737488351232) (w : World) (h0 : Rd w A l) :
    Calls Try.prog 5 #[.agg #[.slice A n c], .string s] w fun e w' => e = .returned (.bool true) ∧ Below w.heap.size w w' := by
  subst hn
  have hbs := sb_bts s
  have hs := bstr_sb s
  generalize sb s = ls at hbs hs
  subst hs
  go_enter Try.func5, Try.ntmps5
  go_wp2_with fail
  refine (lent_any A l _ c rfl hsh _ (h0.alloc _)).mono ?_
  rintro e w1 ⟨g, cap, rfl, k1, hb1⟩
  have Q0 := (((Sq.init w).put (.slice A l.length c)).below hb1).put (.slice (some ⟨g, 0, none⟩) l.length cap)
  have K0 : Lent (w1.alloc (.cells #[.slice (some ⟨g, 0, none⟩) l.length cap] 35)) w.heap.size g cap l := (k1.alloc _).mono (by simp)
  obtain ⟨q0, q0z, q0f⟩ := Q0.cell 0 rfl
  clear k1 hb1
  go_wp2_with fail
  refine (nat_Text _ l _ cap rfl _ K0.own.rd).mono ?_
  rintro e w2 ⟨rfl, hb2⟩
  have Q1 := Q0.below hb2
  have K1 := K0.below hb2
  clear Q0 K0 hb2 q0 q0z q0f
  obtain ⟨q1, q1z, q1f⟩ := Q1.cell 1 rfl
  go_wp2_with fail
  refine (ref_Text A l _ c rfl _ (Q1.rd h0)).mono ?_
  rintro e w3 ⟨rfl, hb3⟩
  have Q2 := Q1.below hb3
  have K2 := K1.below hb3
  clear Q1 K1 hb3 q1 q1z q1f
  have S0 := St.start (wk := w3) Q2.bel [(w1.heap.size, .slice (some ⟨g, 0, none⟩) l.length cap), (w.heap.size, .slice A l.length c)] [⟨g, cap, l⟩] Q2.cl (by intro x hx; simp at hx; subst hx; exact K2) (by simp)
  simp only [List.map] at S0
  clear Q2 K2
  go_wp2_with fail
  refine (nat_Parse ls hbs _).mono ?_
  rintro e w1 ⟨A2, c3, rfl, o4, hb5⟩
  have f7 := S0.fresh o4
  have S6 := S0.next hb5 o4
  clear S0 o4 hb5
  go_wp2_with fail
  have S8 := S6.put (.slice A2 (parseL ls).1.length c3)
  clear S6
  refine (ref_Parse ls hbs _).mono ?_
  rintro e w9 ⟨A10, c11, rfl, o12, hb13⟩
  have S14 := S8.next hb13 o12
  clear S8 o12 hb13
  obtain ⟨q16, q16z, q16f⟩ := S14.cell 0 rfl
  go_wp2_with fail
  have S17 := S14.put (.slice A10 (parseL ls).1.length c11)
  clear S14
  refine (st_adds S17 1 0 rfl rfl f7 (by simp) _ rfl rfl).mono ?_
  rintro e w18 ⟨gv19, wv20, rfl, S21⟩
  clear S17 f7
  obtain ⟨q22, q22z, q22f⟩ := S21.cell 0 rfl
  go_wp2_with fail
  refine (nat_Parse ls hbs _).mono ?_
  rintro e w23 ⟨A24, c25, rfl, o26, hb27⟩
  have f29 := S21.fresh o26
  have S28 := S21.next hb27 o26
  clear S21 o26 hb27
  obtain ⟨q30, q30z, q30f⟩ := S28.cell 0 rfl
  go_wp2_with fail
  have S31 := S28.put (.slice A24 (parseL ls).1.length c25)
  clear S28
  refine (st_adds S31 0 1 rfl rfl f29 (by simp) _ rfl rfl).mono ?_
  rintro e w32 ⟨gv33, wv34, rfl, S35⟩
  clear S31 f29
  obtain ⟨q36, q36z, q36f⟩ := S35.cell 3 rfl
  obtain ⟨q37, q37z, q37f⟩ := S35.cell 4 rfl
  have e2 : ((textS l).2 == (textS l).2) = true := beq_self_eq_true _
  have e3 : ((parseL ls).2.1 == (parseL ls).2.1) = true := beq_self_eq_true _
  go_wp2_with fail
  refine (kept_any A l _ c _ cap g w.heap.size rfl rfl hsh _ (S35.rd h0) (S35.ln _ (List.mem_of_getElem? (i := 0) rfl))).mono ?_
  rintro e w38 ⟨rfl, hb39⟩
  have S40 := S35.below hb39
  clear S35 hb39
  obtain ⟨q41, q41z, q41f⟩ := S40.cell 3 rfl
  obtain ⟨q42, q42z, q42f⟩ := S40.cell 4 rfl
  go_wp2_with fail
  refine (st_stands (S40.below ((Below.refl _ _).alloc (Nat.le_refl _) _)) (by simp) (by simp) (by simp) (some ⟨w38.heap.size, 0, none⟩) 1 1 rfl (fun _ => ⟨_, rfl, World.news_of_block (heap_alloc_new _ _)⟩)).mono ?_
  rintro e wz ⟨rfl, hz⟩
  go_wp2
  go_ret
  exact ⟨rfl, hz⟩

theorem own : ownKnob Try.prog.godebug = none := by kernel_rfl
theorem laidOut : laidOutB Try.prog = true := by kernel_rfl

theorem lifted (os : Os) (started : os.Started) (H : Type) (enc : TypeId × Value → H) :
    ReturnsInHanded {} Try.checked os 5 .any (Rows.natTextsSpec.pre6 enc Try.prog Try.f5 Rows.natTextsRow.domain false) (Rows.natTextsSpec.post enc Try.prog Try.f5 false true false false) := by
  refine returnsInHanded_of_change_sized (C := Try.checked) own started (by kernel_rfl) Try.func5
    (ChangeSpec.witness6 (enc := enc) (C := Try.checked) false ⟨#[], #[.agg #[.slice none 0 0], .string ⟨#[]⟩], []⟩ 8 (by kernel_rfl) (by kernel_rfl) (by kernel_rfl) (by kernel_rfl)) ?_
  intro W base args ds gs before hval0 hW hcnd hsz0 _
  have hval : ∀ (j : Nat) t v, Try.f5.params[j]? = some t → args[j]? = some v → Value.okWide Try.prog W .any base t v := hval0
  have hsz : (DataW.weightsEach Try.prog (Try.f5.params.toList ++ Rows.natTextsSpec.plain.varTypes Try.prog) (ds ++ gs)).all (· ≤ reachBytes) = true := hsz0
  have hW' := hW
  obtain ⟨p, q, hA0, hV, rfl, hfz, hnd⟩ := hW
  have hA : DataW.TrodAll enc Try.prog W 0 (fun _ => true) true Try.f5.params.toList args.toList ds p := hA0
  rw [Try.params5] at hA hval hsz
  obtain ⟨v0, vs0, d0, ds0, p0, q0, hargs, rfl, rfl, h0, r0⟩ := trodAll_cons hA
  obtain ⟨v1, vs1, d1, ds1, p1, q1, rfl, rfl, rfl, h1, r1⟩ := trodAll_cons r0
  obtain ⟨rfl, rfl, rfl⟩ := trodAll_nil r1
  obtain rfl : args = #[v0, v1] := by cases args; simp_all
  obtain ⟨rfl, rfl⟩ := trodVars_none hV
  have k0 := h0
  have lt0 : ∀ x ∈ p0, x.block < W.heap.size := by obtain ⟨m, hm⟩ := k0; exact DataW.trod_lt m _ _ _ hm
  obtain ⟨A0, n0, c0, l0, I0⟩ := open_nat (hval 0 35 v0 rfl rfl) h0 hsz (j := 0) rfl rfl
  obtain rfl := I0.val_
  obtain ⟨s1, rfl, rfl, rfl, w1⟩ := open_string Try.underlying9 (hval 1 9 v1 rfl rfl) h1
  have z1 := sized_string hsz (j := 1) rfl rfl
  clear hA0 hval0 hsz0
  simp only [List.append_nil] at hW'
  refine (walk A0 l0 n0 c0 s1 I0.len I0.short W I0.rd).mono fun e W' ⟨he, bel⟩ => ?_
  subst he
  exact ⟨_, rfl, _, _, _, [], _, [], hW', trodAll_cons_mk (shut_bool Try.underlying4 _) trodAll_mk0, trodAll_cons_mk (Below.trod laidOut (by kernel_rfl) (of_decide_eq_true (by kernel_rfl)) k0 bel lt0) (trodAll_cons_mk (shut_string Try.underlying9 w1) trodAll_mk0), rfl, bel.frame _, fun h => by cases h⟩

theorem over : Rows.natTextsRow.holds Try.pinned (OpenSpec.ofChange Rows.natTextsSpec) :=
  OpenClaim.holds_of_wide 5 Try.f5 rfl rfl rfl rfl rfl rfl rfl ⟨rfl, rfl, rfl, rfl, rfl⟩ rfl rfl rfl rfl rfl (by kernel_rfl) Try.func5 (by kernel_rfl)
    (of_decide_eq_true (by kernel_rfl)) (by unfold Func.isWrapper; first | (rw [if_pos (by decide +kernel)]; kernel_rfl) | (rw [if_neg (by decide +kernel)]; exact ⟨rfl, rfl⟩))
    (fun os started H enc _ => lifted os started H enc)

theorem proved : Rows.NatTextsSaid := over
#print axioms proved
end Go.Proofs.Ytkepjhgafpbecaa.natTexts
