/- FormKnown: of any form, sign and payload the floats that are known, and the range: the document's. No condition. -/
import Derived.Test.YtmneicbagcimdaaRows
import Derived.Test.YtmneicbagcimdaaFoK
import Derived.ProofKit
import Derived.OpenShut
import Derived.ShutString
import Derived.ChangeOld
import Derived.SizedLaws
import Derived.Below
import Derived.Lib.SmallJoins
namespace Go.Proofs.Ytmneicbagcimdaa.formKnown
open Go.ChangeShapes Go.WideShapes Go.ChangeAt Go.RowKit Go.Joins
open Go.ChangeMaps (open_string shut_string)
open Go.RowKit
set_option linter.unusedVariables false
set_option linter.unusedSimpArgs false
set_option maxHeartbeats 4000000
set_option maxRecDepth 100000

theorem walk (e f : Int) (ng : Bool) (Y : Int) (hy : 0 ≤ Y ∧ Y ≤ 18446744073709551615) (w : World) :
    Calls Try.prog 8 #[.agg #[.int .i64 e, .int .i64 f], .bool ng, .int .u64 Y] w fun e w' => e = .returned (.bool true) ∧ Below w.heap.size w w' := by
  obtain ⟨y, rfl⟩ : ∃ y : Nat, Y = (y : Int) := ⟨Y.toNat, by omega⟩
  have hy64 : y < 18446744073709551616 := by omega
  go_enter Try.func8, Try.ntmps8
  go_wp2_with fail
  refine (awake_any _).mono ?_
  rintro r w1 ⟨rfl, hb1⟩
  have hbw1 : Below w.heap.size w w1 := ((Below.refl w.heap.size w).alloc (Nat.le_refl _) _).trans (hb1.mono (by simp))
  have c0_1 : w1.cell? ⟨w.heap.size, 0, none⟩ = some (.int .i64 e) := by rw [hb1.cell (p := ⟨w.heap.size, 0, none⟩) (by simp)]; simp
  have c1_1 : w1.cell? ⟨w.heap.size, 1, none⟩ = some (.int .i64 f) := by rw [hb1.cell (p := ⟨w.heap.size, 1, none⟩) (by simp)]; simp
  clear hb1
  go_wp2_with fail
  refine (forms_Nought e f ng _).mono ?_
  rintro r w2 ⟨rfl, hb2⟩
  have hbw2 := hbw1.trans (hb2.mono hbw1.size)
  have c0_2 := cell_keep hb2 c0_1
  have c1_2 := cell_keep hb2 c1_1
  clear hb2 c0_1 c1_1 hbw1
  go_wp2_with fail
  refine (ref_Nought e f ng _).mono ?_
  rintro r w3 ⟨rfl, hb3⟩
  have hbw3 := hbw2.trans (hb3.mono hbw2.size)
  have c0_3 := cell_keep hb3 c0_2
  have c1_3 := cell_keep hb3 c1_2
  clear hb3 c0_2 c1_2 hbw2
  go_wp2_with fail
  refine (forms_Inf e f ng _).mono ?_
  rintro r w4 ⟨rfl, hb4⟩
  have hbw4 := hbw3.trans (hb4.mono hbw3.size)
  have c0_4 := cell_keep hb4 c0_3
  have c1_4 := cell_keep hb4 c1_3
  clear hb4 c0_3 c1_3 hbw3
  go_wp2_with fail
  refine (ref_Infinite e f ng _).mono ?_
  rintro r w5 ⟨rfl, hb5⟩
  have hbw5 := hbw4.trans (hb5.mono hbw4.size)
  have c0_5 := cell_keep hb5 c0_4
  have c1_5 := cell_keep hb5 c1_4
  clear hb5 c0_4 c1_4 hbw4
  go_wp2_with fail
  refine (forms_NaN e f ng _ y rfl hy64 _).mono ?_
  rintro r w6 ⟨rfl, hb6⟩
  have hbw6 := hbw5.trans (hb6.mono hbw5.size)
  have c0_6 := cell_keep hb6 c0_5
  have c1_6 := cell_keep hb6 c1_5
  clear hb6 c0_5 c1_5 hbw5
  go_wp2_with fail
  refine (ref_None e f ng _ y rfl hy64 _).mono ?_
  rintro r w7 ⟨rfl, hb7⟩
  have hbw7 := hbw6.trans (hb7.mono hbw6.size)
  have c0_7 := cell_keep hb7 c0_6
  have c1_7 := cell_keep hb7 c1_6
  clear hb7 c0_6 c1_6 hbw6
  go_wp2_with fail
  refine (forms_Greatest e f ng _).mono ?_
  rintro r w8 ⟨rfl, hb8⟩
  have hbw8 := hbw7.trans (hb8.mono hbw7.size)
  have c0_8 := cell_keep hb8 c0_7
  have c1_8 := cell_keep hb8 c1_7
  clear hb8 c0_7 c1_7 hbw7
  go_wp2_with fail
  refine (ref_Greatest e f ng _).mono ?_
  rintro r w9 ⟨rfl, hb9⟩
  have hbw9 := hbw8.trans (hb9.mono hbw8.size)
  have c0_9 := cell_keep hb9 c0_8
  have c1_9 := cell_keep hb9 c1_8
  clear hb9 c0_8 c1_8 hbw8
  go_wp2_with fail
  refine (forms_Normal e f ng _).mono ?_
  rintro r w10 ⟨rfl, hb10⟩
  have hbw10 := hbw9.trans (hb10.mono hbw9.size)
  have c0_10 := cell_keep hb10 c0_9
  have c1_10 := cell_keep hb10 c1_9
  clear hb10 c0_9 c1_9 hbw9
  go_wp2_with fail
  refine (ref_Normal e f ng _).mono ?_
  rintro r w11 ⟨rfl, hb11⟩
  have hbw11 := hbw10.trans (hb11.mono hbw10.size)
  have c0_11 := cell_keep hb11 c0_10
  have c1_11 := cell_keep hb11 c1_10
  clear hb11 c0_10 c1_10 hbw10
  go_wp2_with fail
  refine (forms_Least e f ng _).mono ?_
  rintro r w12 ⟨rfl, hb12⟩
  have hbw12 := hbw11.trans (hb12.mono hbw11.size)
  have c0_12 := cell_keep hb12 c0_11
  have c1_12 := cell_keep hb12 c1_11
  clear hb12 c0_11 c1_11 hbw11
  go_wp2_with fail
  refine (ref_Least e f ng _).mono ?_
  rintro r w13 ⟨rfl, hb13⟩
  have hbw13 := hbw12.trans (hb13.mono hbw12.size)
  have c0_13 := cell_keep hb13 c0_12
  have c1_13 := cell_keep hb13 c1_12
  clear hb13 c0_12 c1_12 hbw12
  go_wp2_with fail
  refine (forms_Range e f _).mono ?_
  rintro r w14 ⟨rfl, hb14⟩
  have hbw14 := hbw13.trans (hb14.mono hbw13.size)
  have c0_14 := cell_keep hb14 c0_13
  have c1_14 := cell_keep hb14 c1_13
  clear hb14 c0_13 c1_13 hbw13
  go_wp2_with fail
  refine (ref_Range e f _).mono ?_
  rintro r w15 ⟨rfl, hb15⟩
  have hbw15 := hbw14.trans (hb15.mono hbw14.size)
  have c0_15 := cell_keep hb15 c0_14
  have c1_15 := cell_keep hb15 c1_14
  clear hb15 c0_14 c1_14 hbw14
  go_wp2_with fail
  refine (forms_Brain _).mono ?_
  rintro r w16 ⟨rfl, hb16⟩
  have hbw16 := hbw15.trans (hb16.mono hbw15.size)
  have c0_16 := cell_keep hb16 c0_15
  have c1_16 := cell_keep hb16 c1_15
  clear hb16 c0_15 c1_15 hbw15
  go_wp2_with fail
  refine (forms_Single _).mono ?_
  rintro r w17 ⟨rfl, hb17⟩
  have hbw17 := hbw16.trans (hb17.mono hbw16.size)
  have c0_17 := cell_keep hb17 c0_16
  have c1_17 := cell_keep hb17 c1_16
  clear hb17 c0_16 c1_16 hbw16
  go_wp2_with fail
  refine (forms_Double _).mono ?_
  rintro r w18 ⟨rfl, hb18⟩
  have hbw18 := hbw17.trans (hb18.mono hbw17.size)
  have c0_18 := cell_keep hb18 c0_17
  have c1_18 := cell_keep hb18 c1_17
  clear hb18 c0_17 c1_17 hbw17
  go_wp2
  go_ret
  exact ⟨rfl, hbw18⟩

theorem own : ownKnob Try.prog.godebug = none := by kernel_rfl
theorem laidOut : laidOutB Try.prog = true := by kernel_rfl

theorem lifted (os : Os) (started : os.Started) (H : Type) (enc : TypeId × Value → H) :
    ReturnsInHanded {} Try.checked os 8 .any (Rows.formKnownSpec.pre6 enc Try.prog Try.f8 Rows.formKnownRow.domain false) (Rows.formKnownSpec.post enc Try.prog Try.f8 false true false false) := by
  refine returnsInHanded_of_change_sized (C := Try.checked) own started (by kernel_rfl) Try.func8
    (ChangeSpec.witness6 (enc := enc) (C := Try.checked) false ⟨#[], #[.agg #[.int .i64 0, .int .i64 0], .bool false, .int .u64 0], []⟩ 8 (by kernel_rfl) (by kernel_rfl) (by kernel_rfl) (by kernel_rfl)) ?_
  intro W base args ds gs before hval0 hW hcnd hsz0 _
  have hval : ∀ (j : Nat) t v, Try.f8.params[j]? = some t → args[j]? = some v → Value.okWide Try.prog W .any base t v := hval0
  have hsz : (DataW.weightsEach Try.prog (Try.f8.params.toList ++ Rows.formKnownSpec.plain.varTypes Try.prog) (ds ++ gs)).all (· ≤ reachBytes) = true := hsz0
  have hW' := hW
  obtain ⟨p, q, hA0, hV, rfl, hfz, hnd⟩ := hW
  have hA : DataW.TrodAll enc Try.prog W 0 (fun _ => true) true Try.f8.params.toList args.toList ds p := hA0
  rw [Try.params8] at hA hval hsz
  obtain ⟨v0, vs0, d0, ds0, p0, q0, hargs, rfl, rfl, h0, r0⟩ := trodAll_cons hA
  obtain ⟨v1, vs1, d1, ds1, p1, q1, rfl, rfl, rfl, h1, r1⟩ := trodAll_cons r0
  obtain ⟨v2, vs2, d2, ds2, p2, q2, rfl, rfl, rfl, h2, r2⟩ := trodAll_cons r1
  obtain ⟨rfl, rfl, rfl⟩ := trodAll_nil r2
  obtain rfl : args = #[v0, v1, v2] := by cases args; simp_all
  obtain ⟨rfl, rfl⟩ := trodVars_none hV
  have k0 := h0
  have lt0 : ∀ x ∈ p0, x.block < W.heap.size := by obtain ⟨m, hm⟩ := k0; exact DataW.trod_lt m _ _ _ hm
  obtain ⟨ca0, cb0, ya0, yb0, nn0, hv0, _, _, ga0, gb0⟩ := open_agg2 Try.underlying23 (by kernel_rfl) (by kernel_rfl) (hval 0 23 v0 rfl rfl) h0
  obtain ⟨e0, he0, _, we0⟩ := DataW.trod_int Try.underlying3 ga0
  obtain ⟨f0, hf0, _, wf0⟩ := DataW.trod_int Try.underlying3 gb0
  obtain rfl : ca0 = .int .i64 e0 := by simpa using he0
  obtain rfl : cb0 = .int .i64 f0 := by simpa using hf0
  subst hv0
  have be0 := bounds_i64 we0
  have bf0 := bounds_i64 wf0
  obtain ⟨a1, rfl, rfl, rfl⟩ := open_bool Try.underlying4 (hval 1 4 v1 rfl rfl) h1
  obtain ⟨a2, rfl, rfl, rfl, w2⟩ := open_int Try.underlying24 (hval 2 24 v2 rfl rfl) h2
  have b2 := bounds_u64 w2
  clear hA0 hval0 hsz0
  simp only [List.append_nil] at hW'
  refine (walk e0 f0 a1 a2 b2 W).mono fun e W' ⟨he, bel⟩ => ?_
  subst he
  exact ⟨_, rfl, _, _, _, [], _, [], hW', trodAll_cons_mk (shut_bool Try.underlying4 _) trodAll_mk0, trodAll_cons_mk (Below.trod laidOut (by kernel_rfl) (of_decide_eq_true (by kernel_rfl)) k0 bel lt0) (trodAll_cons_mk (shut_bool Try.underlying4 _) (trodAll_cons_mk (shut_int Try.underlying24 w2) trodAll_mk0)), rfl, bel.frame _, fun h => by cases h⟩

theorem over : Rows.formKnownRow.holds Try.pinned (OpenSpec.ofChange Rows.formKnownSpec) :=
  OpenClaim.holds_of_wide 8 Try.f8 rfl rfl rfl rfl rfl rfl rfl ⟨rfl, rfl, rfl, rfl, rfl⟩ rfl rfl rfl rfl rfl (by kernel_rfl) Try.func8 (by kernel_rfl)
    (of_decide_eq_true (by kernel_rfl)) (by unfold Func.isWrapper; first | (rw [if_pos (by decide +kernel)]; kernel_rfl) | (rw [if_neg (by decide +kernel)]; exact ⟨rfl, rfl⟩))
    (fun os started H enc _ => lifted os started H enc)

theorem proved : Rows.FormKnownSaid := over
#print axioms proved
end Go.Proofs.Ytmneicbagcimdaa.formKnown
