/- FormJoin: of any form and fields the bits, or the error: the document's. No condition. -/
import Derived.Test.YtmneicbagcimdaaRows
import Derived.Test.YtmneicbagcimdaaFoC
import Derived.Test.YtmneicbagcimdaaFoH
import Derived.ProofKit
import Derived.OpenShut
import Derived.ShutString
import Derived.ChangeOld
import Derived.SizedLaws
import Derived.Below
import Derived.Lib.SmallJoins
namespace Go.Proofs.Ytmneicbagcimdaa.formJoin
open Go.ChangeShapes Go.WideShapes Go.ChangeAt Go.RowKit Go.Joins
open Go.ChangeMaps (open_string shut_string)
open Go.RowKit
set_option linter.unusedVariables false
set_option linter.unusedSimpArgs false
set_option maxHeartbeats 4000000
set_option maxRecDepth 100000

theorem walk (e f X : Int) (ng : Bool) (Y : Int) (hx : -9223372036854775808 ≤ X ∧ X ≤ 9223372036854775807) (hy : 0 ≤ Y ∧ Y ≤ 18446744073709551615) (w : World) :
    Calls Try.prog 3 #[.agg #[.int .i64 e, .int .i64 f], .agg #[.bool ng, .int .i64 X, .int .u64 Y]] w fun e w' => e = .returned (.bool true) ∧ Below w.heap.size w w' := by
  obtain ⟨hx1, hx2⟩ := hx
  obtain ⟨y, rfl⟩ : ∃ y : Nat, Y = (y : Int) := ⟨Y.toNat, by omega⟩
  have hy64 : y < 18446744073709551616 := by omega
  go_enter Try.func3, Try.ntmps3
  go_wp2_with fail
  refine (awake_any _).mono ?_
  rintro r w1 ⟨rfl, hb1⟩
  have hbw1 : Below w.heap.size w w1 := (((Below.refl w.heap.size w).alloc (Nat.le_refl _) _).alloc (by simp) _).trans (hb1.mono (by simp; omega))
  have c0 : w1.cell? ⟨w.heap.size, 0, none⟩ = some (.int .i64 e) := by rw [hb1.cell (p := ⟨w.heap.size, 0, none⟩) (by simp; omega)]; simp
  have c1 : w1.cell? ⟨w.heap.size, 1, none⟩ = some (.int .i64 f) := by rw [hb1.cell (p := ⟨w.heap.size, 1, none⟩) (by simp; omega)]; simp
  have c2 : w1.cell? ⟨w.heap.size + 1, 0, none⟩ = some (.bool ng) := by rw [hb1.cell (p := ⟨w.heap.size + 1, 0, none⟩) (by simp)]; simp
  have c3 : w1.cell? ⟨w.heap.size + 1, 1, none⟩ = some (.int .i64 X) := by rw [hb1.cell (p := ⟨w.heap.size + 1, 1, none⟩) (by simp)]; simp
  have c4 : w1.cell? ⟨w.heap.size + 1, 2, none⟩ = some (.int .u64 (y : Int)) := by rw [hb1.cell (p := ⟨w.heap.size + 1, 2, none⟩) (by simp)]; simp
  go_wp2_with fail
  refine (forms_Join e f X ng _ y rfl hy64 hx1 hx2 _).mono ?_
  rintro r w2 ⟨rfl, hb2⟩
  have d0 := cell_keep hb2 c0
  have d1 := cell_keep hb2 c1
  have d2 := cell_keep hb2 c2
  have d3 := cell_keep hb2 c3
  have d4 := cell_keep hb2 c4
  have hbw2 := hbw1.trans (hb2.mono hbw1.size)
  clear hb1 hb2
  go_wp2_with fail
  refine (ref_Join e f X ng _ y rfl hy64 hx1 hx2 _).mono ?_
  rintro r w3 ⟨rfl, hb3⟩
  have hbw3 := hbw2.trans (hb3.mono hbw2.size)
  go_wp2
  go_ret
  exact ⟨rfl, hbw3⟩

theorem own : ownKnob Try.prog.godebug = none := by kernel_rfl
theorem laidOut : laidOutB Try.prog = true := by kernel_rfl

theorem lifted (os : Os) (started : os.Started) (H : Type) (enc : TypeId × Value → H) :
    ReturnsInHanded {} Try.checked os 3 .any (Rows.formJoinSpec.pre6 enc Try.prog Try.f3 Rows.formJoinRow.domain false) (Rows.formJoinSpec.post enc Try.prog Try.f3 false true false false) := by
  refine returnsInHanded_of_change_sized (C := Try.checked) own started (by kernel_rfl) Try.func3
    (ChangeSpec.witness6 (enc := enc) (C := Try.checked) false ⟨#[], #[.agg #[.int .i64 0, .int .i64 0], .agg #[.bool false, .int .i64 0, .int .u64 0]], []⟩ 8 (by kernel_rfl) (by kernel_rfl) (by kernel_rfl) (by kernel_rfl)) ?_
  intro W base args ds gs before hval0 hW hcnd hsz0 _
  have hval : ∀ (j : Nat) t v, Try.f3.params[j]? = some t → args[j]? = some v → Value.okWide Try.prog W .any base t v := hval0
  have hsz : (DataW.weightsEach Try.prog (Try.f3.params.toList ++ Rows.formJoinSpec.plain.varTypes Try.prog) (ds ++ gs)).all (· ≤ reachBytes) = true := hsz0
  have hW' := hW
  obtain ⟨p, q, hA0, hV, rfl, hfz, hnd⟩ := hW
  have hA : DataW.TrodAll enc Try.prog W 0 (fun _ => true) true Try.f3.params.toList args.toList ds p := hA0
  rw [Try.params3] at hA hval hsz
  obtain ⟨v0, vs0, d0, ds0, p0, q0, hargs, rfl, rfl, h0, r0⟩ := trodAll_cons hA
  obtain ⟨v1, vs1, d1, ds1, p1, q1, rfl, rfl, rfl, h1, r1⟩ := trodAll_cons r0
  obtain ⟨rfl, rfl, rfl⟩ := trodAll_nil r1
  obtain rfl : args = #[v0, v1] := by cases args; simp_all
  obtain ⟨rfl, rfl⟩ := trodVars_none hV
  have k0 := h0
  have lt0 : ∀ x ∈ p0, x.block < W.heap.size := by obtain ⟨m, hm⟩ := k0; exact DataW.trod_lt m _ _ _ hm
  obtain ⟨ca0, cb0, ya0, yb0, nn0, hv0, _, _, ga0, gb0⟩ := open_agg2 Try.underlying23 (by kernel_rfl) (by kernel_rfl) (hval 0 23 v0 rfl rfl) h0
  obtain ⟨e0, he0, _, we0⟩ := DataW.trod_int Try.underlying3 ga0
  obtain ⟨f0, hf0, _, wf0⟩ := DataW.trod_int Try.underlying3 gb0
  obtain rfl : ca0 = .int .i64 e0 := by simpa using he0
  obtain rfl : cb0 = .int .i64 f0 := by simpa using hf0
  subst hv0
  have be0 := bounds_i64 we0
  have bf0 := bounds_i64 wf0
  have k1 := h1
  have lt1 : ∀ x ∈ p1, x.block < W.heap.size := by obtain ⟨m, hm⟩ := k1; exact DataW.trod_lt m _ _ _ hm
  obtain ⟨ca1, cb1, cc1, ya1, yb1, yc1, nn1, hv1, _, _, ga1, gb1, gc1⟩ := open_agg3 Try.underlying26 (by kernel_rfl) (by kernel_rfl) (hval 1 26 v1 rfl rfl) h1
  obtain ⟨ng1, hn1, _⟩ := DataW.trod_bool Try.underlying4 ga1
  obtain ⟨x1, hx1, _, wx1⟩ := DataW.trod_int Try.underlying3 gb1
  obtain ⟨y1, hy1, _, wy1⟩ := DataW.trod_int Try.underlying24 gc1
  obtain rfl : ca1 = .bool ng1 := by simpa using hn1
  obtain rfl : cb1 = .int .i64 x1 := by simpa using hx1
  obtain rfl : cc1 = .int .u64 y1 := by simpa using hy1
  subst hv1
  have bx1 := bounds_i64 wx1
  have by1 := bounds_u64 wy1
  clear hA0 hval0 hsz0
  simp only [List.append_nil] at hW'
  refine (walk e0 f0 x1 ng1 y1 bx1 by1 W).mono fun e W' ⟨he, bel⟩ => ?_
  subst he
  exact ⟨_, rfl, _, _, _, [], _, [], hW', trodAll_cons_mk (shut_bool Try.underlying4 _) trodAll_mk0, trodAll_cons_mk (Below.trod laidOut (by kernel_rfl) (of_decide_eq_true (by kernel_rfl)) k0 bel lt0) (trodAll_cons_mk (Below.trod laidOut (by kernel_rfl) (of_decide_eq_true (by kernel_rfl)) k1 bel lt1) trodAll_mk0), rfl, bel.frame _, fun h => by cases h⟩

theorem over : Rows.formJoinRow.holds Try.pinned (OpenSpec.ofChange Rows.formJoinSpec) :=
  OpenClaim.holds_of_wide 3 Try.f3 rfl rfl rfl rfl rfl rfl rfl ⟨rfl, rfl, rfl, rfl, rfl⟩ rfl rfl rfl rfl rfl (by kernel_rfl) Try.func3 (by kernel_rfl)
    (of_decide_eq_true (by kernel_rfl)) (by unfold Func.isWrapper; first | (rw [if_pos (by decide +kernel)]; kernel_rfl) | (rw [if_neg (by decide +kernel)]; exact ⟨rfl, rfl⟩))
    (fun os started H enc _ => lifted os started H enc)

theorem proved : Rows.FormJoinSaid := over
#print axioms proved
end Go.Proofs.Ytmneicbagcimdaa.formJoin
