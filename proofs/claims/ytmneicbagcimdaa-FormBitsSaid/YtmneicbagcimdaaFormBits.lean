/- FormBits: of any form and bits: may they be, the fields, the class, the payload: the document's. No condition. -/
import Derived.Test.YtmneicbagcimdaaRows
import Derived.Test.YtmneicbagcimdaaFoQ
import Derived.Test.YtmneicbagcimdaaFoH
import Derived.ProofKit
import Derived.OpenShut
import Derived.ShutString
import Derived.ChangeOld
import Derived.SizedLaws
import Derived.Below
import Derived.Lib.SmallJoins
namespace Go.Proofs.Ytmneicbagcimdaa.formBits
open Go.ChangeShapes Go.WideShapes Go.ChangeAt Go.RowKit Go.Joins
open Go.ChangeMaps (open_string shut_string)
open Go.RowKit
set_option linter.unusedVariables false
set_option linter.unusedSimpArgs false
set_option maxHeartbeats 4000000
set_option maxRecDepth 100000

theorem walk (e f : Int) (B : Int) (hy : 0 ≤ B ∧ B ≤ 18446744073709551615) (w : World) :
    Calls Try.prog 5 #[.agg #[.int .i64 e, .int .i64 f], .int .u64 B] w fun e w' => e = .returned (.bool true) ∧ Below w.heap.size w w' := by
  obtain ⟨b, rfl⟩ : ∃ b : Nat, B = (b : Int) := ⟨B.toNat, by omega⟩
  have hb64 : b < 18446744073709551616 := by omega
  have k1 := forms_Split e f (b : Int) b rfl hb64
  have k2 := ref_Split e f (b : Int) b rfl hb64
  have k3 := forms_Class e f (b : Int) b rfl hb64
  have k4 := ref_Class e f (b : Int) b rfl hb64
  have k5 := forms_Payload e f (b : Int) b rfl hb64
  have k6 := ref_Payload e f (b : Int) b rfl hb64
  have k7 := forms_Check e f
  have k8 := ref_Check e f
  have k9 := forms_Fits e f (b : Int) b rfl hb64
  have k10 := ref_Fits e f (b : Int) b rfl hb64
  generalize splitS e f b = s at *
  generalize classS e f b = c at *
  generalize payS e f b = p at *
  generalize chkF e f = ch at *
  generalize fitS e f b = ft at *
  obtain ⟨⟨ng, X, Y⟩, es⟩ := s
  obtain ⟨c, ec⟩ := c
  obtain ⟨⟨pn, pq⟩, ep⟩ := p
  dsimp only at k1 k2 k3 k4 k5 k6
  go_enter Try.func5, Try.ntmps5
  go_wp2_with fail
  refine (awake_any _).mono ?_
  rintro r w1 ⟨rfl, hb1⟩
  have hbw1 : Below w.heap.size w w1 := ((Below.refl w.heap.size w).alloc (Nat.le_refl _) _).trans (hb1.mono (by simp))
  have c0_1 : w1.cell? ⟨w.heap.size, 0, none⟩ = some (.int .i64 e) := by rw [hb1.cell (p := ⟨w.heap.size, 0, none⟩) (by simp)]; simp
  have c1_1 : w1.cell? ⟨w.heap.size, 1, none⟩ = some (.int .i64 f) := by rw [hb1.cell (p := ⟨w.heap.size, 1, none⟩) (by simp)]; simp
  have z1 : w.heap.size < w1.heap.size := cell_lt c0_1
  clear hb1
  go_wp2_with fail
  refine (k1 _).mono ?_
  rintro r w2 ⟨rfl, hb2⟩
  have hB2 := hb2
  clear hb2
  have hbw2 := hbw1.trans (hB2.mono hbw1.size)
  have c0_2 := cell_keep hB2 c0_1
  have c1_2 := cell_keep hB2 c1_1
  have z2 := cell_lt c0_2
  simp only at z2
  clear c0_1 c1_1 hbw1 hB2 z1
  go_wp2_with fail
  refine (k2 _).mono ?_
  rintro r w3 ⟨rfl, hb3⟩
  have hB3 : Below w2.heap.size w2 w3 := ((Below.refl w2.heap.size w2).alloc (Nat.le_refl _) _).trans (hb3.mono (by simp))
  have q10_3 : w3.cell? ⟨w2.heap.size, 0, none⟩ = some (.bool ng) := by rw [hb3.cell (p := ⟨w2.heap.size, 0, none⟩) (by simp)]; simp
  have q11_3 : w3.cell? ⟨w2.heap.size, 1, none⟩ = some (.int .i64 (X : Int)) := by rw [hb3.cell (p := ⟨w2.heap.size, 1, none⟩) (by simp)]; simp
  have q12_3 : w3.cell? ⟨w2.heap.size, 2, none⟩ = some (.int .u64 (Y : Int)) := by rw [hb3.cell (p := ⟨w2.heap.size, 2, none⟩) (by simp)]; simp
  have y1_3 : w2.heap.size < w3.heap.size := cell_lt q10_3
  clear hb3
  have hbw3 := hbw2.trans (hB3.mono hbw2.size)
  have c0_3 := cell_keep hB3 c0_2
  have c1_3 := cell_keep hB3 c1_2
  have z3 := cell_lt c0_3
  simp only at z3
  clear c0_2 c1_2 hbw2 hB3 z2
  go_wp2_with fail
  refine (k3 _).mono ?_
  rintro r w4 ⟨rfl, hb4⟩
  have hB4 : Below w3.heap.size w3 w4 := ((Below.refl w3.heap.size w3).alloc (Nat.le_refl _) _).trans (hb4.mono (by simp))
  have q20_4 : w4.cell? ⟨w3.heap.size, 0, none⟩ = some (.bool ng) := by rw [hb4.cell (p := ⟨w3.heap.size, 0, none⟩) (by simp)]; simp
  have q21_4 : w4.cell? ⟨w3.heap.size, 1, none⟩ = some (.int .i64 (X : Int)) := by rw [hb4.cell (p := ⟨w3.heap.size, 1, none⟩) (by simp)]; simp
  have q22_4 : w4.cell? ⟨w3.heap.size, 2, none⟩ = some (.int .u64 (Y : Int)) := by rw [hb4.cell (p := ⟨w3.heap.size, 2, none⟩) (by simp)]; simp
  have y2_4 : w3.heap.size < w4.heap.size := cell_lt q20_4
  clear hb4
  have hbw4 := hbw3.trans (hB4.mono hbw3.size)
  have c0_4 := cell_keep hB4 c0_3
  have c1_4 := cell_keep hB4 c1_3
  have z4 := cell_lt c0_4
  simp only at z4
  have q10_4 := cell_keep hB4 q10_3
  have q11_4 := cell_keep hB4 q11_3
  have q12_4 := cell_keep hB4 q12_3
  have y1_4 := cell_lt q10_4
  simp only at y1_4
  clear q10_3 q11_3 q12_3 y1_3
  clear c0_3 c1_3 hbw3 hB4 z3
  go_wp2_with fail
  refine (k4 _).mono ?_
  rintro r w5 ⟨rfl, hb5⟩
  have hB5 := hb5
  clear hb5
  have hbw5 := hbw4.trans (hB5.mono hbw4.size)
  have c0_5 := cell_keep hB5 c0_4
  have c1_5 := cell_keep hB5 c1_4
  have z5 := cell_lt c0_5
  simp only at z5
  have q10_5 := cell_keep hB5 q10_4
  have q11_5 := cell_keep hB5 q11_4
  have q12_5 := cell_keep hB5 q12_4
  have y1_5 := cell_lt q10_5
  simp only at y1_5
  clear q10_4 q11_4 q12_4 y1_4
  have q20_5 := cell_keep hB5 q20_4
  have q21_5 := cell_keep hB5 q21_4
  have q22_5 := cell_keep hB5 q22_4
  have y2_5 := cell_lt q20_5
  simp only at y2_5
  clear q20_4 q21_4 q22_4 y2_4
  clear c0_4 c1_4 hbw4 hB5 z4
  go_wp2_with fail
  refine (k5 _).mono ?_
  rintro r w6 ⟨rfl, hb6⟩
  have hB6 := hb6
  clear hb6
  have hbw6 := hbw5.trans (hB6.mono hbw5.size)
  have c0_6 := cell_keep hB6 c0_5
  have c1_6 := cell_keep hB6 c1_5
  have z6 := cell_lt c0_6
  simp only at z6
  have q10_6 := cell_keep hB6 q10_5
  have q11_6 := cell_keep hB6 q11_5
  have q12_6 := cell_keep hB6 q12_5
  have y1_6 := cell_lt q10_6
  simp only at y1_6
  clear q10_5 q11_5 q12_5 y1_5
  have q20_6 := cell_keep hB6 q20_5
  have q21_6 := cell_keep hB6 q21_5
  have q22_6 := cell_keep hB6 q22_5
  have y2_6 := cell_lt q20_6
  simp only at y2_6
  clear q20_5 q21_5 q22_5 y2_5
  clear c0_5 c1_5 hbw5 hB6 z5
  go_wp2_with fail
  refine (k6 _).mono ?_
  rintro r w7 ⟨rfl, hb7⟩
  have hB7 := hb7
  clear hb7
  have hbw7 := hbw6.trans (hB7.mono hbw6.size)
  have c0_7 := cell_keep hB7 c0_6
  have c1_7 := cell_keep hB7 c1_6
  have z7 := cell_lt c0_7
  simp only at z7
  have q10_7 := cell_keep hB7 q10_6
  have q11_7 := cell_keep hB7 q11_6
  have q12_7 := cell_keep hB7 q12_6
  have y1_7 := cell_lt q10_7
  simp only at y1_7
  clear q10_6 q11_6 q12_6 y1_6
  have q20_7 := cell_keep hB7 q20_6
  have q21_7 := cell_keep hB7 q21_6
  have q22_7 := cell_keep hB7 q22_6
  have y2_7 := cell_lt q20_7
  simp only at y2_7
  clear q20_6 q21_6 q22_6 y2_6
  clear c0_6 c1_6 hbw6 hB7 z6
  go_wp2
  generalize w2.heap.size = Ba at *
  generalize w3.heap.size = Bb at *
  generalize w7 = W0 at *
  have hW0 : Below W0.heap.size W0 W0.drew := (Below.refl _ _).drew
  go_region_held3 (fun w' => w'.cell? ⟨w.heap.size, 0, none⟩ = some (.int .i64 e) ∧ w'.cell? ⟨w.heap.size, 1, none⟩ = some (.int .i64 f) ∧ w'.cell? ⟨Ba, 0, none⟩ = some (.bool ng) ∧ w'.cell? ⟨Ba, 1, none⟩ = some (.int .i64 (X : Int)) ∧ w'.cell? ⟨Ba, 2, none⟩ = some (.int .u64 (Y : Int)) ∧ w'.cell? ⟨Bb, 0, none⟩ = some (.bool ng) ∧ w'.cell? ⟨Bb, 1, none⟩ = some (.int .i64 (X : Int)) ∧ w'.cell? ⟨Bb, 2, none⟩ = some (.int .u64 (Y : Int))) (first | exact ⟨ed0, ed1, ed2, ed3, ed4, ed5, ed6, ed7⟩ | exact ⟨ec0, ec1, ec2, ec3, ec4, ec5, ec6, ec7⟩ | exact ⟨eb0, eb1, eb2, eb3, eb4, eb5, eb6, eb7⟩ | exact ⟨ea0, ea1, ea2, ea3, ea4, ea5, ea6, ea7⟩ | go_keep)
    (first
     | (go_at_call 21; (with_reducible refine (k10 _).mono ?_); rintro r vd ⟨rfl, hxd⟩; have hd : Below W0.heap.size W0 vd := hc.trans (hxd.mono hc.size); have ed0 := cell_keep hd c0_7; have ed1 := cell_keep hd c1_7; have ed2 := cell_keep hd q10_7; have ed3 := cell_keep hd q11_7; have ed4 := cell_keep hd q12_7; have ed5 := cell_keep hd q20_7; have ed6 := cell_keep hd q21_7; have ed7 := cell_keep hd q22_7; have gd0 := cell_lt ed0; have gd2 := cell_lt ed2; have gd5 := cell_lt ed5)
     | (go_at_call 12; (with_reducible refine (k9 _).mono ?_); rintro r vc ⟨rfl, hxc⟩; have hc : Below W0.heap.size W0 vc := hb.trans (hxc.mono hb.size); have ec0 := cell_keep hc c0_7; have ec1 := cell_keep hc c1_7; have ec2 := cell_keep hc q10_7; have ec3 := cell_keep hc q11_7; have ec4 := cell_keep hc q12_7; have ec5 := cell_keep hc q20_7; have ec6 := cell_keep hc q21_7; have ec7 := cell_keep hc q22_7; have gc0 := cell_lt ec0; have gc2 := cell_lt ec2; have gc5 := cell_lt ec5)
     | (go_at_call 20; (with_reducible refine (k8 _).mono ?_); rintro r vb ⟨rfl, hxb⟩; have hb : Below W0.heap.size W0 vb := ha.trans (hxb.mono ha.size); have eb0 := cell_keep hb c0_7; have eb1 := cell_keep hb c1_7; have eb2 := cell_keep hb q10_7; have eb3 := cell_keep hb q11_7; have eb4 := cell_keep hb q12_7; have eb5 := cell_keep hb q20_7; have eb6 := cell_keep hb q21_7; have eb7 := cell_keep hb q22_7; have gb0 := cell_lt eb0; have gb2 := cell_lt eb2; have gb5 := cell_lt eb5)
     | (go_at_call 19; (with_reducible refine (k7 _).mono ?_); rintro r va ⟨rfl, hxa⟩; have ha : Below W0.heap.size W0 va := hW0.trans (hxa.mono hW0.size); have ea0 := cell_keep ha c0_7; have ea1 := cell_keep ha c1_7; have ea2 := cell_keep ha q10_7; have ea3 := cell_keep ha q11_7; have ea4 := cell_keep ha q12_7; have ea5 := cell_keep ha q20_7; have ea6 := cell_keep ha q21_7; have ea7 := cell_keep ha q22_7; have ga0 := cell_lt ea0; have ga2 := cell_lt ea2; have ga5 := cell_lt ea5))
  all_goals (
    go_wp2
    go_ret
    exact ⟨rfl, hbw7.trans (hd.mono hbw7.size)⟩)

theorem own : ownKnob Try.prog.godebug = none := by kernel_rfl
theorem laidOut : laidOutB Try.prog = true := by kernel_rfl

theorem lifted (os : Os) (started : os.Started) (H : Type) (enc : TypeId × Value → H) :
    ReturnsInHanded {} Try.checked os 5 .any (Rows.formBitsSpec.pre6 enc Try.prog Try.f5 Rows.formBitsRow.domain false) (Rows.formBitsSpec.post enc Try.prog Try.f5 false true false false) := by
  refine returnsInHanded_of_change_sized (C := Try.checked) own started (by kernel_rfl) Try.func5
    (ChangeSpec.witness6 (enc := enc) (C := Try.checked) false ⟨#[], #[.agg #[.int .i64 0, .int .i64 0], .int .u64 0], []⟩ 8 (by kernel_rfl) (by kernel_rfl) (by kernel_rfl) (by kernel_rfl)) ?_
  intro W base args ds gs before hval0 hW hcnd hsz0 _
  have hval : ∀ (j : Nat) t v, Try.f5.params[j]? = some t → args[j]? = some v → Value.okWide Try.prog W .any base t v := hval0
  have hsz : (DataW.weightsEach Try.prog (Try.f5.params.toList ++ Rows.formBitsSpec.plain.varTypes Try.prog) (ds ++ gs)).all (· ≤ reachBytes) = true := hsz0
  have hW' := hW
  obtain ⟨p, q, hA0, hV, rfl, hfz, hnd⟩ := hW
  have hA : DataW.TrodAll enc Try.prog W 0 (fun _ => true) true Try.f5.params.toList args.toList ds p := hA0
  rw [Try.params5] at hA hval hsz
  obtain ⟨v0, vs0, d0, ds0, p0, q0, hargs, rfl, rfl, h0, r0⟩ := trodAll_cons hA
  obtain ⟨v1, vs1, d1, ds1, p1, q1, rfl, rfl, rfl, h1, r1⟩ := trodAll_cons r0
  obtain ⟨rfl, rfl, rfl⟩ := trodAll_nil r1
  obtain rfl : args = #[v0, v1] := by cases args; simp_all
  obtain ⟨rfl, rfl⟩ := trodVars_none hV
  have k0 := h0
  have lt0 : ∀ x ∈ p0, x.block < W.heap.size := by obtain ⟨m, hm⟩ := k0; exact DataW.trod_lt m _ _ _ hm
  obtain ⟨ca0, cb0, ya0, yb0, nn0, hv0, _, _, ga0, gb0⟩ := open_agg2 Try.underlying23 (by kernel_rfl) (by kernel_rfl) (hval 0 23 v0 rfl rfl) h0
  obtain ⟨e0, he0, _, we0⟩ := DataW.trod_int Try.underlying3 ga0
  obtain ⟨f0, hf0, _, wf0⟩ := DataW.trod_int Try.underlying3 gb0
  obtain rfl : ca0 = .int .i64 e0 := by simpa using he0
  obtain rfl : cb0 = .int .i64 f0 := by simpa using hf0
  subst hv0
  have be0 := bounds_i64 we0
  have bf0 := bounds_i64 wf0
  obtain ⟨a1, rfl, rfl, rfl, w1⟩ := open_int Try.underlying24 (hval 1 24 v1 rfl rfl) h1
  have b1 := bounds_u64 w1
  clear hA0 hval0 hsz0
  simp only [List.append_nil] at hW'
  refine (walk e0 f0 a1 b1 W).mono fun e W' ⟨he, bel⟩ => ?_
  subst he
  exact ⟨_, rfl, _, _, _, [], _, [], hW', trodAll_cons_mk (shut_bool Try.underlying4 _) trodAll_mk0, trodAll_cons_mk (Below.trod laidOut (by kernel_rfl) (of_decide_eq_true (by kernel_rfl)) k0 bel lt0) (trodAll_cons_mk (shut_int Try.underlying24 w1) trodAll_mk0), rfl, bel.frame _, fun h => by cases h⟩

theorem over : Rows.formBitsRow.holds Try.pinned (OpenSpec.ofChange Rows.formBitsSpec) :=
  OpenClaim.holds_of_wide 5 Try.f5 rfl rfl rfl rfl rfl rfl rfl ⟨rfl, rfl, rfl, rfl, rfl⟩ rfl rfl rfl rfl rfl (by kernel_rfl) Try.func5 (by kernel_rfl)
    (of_decide_eq_true (by kernel_rfl)) (by unfold Func.isWrapper; first | (rw [if_pos (by decide +kernel)]; kernel_rfl) | (rw [if_neg (by decide +kernel)]; exact ⟨rfl, rfl⟩))
    (fun os started H enc _ => lifted os started H enc)

theorem proved : Rows.FormBitsSaid := over
#print axioms proved
end Go.Proofs.Ytmneicbagcimdaa.formBits
