/- NatPows: of any numbers Of and Pow, told twice, in memory of their own. No condition. -/
import Derived.Test.YtkepjhgafpbecaaRows
import Derived.Test.YtkepjhgafpbecaaStand
import Derived.Test.YtkepjhgafpbecaaN
import Derived.Test.YtkepjhgafpbecaaO
import Derived.Test.YtkepjhgafpbecaaC
import Derived.ProofKit
import Derived.OpenShut
import Derived.ShutString
import Derived.ChangeOld
namespace Go.Proofs.Ytkepjhgafpbecaa.natPows
open Go.ChangeShapes Go.WideShapes Go.ChangeAt Go.RowKit
open Go.ChangeMaps (open_string shut_string)
open Go.RowKit
set_option linter.unusedVariables false
set_option linter.unusedSimpArgs false
set_option maxHeartbeats 4000000
set_option maxRecDepth 100000

theorem walk (a0 a1 a2 : Int) (w0 : (Lit.int .u32 a0).wf = true) (w1 : (Lit.int .i64 a1).wf = true) (w2 : (Lit.int .u64 a2).wf = true) (w : World) :
    Calls Try.prog 4 #[.int .u32 a0, .int .i64 a1, .int .u64 a2] w fun e w' => e = .returned (.bool true) ∧ Below w.heap.size w w' := by
  have b0 := bounds_u32 w0
  have b1 := bounds_i64 w1
  have b2 := bounds_u64 w2
  obtain ⟨b, rfl⟩ : ∃ n : Nat, a0 = (n : Int) := ⟨a0.toNat, by omega⟩
  obtain ⟨u, rfl⟩ : ∃ n : Nat, a2 = (n : Int) := ⟨a2.toNat, by omega⟩
  obtain ⟨b1l, b1h⟩ := b1
  clear w0 w1 w2
  have hb : b < 4294967296 := by omega
  have hu : u < 18446744073709551616 := by omega
  have hbk0 : Book (w.alloc (.cells #[.slice none 0 0, .slice none 0 0, .bool false] 32)) w.heap.size w.heap.size (.slice none 0 0) (.slice none 0 0) [] [] [] := Book.empty _ _ (Nat.le_refl _) (Blk.new w _ _)
  go_enter Try.func4, Try.ntmps4
  go_wp2_with fail
  refine (ref_Pow _ b rfl hb a1 (by omega) (by omega) _).mono ?_
  rintro e w1 ⟨A1, c1, rfl, o1, hb1⟩
  obtain ⟨hc1, hf1⟩ := bcell hb1
  have hbw1 : Below w.heap.size w w1 := Below.trans (b := _) (by repeat' (first | (with_reducible assumption) | (with_reducible exact Below.refl _ _) | (with_reducible refine bdn ?_ _) | (with_reducible refine Below.drew ?_) | (with_reducible refine Below.setCell ?_ ?_ _) | (with_reducible refine Below.alloc ?_ ?_ _) | go_size)) (hb1.mono (by go_size))
  have hz1_0 : w.heap.size < w1.heap.size := by have := hb1.size; simp at this; omega
  have hk1 := hbk0.below hb1 [] (by simp)
  go_wp2_with fail
  refine (nat_Pow _ b rfl hb a1 (by omega) (by omega) _).mono ?_
  rintro e w2 ⟨A2, c2, rfl, o2, hb2⟩
  have hk2 := (hk1.below ((Below.refl _ w1).alloc (Nat.le_refl _) (.cells #[Value.slice A1 (powS b a1).fst.length c1] 35)) [w1.heap.size] (by simp)).below hb2 []  (by simp)
  have s1 := hb2.size
  simp at s1
  have f1 : w2.cell? ⟨w1.heap.size, 0, none⟩ = some (.slice A1 (powS b a1).fst.length c1) := by rw [hb2.cell (by simp)]; simp
  have f1f : w2.frozen? ⟨w1.heap.size, 0, none⟩ = false := by rw [hb2.frozen (by simp)]; simp
  have t1 : w1.heap.size < w2.heap.size := by omega
  have B2 : Below w.heap.size w w2 := ((hbw1.alloc (by omega) _).trans (hb2.mono (by simp; omega)))
  have o1' : Own w2 _ _ _ _ _ := (o1.alloc _).below hb2 (Nat.le_refl _)
  go_wp2_with fail
  refine (book_adds w.heap.size w.heap.size _ _ _ _ _ _ A2 A1 _ c2 _ c1 _ rfl rfl _ (by simp; omega) (hk2.below ((Below.refl _ w2).alloc (Nat.le_refl _) _) [] (by simp)) ((o2.alloc _).mono (by simp; omega)) ((o1'.alloc _).mono (by simp)) (by simp) (by simp)).mono ?_
  rintro e w3 ⟨gv1, wv1, rfl, hk3, L3⟩
  have s3 := L3.below.size
  simp at s3
  have f3 : w3.cell? ⟨w1.heap.size, 0, none⟩ = some (.slice A1 (powS b a1).fst.length c1) := by rw [L3.cell (by simp), World.cell?_alloc_lt _ _ _ (by simp; omega)]; exact f1
  have f3f : w3.frozen? ⟨w1.heap.size, 0, none⟩ = false := by rw [L3.frozen (by simp), World.frozen?_alloc_past _ _ _ t1]; exact f1f
  have B3 : Below w.heap.size w w3 := (B2.alloc (by omega) _).trans L3.below
  have o1'' := L3.own (o1'.alloc _)
  go_wp2_with fail
  refine (nat_Pow _ b rfl hb a1 (by omega) (by omega) _).mono ?_
  rintro e w4 ⟨A4, c4, rfl, o4, hb4⟩
  have hk4 := hk3.below hb4 [] (by simp)
  have s4 := hb4.size
  have f4 : w4.cell? ⟨w1.heap.size, 0, none⟩ = some (.slice A1 (powS b a1).fst.length c1) := by rw [hb4.cell (by simp; omega)]; exact f3
  have t4 : w1.heap.size < w4.heap.size := by omega
  have B4 : Below w.heap.size w w4 := B3.trans (hb4.mono (by omega))
  have o14 := o1''.below hb4 (Nat.le_refl _)
  go_wp2_with fail
  refine (book_adds w.heap.size w.heap.size _ _ _ _ _ _ A4 A1 _ c4 _ c1 _ rfl rfl _ (by simp; omega) (hk4.below ((Below.refl _ w4).alloc (Nat.le_refl _) _) [] (by simp)) ((o4.alloc _).mono (by omega)) ((o14.alloc _).mono (by simp)) (hk3.fresh o4) (by simp)).mono ?_
  rintro e w5 ⟨gv2, wv2, rfl, hk5, L5⟩
  have s5 := L5.below.size
  simp at s5
  have B5 : Below w.heap.size w w5 := (B4.alloc (by omega) _).trans L5.below
  clear hk4 hk3 hk2 hk1 hbk0 f3 f3f f4 f1 f1f
  go_wp2_with fail
  refine (nat_Of _ u rfl hu _).mono ?_
  rintro e w6 ⟨A6, c6, rfl, o6, hb6⟩
  have s6 := hb6.size
  go_wp2_with fail
  refine (ref_Of _ u rfl hu _).mono ?_
  rintro e w7 ⟨A7, c7, rfl, o7, hb7⟩
  have s7 := hb7.size
  have B7 : Below w.heap.size w w7 := (B5.trans (hb6.mono (by omega))).trans (hb7.mono (by omega))
  go_wp2_with fail
  refine (book_adds w.heap.size w.heap.size _ _ _ _ _ _ A6 A7 _ c6 _ c7 _ rfl rfl _ (by omega) ((hk5.below hb6 [] (by simp)).below hb7 [] (by simp)) ((o6.below hb7 (Nat.le_refl _)).mono (by omega)) (o7.mono (by omega)) (hk5.fresh o6) (by simp)).mono ?_
  rintro e w8 ⟨gv3, wv3, rfl, hk8, L8⟩
  have s8 := L8.below.size
  have B8 : Below w.heap.size w w8 := B7.trans L8.below
  clear hk5
  go_wp2_with fail
  refine (nat_Of _ u rfl hu _).mono ?_
  rintro e w9 ⟨A9, c9, rfl, o9, hb9⟩
  have s9 := hb9.size
  go_wp2_with fail
  refine (ref_Of _ u rfl hu _).mono ?_
  rintro e w10 ⟨A10, c10, rfl, o10, hb10⟩
  have s10 := hb10.size
  have B10 : Below w.heap.size w w10 := (B8.trans (hb9.mono (by omega))).trans (hb10.mono (by omega))
  go_wp2_with fail
  refine (book_adds w.heap.size w.heap.size _ _ _ _ _ _ A9 A10 _ c9 _ c10 _ rfl rfl _ (by omega) ((hk8.below hb9 [] (by simp)).below hb10 [] (by simp)) ((o9.below hb10 (Nat.le_refl _)).mono (by omega)) (o10.mono (by omega)) (hk8.fresh o9) (by simp)).mono ?_
  rintro e w11 ⟨gv4, wv4, rfl, hk11, L11⟩
  have s11 := L11.below.size
  have B11 : Below w.heap.size w w11 := B10.trans L11.below
  clear hk8
  go_wp2_with fail
  refine (book_stands w.heap.size w.heap.size _ _ _ _ [] _ none 0 0 rfl _ (by omega) hk11 (by simp) (by simp) (by simp) (by simp) (by simp) (by simpa using hk11.dist)).mono ?_
  rintro e w12 ⟨rfl, B12⟩
  go_wp2
  go_ret
  exact ⟨rfl, B11.trans B12⟩

theorem own : ownKnob Try.prog.godebug = none := by kernel_rfl
theorem laidOut : laidOutB Try.prog = true := by kernel_rfl

theorem lifted (os : Os) (started : os.Started) (H : Type) (enc : TypeId × Value → H) :
    ReturnsInHanded {} Try.checked os 4 .any (Rows.natPowsSpec.pre6 enc Try.prog Try.f4 Rows.natPowsRow.domain false) (Rows.natPowsSpec.post enc Try.prog Try.f4 false true false false) := by
  refine returnsInHanded_of_change (C := Try.checked) own started (by kernel_rfl) Try.func4
    (ChangeSpec.witness6 (enc := enc) (C := Try.checked) false ⟨#[], #[.int .u32 0, .int .i64 0, .int .u64 0], []⟩ 8 (by kernel_rfl) (by kernel_rfl) (by kernel_rfl) (by kernel_rfl)) ?_
  intro W base args ds gs before hval0 hW hcnd _
  have hval : ∀ (j : Nat) t v, Try.f4.params[j]? = some t → args[j]? = some v → Value.okWide Try.prog W .any base t v := hval0
  have hW' := hW
  obtain ⟨p, q, hA0, hV, rfl, hfz, hnd⟩ := hW
  have hA : DataW.TrodAll enc Try.prog W 0 (fun _ => true) true Try.f4.params.toList args.toList ds p := hA0
  rw [Try.params4] at hA hval
  obtain ⟨v0, vs0, d0, ds0, p0, q0, hargs, rfl, rfl, h0, r0⟩ := trodAll_cons hA
  obtain ⟨v1, vs1, d1, ds1, p1, q1, rfl, rfl, rfl, h1, r1⟩ := trodAll_cons r0
  obtain ⟨v2, vs2, d2, ds2, p2, q2, rfl, rfl, rfl, h2, r2⟩ := trodAll_cons r1
  obtain ⟨rfl, rfl, rfl⟩ := trodAll_nil r2
  obtain rfl : args = #[v0, v1, v2] := by cases args; simp_all
  obtain ⟨rfl, rfl⟩ := trodVars_none hV
  obtain ⟨a0, rfl, rfl, rfl, w0⟩ := open_int Try.underlying28 (hval 0 28 v0 rfl rfl) h0
  obtain ⟨a1, rfl, rfl, rfl, w1⟩ := open_int Try.underlying3 (hval 1 3 v1 rfl rfl) h1
  obtain ⟨a2, rfl, rfl, rfl, w2⟩ := open_int Try.underlying22 (hval 2 22 v2 rfl rfl) h2
  clear hA0 hval0
  simp only [List.append_nil] at hW'
  refine (walk a0 a1 a2 w0 w1 w2 W).mono fun e W' ⟨he, bel⟩ => ?_
  subst he
  exact ⟨_, rfl, _, _, _, [], _, [], hW', trodAll_cons_mk (shut_bool Try.underlying4 _) trodAll_mk0, trodAll_cons_mk (shut_int Try.underlying28 w0) (trodAll_cons_mk (shut_int Try.underlying3 w1) (trodAll_cons_mk (shut_int Try.underlying22 w2) trodAll_mk0)), rfl, bel.frame _, fun h => by cases h⟩

theorem over : Rows.natPowsRow.holds Try.pinned (OpenSpec.ofChange Rows.natPowsSpec) :=
  OpenClaim.holds_of_wide 4 Try.f4 rfl rfl rfl rfl rfl rfl rfl ⟨rfl, rfl, rfl, rfl, rfl⟩ rfl rfl rfl rfl rfl (by kernel_rfl) Try.func4 (by kernel_rfl)
    (of_decide_eq_true (by kernel_rfl)) (by unfold Func.isWrapper; first | (rw [if_pos (by decide +kernel)]; kernel_rfl) | (rw [if_neg (by decide +kernel)]; exact ⟨rfl, rfl⟩))
    (fun os started H enc _ => lifted os started H enc)

theorem proved : Rows.NatPowsSaid := over
#print axioms proved
end Go.Proofs.Ytkepjhgafpbecaa.natPows
