/- NatNames: the limits and the errors have their numbers; the greatest number, and one limb more. No condition. -/
import Derived.Test.YtkepjhgafpbecaaRows
import Derived.Test.YtkepjhgafpbecaaAlive
import Derived.Test.YtkepjhgafpbecaaMoves
import Derived.Test.YtkepjhgafpbecaaUp
namespace Go.Proofs.Ytkepjhgafpbecaa.natNames
open Go.ChangeShapes Go.WideShapes Go.ChangeAt Go.RowKit
open Go.ChangeMaps (open_string shut_string)
open Go.RowKit
set_option linter.unusedVariables false
set_option linter.unusedSimpArgs false
set_option maxHeartbeats 4000000
set_option maxRecDepth 100000

theorem nm1 {k : Nat} (h : k = 524287) : powS 2 (k : Int) = (limbs (2 ^ k), 0) := by
  unfold powS
  rw [if_neg (by omega), if_neg (by omega), if_neg (by decide), if_neg (by omega), Int.toNat_natCast, fitS_ok (pow_len (e := 16384) (by omega))]
theorem nm2 {k : Nat} (h : k = 524288) : powS 2 (k : Int) = ([], 4) := by
  unfold powS
  rw [if_neg (by omega), if_neg (by omega), if_neg (by decide), if_neg (by omega), Int.toNat_natCast, fitS_many (pow_many (e := 16384) (by omega))]
theorem bl_pow (k : Nat) : bitLen (2 ^ k) = k + 1 := by
  unfold bitLen
  rw [if_neg (Nat.ne_of_gt (Nat.two_pow_pos k)), Nat.log2_two_pow]
theorem nm3 {k : Nat} (h : k = 524287) : upS (limbs (2 ^ k)) 1 = ([], 4) := by
  unfold upS
  rw [if_pos (chk_lm (pow_len (e := 16384) (by omega))), if_neg (by omega), if_neg (by rw [limbs_eq_nil]; exact Nat.ne_of_gt (Nat.two_pow_pos k)), val_limbs, bl_pow, if_pos (by omega)]
theorem nm4 {k : Nat} (h : k = 524287) : bitsS (limbs (2 ^ k)) = (524288, 0) := by
  unfold bitsS
  rw [if_pos (chk_lm (pow_len (e := 16384) (by omega))), val_limbs, bl_pow, h]; rfl
theorem nm5 {k : Nat} (h : k = 524287) : divS (limbs (2 ^ k)) [] = ([], [], 11) := by
  unfold divS
  rw [if_pos (by unfold chk2; rw [if_pos (chk_lm (pow_len (e := 16384) (by omega)))]; rfl), if_pos (show val [] = 0 from rfl)]
theorem nm6 : powS 1 4611686018427387904 = (limbs 1, 0) := by
  unfold powS
  rw [if_neg (by decide), if_neg (by decide), if_pos (by decide)]
theorem nm9 : chk (List.replicate 16385 0) = 4 := by
  unfold chk; rw [if_pos (by rw [List.length_replicate]; decide)]

theorem walk (w : World) : Calls Try.prog 9 #[] w fun e w' => e = .returned (.bool true) ∧ Below w.heap.size w w' := by
  obtain ⟨k, hk⟩ : ∃ k : Nat, k = 524287 := ⟨_, rfl⟩
  obtain ⟨j, hj⟩ : ∃ j : Nat, j = 524288 := ⟨_, rfl⟩
  have k1 := fun W => nat_Pow 2 2 rfl (by decide) (k : Int) (by omega) (by omega) W
  have k2 := fun W => nat_Pow 2 2 rfl (by decide) (j : Int) (by omega) (by omega) W
  have k3 := fun Ax cx W h => nat_Up Ax (limbs (2 ^ k)) _ cx rfl 1 (by decide) (by decide) W h
  have k4 := fun Ax cx W h => nat_Bits Ax (limbs (2 ^ k)) _ cx rfl W h
  have k5 := fun Ax cx W h h' => nat_Div Ax none (limbs (2 ^ k)) [] 0 _ cx 0 rfl rfl W h h'
  have k6 := fun W => nat_Pow 1 1 rfl (by decide) 4611686018427387904 (by decide) (by decide) W
  have k7 := fun W => nat_Of 1 1 rfl (by decide) W
  have k8 := fun Ax cx Ay cy W h h' => ref_Same Ax Ay (limbs 1) (limbs 1) _ _ cx cy rfl rfl W h h'
  have k9 : ∀ (g : Nat) (W : World), Row W 28 g (List.replicate 16385 0) → Calls Try.prog 41 #[.agg #[.slice (some ⟨g, 0, none⟩) 16385 16385]] W (Says W (.int .i64 4)) := by
    intro g W h
    have := nat_Check (some ⟨g, 0, none⟩) (List.replicate 16385 0) 16385 16385 List.length_replicate.symm W (h.rd0 (Sm.replicate _) (by rw [List.length_replicate]; decide))
    rw [nm9] at this
    exact this
  have k10 : ∀ (g : Nat) (W : World), Row W 28 g [5, 0] → Calls Try.prog 41 #[.agg #[.slice (some ⟨g, 0, none⟩) 2 2]] W (Says W (.int .i64 10)) := by
    intro g W h
    exact nat_Check (some ⟨g, 0, none⟩) [5, 0] 2 2 rfl W (h.rd0 (by intro x hx; simp at hx; omega) (by decide))
  have k11 := fun W : World => k10 W.heap.size (W.alloc (.cells #[.int .u32 5, .int .u32 0] 28)) (row_new rfl rfl)
  have k12 := fun W : World => k9 W.heap.size (W.alloc (.cells (c32 (List.replicate 16385 0)) 28)) (row_new rfl rfl)
  clear k9 k10
  have hmk := fun W => mk32 16385 16385 rfl (by decide) W
  generalize List.replicate 16385 0 = R at hmk k12
  rw [nm1 hk] at k1
  rw [nm2 hj] at k2
  rw [nm3 hk] at k3
  rw [nm4 hk] at k4
  rw [nm5 hk] at k5
  rw [nm6] at k6
  rw [decide_eq_true rfl] at k8
  have ekI : (k : Int) = 524287 := by omega
  have ejI : (j : Int) = 524288 := by omega
  rw [ekI] at k1
  rw [ejI] at k2
  generalize limbs (2 ^ k) = p at *
  generalize limbs 1 = o at *
  clear hk hj ekI ejI
  have S0 := Sq.init w
  go_enter Try.func9, Try.ntmps9
  go_wp2_with fail
  refine (k1 _).mono ?_
  rintro e w1 ⟨A2, c3, rfl, o4, b5⟩
  have S6 := ((S0.below b5).pend_ o4 S0.size).put (.slice A2 p.length c3)
  clear S0 o4 b5
  go_wp2_with fail
  refine (k2 _).mono ?_
  rintro e w7 ⟨A8, c9, rfl, o10, b11⟩
  have S12 := ((S6.below b11).pend_ o10 S6.size).put (.slice A8 0 c9)
  clear S6 o10 b11
  obtain ⟨q13, q13z, q13f⟩ := S12.cell 1 rfl
  go_wp2_with fail
  refine (k3 A2 c3 _ (S12.prd 1 rfl)).mono ?_
  rintro e w14 ⟨A15, c16, rfl, o17, b18⟩
  have S19 := ((S12.below b18).pend_ o17 S12.size).put (.slice A15 0 c16)
  clear S12 o17 b18
  clear q13 q13z q13f
  obtain ⟨q20, q20z, q20f⟩ := S19.cell 2 rfl
  go_wp2_with fail
  refine (k4 A2 c3 _ (S19.prd 2 rfl)).mono ?_
  rintro e w21 ⟨rfl, b22⟩
  have S23 := S19.below b22
  clear S19 b22
  clear q20 q20z q20f
  obtain ⟨q24, q24z, q24f⟩ := S23.cell 2 rfl
  go_wp2_with fail
  refine (k5 A2 c3 _ (S23.prd 2 rfl) (Rd.nil _ _)).mono ?_
  rintro e w25 ⟨A26, c27, A28, c29, rfl, o30, o31, b32⟩
  have S33 := ((((S23.below b32).pend_ o30 S23.size).pend_ o31 S23.size).put (.slice A26 0 c27)).put (.slice A28 0 c29)
  simp only [World.size_alloc] at S33
  clear S23 o30 o31 b32
  clear q24 q24z q24f
  go_wp2_with fail
  refine (k6 _).mono ?_
  rintro e w34 ⟨A35, c36, rfl, o37, b38⟩
  have S39 := ((S33.below b38).pend_ o37 S33.size).put (.slice A35 o.length c36)
  clear S33 o37 b38
  obtain ⟨q40, q40z, q40f⟩ := S39.cell 0 rfl
  go_wp2_with fail
  have SZ := S39
  generalize hWZ : w34.alloc (.cells #[.slice A35 o.length c36] 35) = WZ at *
  clear hWZ
  generalize w34.heap.size = Bo at *
  have SD := SZ.drew
  go_region_held3 (fun w' => w'.cell? ⟨Bo, 0, none⟩ = some (.slice A35 o.length c36)) (first | exact q40 | exact j1 | exact j2 | exact j3 | exact j4 | exact j5 | exact (World.cell?_alloc_lt _ _ _ j3z).trans j3 | exact (World.cell?_alloc_lt _ _ _ j4z).trans j4 | go_keep)
    (first
     | (go_at_call 44; (with_reducible refine (alive_any _).mono ?_); rintro e wa ⟨rfl, ba⟩; have S1 := SD.below ba; have j1 := (S1.cell 0 rfl).1)
     | (go_at_call 21; (with_reducible refine (k7 _).mono ?_); rintro e wb ⟨Ab, cb, rfl, ob, bb⟩; have S2 := (S1.below bb).pend_ ob S1.size; have j2 := (S2.cell 0 rfl).1)
     | (go_at_call 47; (with_reducible refine (k8 A35 c36 Ab cb _ (S2.prd 1 rfl) (S2.prd 0 rfl)).mono ?_); rintro e wc ⟨rfl, bc⟩; have S3 := S2.below bc; obtain ⟨j3, j3z, _⟩ := S3.cell 0 rfl)
     | (go_at_call 41; (with_reducible refine (k12 _).mono ?_); rintro e wd ⟨rfl, bd⟩; have S4 := (S3.below ((Below.refl _ _).alloc (Nat.le_refl _) _)).below bd; obtain ⟨j4, j4z, _⟩ := S4.cell 0 rfl)
     | (go_at_call 41; (with_reducible refine (k11 _).mono ?_); rintro e we ⟨rfl, be⟩; have S5 := (S4.below ((Below.refl _ _).alloc (Nat.le_refl _) _)).below be; have j5 := (S5.cell 0 rfl).1)
     | fail)
  all_goals (
    go_wp2
    go_ret
    exact ⟨rfl, S5.bel⟩)

theorem own : ownKnob Try.prog.godebug = none := by kernel_rfl
theorem laidOut : laidOutB Try.prog = true := by kernel_rfl

theorem lifted (os : Os) (started : os.Started) (H : Type) (enc : TypeId × Value → H) :
    ReturnsInHanded {} Try.checked os 9 .any (Rows.natNamesSpec.pre6 enc Try.prog Try.f9 Rows.natNamesRow.domain false) (Rows.natNamesSpec.post enc Try.prog Try.f9 false true false false) := by
  refine returnsInHanded_of_change (C := Try.checked) own started (by kernel_rfl) Try.func9
    (ChangeSpec.witness6 (enc := enc) (C := Try.checked) false ⟨#[], #[], []⟩ 8 (by kernel_rfl) (by kernel_rfl) (by kernel_rfl) (by kernel_rfl)) ?_
  intro W base args ds gs before hval0 hW hcnd _
  have hW' := hW
  obtain ⟨p, q, hA0, hV, rfl, hfz, hnd⟩ := hW
  have hA : DataW.TrodAll enc Try.prog W 0 (fun _ => true) true Try.f9.params.toList args.toList ds p := hA0
  rw [Try.params9] at hA
  obtain ⟨hargs, rfl, rfl⟩ := trodAll_nil hA
  obtain rfl : args = #[] := by cases args; simp_all
  obtain ⟨rfl, rfl⟩ := trodVars_none hV
  clear hA0 hval0
  simp only [List.append_nil] at hW'
  refine (walk W).mono fun e W' ⟨he, bel⟩ => ?_
  subst he
  exact ⟨_, rfl, _, _, _, [], _, [], hW', trodAll_cons_mk (shut_bool Try.underlying4 _) trodAll_mk0, trodAll_mk0, rfl, bel.frame _, fun h => by cases h⟩

theorem over : Rows.natNamesRow.holds Try.pinned (OpenSpec.ofChange Rows.natNamesSpec) :=
  OpenClaim.holds_of_wide 9 Try.f9 rfl rfl rfl rfl rfl rfl rfl ⟨rfl, rfl, rfl, rfl, rfl⟩ rfl rfl rfl rfl rfl (by kernel_rfl) Try.func9 (by kernel_rfl)
    (of_decide_eq_true (by kernel_rfl)) (by unfold Func.isWrapper; first | (rw [if_pos (by decide +kernel)]; kernel_rfl) | (rw [if_neg (by decide +kernel)]; exact ⟨rfl, rfl⟩))
    (fun os started H enc _ => lifted os started H enc)

theorem proved : Rows.NatNamesSaid := over
#print axioms proved
end Go.Proofs.Ytkepjhgafpbecaa.natNames
