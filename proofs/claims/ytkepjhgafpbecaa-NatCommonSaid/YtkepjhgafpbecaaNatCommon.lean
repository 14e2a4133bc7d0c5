/- NatCommon: a greatest common divisor divides both, and over it they have none but 1. No condition. -/
import Derived.Test.YtkepjhgafpbecaaRows
import Derived.Test.YtkepjhgafpbecaaAlive
import Derived.Test.YtkepjhgafpbecaaMoves
import Derived.Test.YtkepjhgafpbecaaGcd
namespace Go.Proofs.Ytkepjhgafpbecaa.natCommon
open Go.ChangeShapes Go.WideShapes Go.ChangeAt Go.RowKit
open Go.ChangeMaps (open_string shut_string)
open Go.RowKit
set_option linter.unusedVariables false
set_option linter.unusedSimpArgs false
set_option maxHeartbeats 4000000
set_option maxRecDepth 100000

theorem plain {a b : List Nat} (ha : Sm a) (hb : Sm b) (xa : chk a = 0) (xb : chk b = 0) :
    gcdS a b = (limbs (Nat.gcd (val a) (val b)), 0) ∧ gcdS b a = (limbs (Nat.gcd (val a) (val b)), 0) ∧ (a = [] → b = [] → limbs (Nat.gcd (val a) (val b)) = []) ∧
    (¬ (a = [] ∧ b = []) → divS a (limbs (Nat.gcd (val a) (val b))) = (limbs (val a / Nat.gcd (val a) (val b)), [], 0) ∧ divS b (limbs (Nat.gcd (val a) (val b))) = (limbs (val b / Nat.gcd (val a) (val b)), [], 0) ∧
      gcdS (limbs (val a / Nat.gcd (val a) (val b))) (limbs (val b / Nat.gcd (val a) (val b))) = (limbs 1, 0)) := by
  have hca := limbs_of ha (chk_zero xa).2
  have hcb := limbs_of hb (chk_zero xb).2
  have la := (chk_zero xa).1
  have lb := (chk_zero xb).1
  generalize val a = x at *
  generalize val b = y at *
  subst hca hcb
  refine ⟨?_, ?_, ?_, ?_⟩
  · unfold gcdS; rw [if_pos (chk2_lm la lb), val_limbs, val_limbs]
  · unfold gcdS; rw [if_pos (chk2_lm lb la), val_limbs, val_limbs, Nat.gcd_comm]
  · intro h1 h2
    rw [limbs_eq_nil] at *
    rw [h1, h2]; rfl
  · intro h
    have hpos : 0 < Nat.gcd x y := by
      rcases Nat.eq_zero_or_pos (Nat.gcd x y) with h0 | h0
      · exfalso
        rw [Nat.gcd_eq_zero_iff] at h0
        exact h ⟨by rw [limbs_eq_nil]; exact h0.1, by rw [limbs_eq_nil]; exact h0.2⟩
      · exact h0
    have lg : (limbs (Nat.gcd x y)).length ≤ 16384 := by
      rcases Nat.eq_zero_or_pos x with h0 | h0
      · subst h0; rw [Nat.gcd_zero_left]; exact lb
      · exact Nat.le_trans (limbs_mono (Nat.gcd_le_left _ h0)) la
    refine ⟨?_, ?_, ?_⟩
    · rw [divS_l la lg (by omega), Nat.mod_eq_zero_of_dvd (Nat.gcd_dvd_left x y)]; rfl
    · rw [divS_l lb lg (by omega), Nat.mod_eq_zero_of_dvd (Nat.gcd_dvd_right x y)]; rfl
    · unfold gcdS
      rw [if_pos (chk2_lm (Nat.le_trans (limbs_mono (Nat.div_le_self _ _)) la) (Nat.le_trans (limbs_mono (Nat.div_le_self _ _)) lb)), val_limbs, val_limbs, Nat.gcd_div (Nat.gcd_dvd_left x y) (Nat.gcd_dvd_right x y), Nat.div_self hpos]

theorem walk (A B : Option Addr) (a b : List Nat) (n m ca cb : Nat) (hn : n = a.length) (hm : m = b.length) (w : World) (ha : Rd w A a) (hb : Rd w B b) :
    Calls Try.prog 8 #[.agg #[.slice A n ca], .agg #[.slice B m cb]] w fun e w' => e = .returned (.bool true) ∧ Below w.heap.size w w' := by
  have S0 := ((Sq.init w).put (.slice A n ca)).put (.slice B m cb)
  simp only [World.size_alloc] at S0
  have sa := fun W h => small_any A a n ca hn 300 (by decide) W h
  have sb := fun W h => small_any B b m cb hm 300 (by decide) W h
  by_cases hs : (chk a = 0 ∧ ((a.length : Nat) : Int) ≤ 300) ∧ (chk b = 0 ∧ ((b.length : Nat) : Int) ≤ 300)
  · rw [decide_eq_true hs.1] at sa
    rw [decide_eq_true hs.2] at sb
    obtain ⟨m1, m2, m0, mr⟩ := plain ha.sm hb.sm hs.1.1 hs.2.1
    have k1 := fun W h h' => nat_Gcd A B a b n m ca cb hn hm W h h'
    have k2 := fun W h h' => nat_Gcd B A b a m n cb ca hm hn W h h'
    have k3 := fun Ax cx Ay cy W h h' => ref_Same Ax Ay (limbs (Nat.gcd (val a) (val b))) (limbs (Nat.gcd (val a) (val b))) _ _ cx cy rfl rfl W h h'
    rw [m1] at k1
    rw [m2] at k2
    rw [decide_eq_true rfl] at k3
    by_cases h0 : a = [] ∧ b = []
    · have HG0 : Hid (limbs (Nat.gcd (val a) (val b)) = []) := m0 h0.1 h0.2
      have hn0 : n = 0 := by rw [hn, h0.1]; rfl
      have hm0 : m = 0 := by rw [hm, h0.2]; rfl
      generalize limbs (Nat.gcd (val a) (val b)) = g at *
      subst hn0 hm0
      clear m1 m2 m0 mr hs hn hm h0
      go_enter Try.func8, Try.ntmps8
      go_wp2_with fail
      refine (alive_any _).mono ?_
      rintro e w1 ⟨rfl, b2⟩
      have S3 := S0.below b2
      clear S0 b2
      obtain ⟨q4, q4z, q4f⟩ := S3.cell 1 rfl
      go_wp2_with fail
      refine (sa _ (S3.rd ha)).mono ?_
      rintro e w5 ⟨rfl, b6⟩
      have S7 := S3.below b6
      clear S3 b6
      clear q4 q4z q4f
      obtain ⟨q8, q8z, q8f⟩ := S7.cell 0 rfl
      go_wp2_with fail
      refine (sb _ (S7.rd hb)).mono ?_
      rintro e w9 ⟨rfl, b10⟩
      have S11 := S7.below b10
      clear S7 b10
      clear q8 q8z q8f
      obtain ⟨q12, q12z, q12f⟩ := S11.cell 1 rfl
      obtain ⟨q13, q13z, q13f⟩ := S11.cell 0 rfl
      go_wp2_with fail
      refine (k1 _ (S11.rd ha) (S11.rd hb)).mono ?_
      rintro e w14 ⟨A15, c16, rfl, o17, b18⟩
      have S19 := ((S11.below b18).pend_ o17 S11.size).put (.slice A15 g.length c16)
      clear S11 o17 b18
      clear q12 q12z q12f q13 q13z q13f
      obtain ⟨q20, q20z, q20f⟩ := S19.cell 2 rfl
      obtain ⟨q21, q21z, q21f⟩ := S19.cell 1 rfl
      go_wp2_with fail
      refine (k2 _ (S19.rd hb) (S19.rd ha)).mono ?_
      rintro e w22 ⟨A23, c24, rfl, o25, b26⟩
      have S27 := ((S19.below b26).pend_ o25 S19.size).put (.slice A23 g.length c24)
      clear S19 o25 b26
      clear q20 q20z q20f q21 q21z q21f
      obtain ⟨q28, q28z, q28f⟩ := S27.cell 1 rfl
      obtain ⟨q29, q29z, q29f⟩ := S27.cell 0 rfl
      go_wp2_with fail
      refine (k3 A15 c16 A23 c24 _ (S27.prd 1 rfl) (S27.prd 0 rfl)).mono ?_
      rintro e w30 ⟨rfl, b31⟩
      have S32 := S27.below b31
      clear S27 b31
      clear q28 q28z q28f q29 q29z q29f
      obtain ⟨q33, q33z, q33f⟩ := S32.cell 3 rfl
      obtain ⟨q34, q34z, q34f⟩ := S32.cell 2 rfl
      obtain ⟨q35, q35z, q35f⟩ := S32.cell 1 rfl
      have hg0 : g.length = 0 := by rw [HG0.out]; rfl
      go_wp2
      go_ret
      exact ⟨rfl, S32.bel⟩
    · obtain ⟨m4, m5, m6⟩ := mr h0
      have k4 := fun Ax cx W h h' => nat_Div A Ax a (limbs (Nat.gcd (val a) (val b))) _ n ca cx hn rfl W h h'
      have k5 := fun Ax cx W h h' => nat_Div B Ax b (limbs (Nat.gcd (val a) (val b))) _ m cb cx hm rfl W h h'
      have k6 := fun Ax cx Ay cy W h h' => nat_Gcd Ax Ay (limbs (val a / Nat.gcd (val a) (val b))) (limbs (val b / Nat.gcd (val a) (val b))) _ _ cx cy rfl rfl W h h'
      have k7 := fun W => nat_Of 1 1 rfl (by decide) W
      have k8 := fun Ax cx Ay cy W h h' => ref_Same Ax Ay (limbs 1) (limbs 1) _ _ cx cy rfl rfl W h h'
      rw [m4] at k4
      rw [m5] at k5
      rw [m6] at k6
      rw [decide_eq_true rfl] at k8
      have hnm : ((n : Int) == 0) = false ∨ (((n : Int) == 0) = true ∧ ((m : Int) == 0) = false) := by
        rw [beq_eq_false_iff_ne, beq_eq_false_iff_ne, beq_iff_eq]
        by_cases hn0 : n = 0
        · refine .inr ⟨by omega, fun hm0 => h0 ⟨List.eq_nil_of_length_eq_zero (by omega), List.eq_nil_of_length_eq_zero (by omega)⟩⟩
        · exact .inl (by omega)
      generalize limbs (Nat.gcd (val a) (val b)) = g at *
      generalize limbs (val a / Nat.gcd (val a) (val b)) = x at *
      generalize limbs (val b / Nat.gcd (val a) (val b)) = y at *
      generalize limbs 1 = o at *
      clear m1 m2 m0 mr m4 m5 m6 hs hn hm h0
      rcases hnm with hn0 | ⟨hn0, hm0⟩
      all_goals (
      go_enter Try.func8, Try.ntmps8
      go_wp2_with fail
      refine (alive_any _).mono ?_
      rintro e w1 ⟨rfl, b2⟩
      have S3 := S0.below b2
      clear S0 b2
      obtain ⟨q4, q4z, q4f⟩ := S3.cell 1 rfl
      go_wp2_with fail
      refine (sa _ (S3.rd ha)).mono ?_
      rintro e w5 ⟨rfl, b6⟩
      have S7 := S3.below b6
      clear S3 b6
      clear q4 q4z q4f
      obtain ⟨q8, q8z, q8f⟩ := S7.cell 0 rfl
      go_wp2_with fail
      refine (sb _ (S7.rd hb)).mono ?_
      rintro e w9 ⟨rfl, b10⟩
      have S11 := S7.below b10
      clear S7 b10
      clear q8 q8z q8f
      obtain ⟨q12, q12z, q12f⟩ := S11.cell 1 rfl
      obtain ⟨q13, q13z, q13f⟩ := S11.cell 0 rfl
      go_wp2_with fail
      refine (k1 _ (S11.rd ha) (S11.rd hb)).mono ?_
      rintro e w14 ⟨A15, c16, rfl, o17, b18⟩
      have S19 := ((S11.below b18).pend_ o17 S11.size).put (.slice A15 g.length c16)
      clear S11 o17 b18
      clear q12 q12z q12f q13 q13z q13f
      obtain ⟨q20, q20z, q20f⟩ := S19.cell 2 rfl
      obtain ⟨q21, q21z, q21f⟩ := S19.cell 1 rfl
      go_wp2_with fail
      refine (k2 _ (S19.rd hb) (S19.rd ha)).mono ?_
      rintro e w22 ⟨A23, c24, rfl, o25, b26⟩
      have S27 := ((S19.below b26).pend_ o25 S19.size).put (.slice A23 g.length c24)
      clear S19 o25 b26
      clear q20 q20z q20f q21 q21z q21f
      obtain ⟨q28, q28z, q28f⟩ := S27.cell 1 rfl
      obtain ⟨q29, q29z, q29f⟩ := S27.cell 0 rfl
      go_wp2_with fail
      refine (k3 A15 c16 A23 c24 _ (S27.prd 1 rfl) (S27.prd 0 rfl)).mono ?_
      rintro e w30 ⟨rfl, b31⟩
      have S32 := S27.below b31
      clear S27 b31
      clear q28 q28z q28f q29 q29z q29f
      obtain ⟨q33, q33z, q33f⟩ := S32.cell 3 rfl
      obtain ⟨q34, q34z, q34f⟩ := S32.cell 2 rfl
      obtain ⟨q35, q35z, q35f⟩ := S32.cell 1 rfl
      go_wp2_with fail
      refine (k4 A15 c16 _ (S32.rd ha) (S32.prd 1 rfl)).mono ?_
      rintro e w36 ⟨A37, c38, A39, c40, rfl, o41, o42, b43⟩
      have S44 := ((((S32.below b43).pend_ o41 S32.size).pend_ o42 S32.size).put (.slice A37 x.length c38)).put (.slice A39 0 c40)
      simp only [World.size_alloc] at S44
      clear S32 o41 o42 b43
      clear q33 q33z q33f q34 q34z q34f q35 q35z q35f
      obtain ⟨q45, q45z, q45f⟩ := S44.cell 4 rfl
      obtain ⟨q46, q46z, q46f⟩ := S44.cell 3 rfl
      go_wp2_with fail
      refine (k5 A15 c16 _ (S44.rd hb) (S44.prd 3 rfl)).mono ?_
      rintro e w47 ⟨A48, c49, A50, c51, rfl, o52, o53, b54⟩
      have S55 := ((((S44.below b54).pend_ o52 S44.size).pend_ o53 S44.size).put (.slice A48 y.length c49)).put (.slice A50 0 c51)
      simp only [World.size_alloc] at S55
      clear S44 o52 o53 b54
      clear q45 q45z q45f q46 q46z q46f
      obtain ⟨q56, q56z, q56f⟩ := S55.cell 3 rfl
      obtain ⟨q57, q57z, q57f⟩ := S55.cell 1 rfl
      go_wp2_with fail
      refine (k6 A37 c38 A48 c49 _ (S55.prd 3 rfl) (S55.prd 1 rfl)).mono ?_
      rintro e w58 ⟨A59, c60, rfl, o61, b62⟩
      have S63 := ((S55.below b62).pend_ o61 S55.size).put (.slice A59 o.length c60)
      clear S55 o61 b62
      clear q56 q56z q56f q57 q57z q57f
      obtain ⟨q64, q64z, q64f⟩ := S63.cell 3 rfl
      obtain ⟨q65, q65z, q65f⟩ := S63.cell 1 rfl
      obtain ⟨q66, q66z, q66f⟩ := S63.cell 0 rfl
      go_wp2_with fail
      have SZ := S63
      generalize hWZ : w58.alloc (.cells #[.slice A59 o.length c60] 35) = WZ at *
      clear hWZ
      generalize w58.heap.size = Bo at *
      have SD := SZ.drew
      go_region_held3 (fun w' => w'.cell? ⟨w36.heap.size + 1, 0, none⟩ = some (.slice A39 0 c40) ∧ w'.cell? ⟨w47.heap.size + 1, 0, none⟩ = some (.slice A50 0 c51) ∧ w'.cell? ⟨Bo, 0, none⟩ = some (.slice A59 o.length c60)) (first | exact ⟨q64, q65, q66⟩ | exact ⟨j0, j1, j2⟩ | exact ⟨i0, i1, i2⟩ | go_keep)
        (first
         | (go_at_call 21; (with_reducible refine (k7 _).mono ?_); rintro e wo ⟨Ao1, co1, rfl, oo1, bo1⟩; have SE := (SD.below bo1).pend_ oo1 SD.size; have j0 := (SE.cell 3 rfl).1; have j1 := (SE.cell 1 rfl).1; have j2 := (SE.cell 0 rfl).1)
         | (go_at_call 47; (with_reducible refine (k8 A59 c60 Ao1 co1 _ (SE.prd 1 rfl) (SE.prd 0 rfl)).mono ?_); rintro e wp ⟨rfl, bp1⟩; have SF := SE.below bp1; have i0 := (SF.cell 3 rfl).1; have i1 := (SF.cell 1 rfl).1; have i2 := (SF.cell 0 rfl).1))
      all_goals (
        go_wp2
        go_ret
        exact ⟨rfl, SF.bel⟩))
  · have hcase : decide (chk a = 0 ∧ ((a.length : Nat) : Int) ≤ 300) = false ∨ (decide (chk a = 0 ∧ ((a.length : Nat) : Int) ≤ 300) = true ∧ decide (chk b = 0 ∧ ((b.length : Nat) : Int) ≤ 300) = false) := by
      simp only [decide_eq_false_iff_not, decide_eq_true_iff]
      by_cases h1 : (chk a = 0 ∧ ((a.length : Nat) : Int) ≤ 300)
      · exact .inr ⟨h1, fun h2 => hs ⟨h1, h2⟩⟩
      · exact .inl h1
    clear hs hn hm
    generalize decide (chk a = 0 ∧ ((a.length : Nat) : Int) ≤ 300) = da at *
    generalize decide (chk b = 0 ∧ ((b.length : Nat) : Int) ≤ 300) = db at *
    go_enter Try.func8, Try.ntmps8
    go_wp2_with fail
    refine (alive_any _).mono ?_
    rintro e w1 ⟨rfl, b1⟩
    have S1 := S0.below b1
    obtain ⟨q1, q1z, q1f⟩ := S1.cell 1 rfl
    go_wp2_with fail
    refine (sa _ (S1.rd ha)).mono ?_
    rintro e w2 ⟨rfl, b2⟩
    have S2 := S1.below b2
    obtain ⟨q2, q2z, q2f⟩ := S2.cell 0 rfl
    rcases hcase with rfl | ⟨rfl, rfl⟩
    · go_wp2
      go_ret
      exact ⟨rfl, S2.bel⟩
    · go_wp2_with fail
      refine (sb _ (S2.rd hb)).mono ?_
      rintro e w3 ⟨rfl, b3⟩
      have S3 := S2.below b3
      go_wp2
      go_ret
      exact ⟨rfl, S3.bel⟩

theorem own : ownKnob Try.prog.godebug = none := by kernel_rfl
theorem laidOut : laidOutB Try.prog = true := by kernel_rfl

theorem lifted (os : Os) (started : os.Started) (H : Type) (enc : TypeId × Value → H) :
    ReturnsInHanded {} Try.checked os 8 .any (Rows.natCommonSpec.pre6 enc Try.prog Try.f8 Rows.natCommonRow.domain false) (Rows.natCommonSpec.post enc Try.prog Try.f8 false true false false) := by
  refine returnsInHanded_of_change_sized (C := Try.checked) own started (by kernel_rfl) Try.func8
    (ChangeSpec.witness6 (enc := enc) (C := Try.checked) false ⟨#[], #[.agg #[.slice none 0 0], .agg #[.slice none 0 0]], []⟩ 8 (by kernel_rfl) (by kernel_rfl) (by kernel_rfl) (by kernel_rfl)) ?_
  intro W base args ds gs before hval0 hW hcnd hsz0 _
  have hval : ∀ (j : Nat) t v, Try.f8.params[j]? = some t → args[j]? = some v → Value.okWide Try.prog W .any base t v := hval0
  have hsz : (DataW.weightsEach Try.prog (Try.f8.params.toList ++ Rows.natCommonSpec.plain.varTypes Try.prog) (ds ++ gs)).all (· ≤ reachBytes) = true := hsz0
  have hW' := hW
  obtain ⟨p, q, hA0, hV, rfl, hfz, hnd⟩ := hW
  have hA : DataW.TrodAll enc Try.prog W 0 (fun _ => true) true Try.f8.params.toList args.toList ds p := hA0
  rw [Try.params8] at hA hval hsz
  obtain ⟨v0, vs0, d0, ds0, p0, q0, hargs, rfl, rfl, h0, r0⟩ := trodAll_cons hA
  obtain ⟨v1, vs1, d1, ds1, p1, q1, rfl, rfl, rfl, h1, r1⟩ := trodAll_cons r0
  obtain ⟨rfl, rfl, rfl⟩ := trodAll_nil r1
  obtain rfl : args = #[v0, v1] := by cases args; simp_all
  obtain ⟨rfl, rfl⟩ := trodVars_none hV
  have k0 := h0
  have lt0 : ∀ x ∈ p0, x.block < W.heap.size := by obtain ⟨m, hm⟩ := k0; exact DataW.trod_lt m _ _ _ hm
  obtain ⟨A0, n0, c0, l0, I0⟩ := open_nat (hval 0 35 v0 rfl rfl) h0 hsz (j := 0) rfl rfl
  obtain rfl := I0.val_
  have k1 := h1
  have lt1 : ∀ x ∈ p1, x.block < W.heap.size := by obtain ⟨m, hm⟩ := k1; exact DataW.trod_lt m _ _ _ hm
  obtain ⟨A1, n1, c1, l1, I1⟩ := open_nat (hval 1 35 v1 rfl rfl) h1 hsz (j := 1) rfl rfl
  obtain rfl := I1.val_
  clear hA0 hval0 hsz0
  simp only [List.append_nil] at hW'
  refine (walk A0 A1 l0 l1 n0 n1 c0 c1 I0.len I1.len W I0.rd I1.rd).mono fun e W' ⟨he, bel⟩ => ?_
  subst he
  exact ⟨_, rfl, _, _, _, [], _, [], hW', trodAll_cons_mk (shut_bool Try.underlying4 _) trodAll_mk0, trodAll_cons_mk (Below.trod laidOut (by kernel_rfl) (of_decide_eq_true (by kernel_rfl)) k0 bel lt0) (trodAll_cons_mk (Below.trod laidOut (by kernel_rfl) (of_decide_eq_true (by kernel_rfl)) k1 bel lt1) trodAll_mk0), rfl, bel.frame _, fun h => by cases h⟩

theorem over : Rows.natCommonRow.holds Try.pinned (OpenSpec.ofChange Rows.natCommonSpec) :=
  OpenClaim.holds_of_wide 8 Try.f8 rfl rfl rfl rfl rfl rfl rfl ⟨rfl, rfl, rfl, rfl, rfl⟩ rfl rfl rfl rfl rfl (by kernel_rfl) Try.func8 (by kernel_rfl)
    (of_decide_eq_true (by kernel_rfl)) (by unfold Func.isWrapper; first | (rw [if_pos (by decide +kernel)]; kernel_rfl) | (rw [if_neg (by decide +kernel)]; exact ⟨rfl, rfl⟩))
    (fun os started H enc _ => lifted os started H enc)

theorem proved : Rows.NatCommonSaid := over
#print axioms proved
end Go.Proofs.Ytkepjhgafpbecaa.natCommon
