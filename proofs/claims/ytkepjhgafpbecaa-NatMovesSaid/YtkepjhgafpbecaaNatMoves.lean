/- NatMoves: Up by n is Mul by 2 to the power of n, Down by n the quotient by it; Down of Up takes back; each bit of Up is the bit n places lower. No condition. -/
import Derived.Test.YtkepjhgafpbecaaRows
import Derived.Test.YtkepjhgafpbecaaAlive
import Derived.Test.YtkepjhgafpbecaaMoves
namespace Go.Proofs.Ytkepjhgafpbecaa.natMoves
open Go.ChangeShapes Go.WideShapes Go.ChangeAt Go.RowKit
open Go.ChangeMaps (open_string shut_string)
open Go.RowKit
set_option linter.unusedVariables false
set_option linter.unusedSimpArgs false
set_option maxHeartbeats 4000000
set_option maxRecDepth 100000

theorem walk (A : Option Addr) (a : List Nat) (n c : Nat) (N I : Int) (hn : n = a.length) (hc : n ≤ c) (bN : 0 ≤ N ∧ N ≤ 65535) (bI : 0 ≤ I ∧ I ≤ 65535) (w : World) (ha : Rd w A a) :
    Calls Try.prog 12 #[.agg #[.slice A n c], .int .u16 N, .int .u16 I] w fun e w' => e = .returned (.bool true) ∧ Below w.heap.size w w' := by
  obtain ⟨v, rfl⟩ : ∃ v : Nat, N = (v : Int) := ⟨N.toNat, by omega⟩
  obtain ⟨i, rfl⟩ : ∃ i : Nat, I = (i : Int) := ⟨I.toNat, by omega⟩
  obtain ⟨by_, hby⟩ : ∃ k, k = v % 5001 := ⟨_, rfl⟩
  have hbyI : (v : Int) % 5001 = (by_ : Int) := by omega
  have hbyT : (v : Int).tmod 5001 = (by_ : Int) := by rw [Int.tmod_eq_emod_of_nonneg (by omega)]; exact hbyI
  have hb5 : by_ ≤ 5000 := by omega
  have hi16 : i ≤ 65535 := by omega
  have S0 := (Sq.init w).put (.slice A n c)
  have k0 := fun W h => small_any A a n c hn 4000 (by decide) W h
  by_cases hs : chk a = 0 ∧ a.length ≤ 4000
  · rw [decide_eq_true (show chk a = 0 ∧ ((a.length : Nat) : Int) ≤ 4000 from ⟨hs.1, by omega⟩)] at k0
    obtain ⟨m1, m2, m3, m4, m5, m6, m7, m8, m9⟩ := moves_plain ha.sm hs.1 hs.2 hb5 i
    have k1 := fun W => nat_Pow 2 2 rfl (by decide) (by_ : Int) (by omega) (by omega) W
    have k2 := fun W h => nat_Up A a n c hn (by_ : Int) (by omega) (by omega) W h
    have k3 := fun A' c' W h h' => nat_Mul A A' a (limbs (2 ^ by_)) n _ c c' hn rfl W h h'
    have k4 := fun W h => nat_Down A a n c hn hc (by_ : Int) (by omega) (by omega) W h
    have k5 := fun A' c' W h h' => nat_Div A A' a (limbs (2 ^ by_)) _ n c c' hn rfl W h h'
    have k6 := fun A' c' hl W h => nat_Down A' (limbs (val a * 2 ^ by_)) _ c' rfl hl (by_ : Int) (by omega) (by omega) W h
    have k7 := fun A' c' W h => nat_Bit A' (limbs (val a * 2 ^ by_)) _ c' rfl ((i : Int) + (by_ : Int)) (by omega) (by omega) W h
    have k8 := fun W h => nat_Bit A a n c hn (i : Int) (by omega) (by omega) W h
    have k9 := fun W h => nat_Bits A a n c hn W h
    have k10 := fun A' c' W h => nat_Bits A' (limbs (val a * 2 ^ by_)) _ c' rfl W h
    have k11 := fun A' c' B' d' W h h' => ref_Same A' B' (limbs (val a * 2 ^ by_)) (limbs (val a * 2 ^ by_)) _ _ c' d' rfl rfl W h h'
    have k12 := fun A' c' B' d' W h h' => ref_Same A' B' (limbs (val a / 2 ^ by_)) (limbs (val a / 2 ^ by_)) _ _ c' d' rfl rfl W h h'
    have k13 := fun A' c' W h h' => ref_Same A' A a a _ n c' c rfl hn W h h'
    rw [m1] at k1
    rw [m2] at k2
    rw [m3] at k3
    rw [m4] at k4
    rw [m5] at k5
    rw [m6] at k6
    rw [m7] at k7
    rw [m8] at k8
    rw [m9.1] at k9
    rw [m9.2.1] at k10
    rw [decide_eq_true rfl] at k11 k12 k13
    have hbl := m9.2.2.1
    have hx128 := m9.2.2.2
    generalize (val a).testBit i = tb at *
    generalize bitLen (val a) = x at *
    generalize bitLen (val a * 2 ^ by_) = y at *
    generalize limbs (2 ^ by_) = t at *
    generalize limbs (val a * 2 ^ by_) = u at *
    generalize limbs (val a / 2 ^ by_) = h at *
    generalize limbs (val a % 2 ^ by_) = r at *
    have HBL := Lib.hid hbl
    clear m1 m2 m3 m4 m5 m6 m7 m8 m9 hs hby hn hc hbl
    go_enter Try.func12, Try.ntmps12
    go_wp2_with fail
    refine (alive_any _).mono ?_
    rintro e w1 ⟨rfl, b2⟩
    have S3 := S0.below b2
    clear S0 b2
    obtain ⟨q4, q4z, q4f⟩ := S3.cell 0 rfl
    go_wp2_with fail
    refine (k0 _ (S3.rd ha)).mono ?_
    rintro e w5 ⟨rfl, b6⟩
    have S7 := S3.below b6
    clear S3 b6
    clear q4 q4z q4f
    obtain ⟨q8, q8z, q8f⟩ := S7.cell 0 rfl
    go_wp2_with fail
    refine (k1 _).mono ?_
    rintro e w9 ⟨A10, c11, rfl, o12, b13⟩
    have S14 := ((S7.below b13).pend_ o12 S7.size).put (.slice A10 t.length c11)
    clear S7 o12 b13
    clear q8 q8z q8f
    obtain ⟨q15, q15z, q15f⟩ := S14.cell 1 rfl
    go_wp2_with fail
    refine (k2 _ (S14.rd ha)).mono ?_
    rintro e w16 ⟨A17, c18, rfl, o19, b20⟩
    have S21 := ((S14.below b20).pend_ o19 S14.size).put (.slice A17 u.length c18)
    clear S14 o19 b20
    clear q15 q15z q15f
    obtain ⟨q22, q22z, q22f⟩ := S21.cell 2 rfl
    obtain ⟨q23, q23z, q23f⟩ := S21.cell 1 rfl
    go_wp2_with fail
    refine (k3 A10 c11 _ (S21.rd ha) (S21.prd 1 rfl)).mono ?_
    rintro e w24 ⟨A25, c26, rfl, o27, b28⟩
    have S29 := ((S21.below b28).pend_ o27 S21.size).put (.slice A25 u.length c26)
    clear S21 o27 b28
    clear q22 q22z q22f q23 q23z q23f
    obtain ⟨q30, q30z, q30f⟩ := S29.cell 3 rfl
    go_wp2_with fail
    refine (k4 _ (S29.rd ha)).mono ?_
    rintro e w31 ⟨A32, c33, rfl, o34, b35⟩
    have S36 := ((S29.below b35).pend_ o34 S29.size).put (.slice A32 h.length c33)
    clear S29 o34 b35
    clear q30 q30z q30f
    obtain ⟨q37, q37z, q37f⟩ := S36.cell 4 rfl
    obtain ⟨q38, q38z, q38f⟩ := S36.cell 3 rfl
    go_wp2_with fail
    refine (k5 A10 c11 _ (S36.rd ha) (S36.prd 3 rfl)).mono ?_
    rintro e w39 ⟨A40, c41, A42, c43, rfl, o44, o45, b46⟩
    have S47 := ((((S36.below b46).pend_ o44 S36.size).pend_ o45 S36.size).put (.slice A40 h.length c41)).put (.slice A42 r.length c43)
    simp only [World.size_alloc] at S47
    clear S36 o44 o45 b46
    clear q37 q37z q37f q38 q38z q38f
    obtain ⟨q48, q48z, q48f⟩ := S47.cell 4 rfl
    go_wp2_with fail
    refine (k6 A17 c18 (own_cap (S47.own 4 rfl)) _ (S47.prd 4 rfl)).mono ?_
    rintro e w49 ⟨A50, c51, rfl, o52, b53⟩
    have S54 := ((S47.below b53).pend_ o52 S47.size).put (.slice A50 a.length c51)
    clear S47 o52 b53
    clear q48 q48z q48f
    obtain ⟨q55, q55z, q55f⟩ := S54.cell 5 rfl
    go_wp2_with fail
    refine (k7 A17 c18 _ (S54.prd 5 rfl)).mono ?_
    rintro e w56 ⟨rfl, b57⟩
    have S58 := S54.below b57
    clear S54 b57
    clear q55 q55z q55f
    obtain ⟨q59, q59z, q59f⟩ := S58.cell 7 rfl
    go_wp2_with fail
    refine (k8 _ (S58.rd ha)).mono ?_
    rintro e w60 ⟨rfl, b61⟩
    have S62 := S58.below b61
    clear S58 b61
    clear q59 q59z q59f
    obtain ⟨q63, q63z, q63f⟩ := S62.cell 7 rfl
    go_wp2_with fail
    refine (k9 _ (S62.rd ha)).mono ?_
    rintro e w64 ⟨rfl, b65⟩
    have S66 := S62.below b65
    clear S62 b65
    clear q63 q63z q63f
    obtain ⟨q67, q67z, q67f⟩ := S66.cell 5 rfl
    go_wp2_with fail
    refine (k10 A17 c18 _ (S66.prd 5 rfl)).mono ?_
    rintro e w68 ⟨rfl, b69⟩
    have S70 := S66.below b69
    clear S66 b69
    clear q67 q67z q67f
    obtain ⟨q71, q71z, q71f⟩ := S70.cell 5 rfl
    obtain ⟨q72, q72z, q72f⟩ := S70.cell 4 rfl
    go_wp2_with fail
    refine (k11 A17 c18 A25 c26 _ (S70.prd 5 rfl) (S70.prd 4 rfl)).mono ?_
    rintro e w73 ⟨rfl, b74⟩
    have S75 := S70.below b74
    clear S70 b74
    clear q71 q71z q71f q72 q72z q72f
    obtain ⟨q76, q76z, q76f⟩ := S75.cell 3 rfl
    obtain ⟨q77, q77z, q77f⟩ := S75.cell 2 rfl
    go_wp2_with fail
    refine (k12 A32 c33 A40 c41 _ (S75.prd 3 rfl) (S75.prd 2 rfl)).mono ?_
    rintro e w78 ⟨rfl, b79⟩
    have S80 := S75.below b79
    clear S75 b79
    clear q76 q76z q76f q77 q77z q77f
    obtain ⟨q81, q81z, q81f⟩ := S80.cell 0 rfl
    obtain ⟨q82, q82z, q82f⟩ := S80.cell 7 rfl
    go_wp2_with fail
    refine (k13 A50 c51 _ (S80.prd 0 rfl) (S80.rd ha)).mono ?_
    rintro e w83 ⟨rfl, b84⟩
    have S85 := S80.below b84
    clear S80 b84
    clear q81 q81z q81f q82 q82z q82f
    go_wp2
    all_goals (
      first
      | (exfalso; have hbl := HBL.out; unfold wrap64 at *; omega)
      | (go_ret; exact ⟨rfl, S85.bel⟩)
      | (go_ret; refine ⟨congrArg Ending.returned (congrArg Value.bool ?_), S85.bel⟩; have hbl := HBL.out; simp only [Bool.or_eq_true, beq_iff_eq]; omega))
  · rw [decide_eq_false (show ¬ (chk a = 0 ∧ ((a.length : Nat) : Int) ≤ 4000) from fun h => hs ⟨h.1, by omega⟩)] at k0
    clear hs hby hn hc
    go_enter Try.func12, Try.ntmps12
    go_wp2_with fail
    refine (alive_any _).mono ?_
    rintro e w1 ⟨rfl, b1⟩
    have S1 := S0.below b1
    obtain ⟨q1, q1z, q1f⟩ := S1.cell 0 rfl
    go_wp2_with fail
    refine (k0 _ (S1.rd ha)).mono ?_
    rintro e w2 ⟨rfl, b2⟩
    have S2 := S1.below b2
    go_wp2
    go_ret
    exact ⟨rfl, S2.bel⟩

theorem own : ownKnob Try.prog.godebug = none := by kernel_rfl
theorem laidOut : laidOutB Try.prog = true := by kernel_rfl

theorem lifted (os : Os) (started : os.Started) (H : Type) (enc : TypeId × Value → H) :
    ReturnsInHanded {} Try.checked os 12 .any (Rows.natMovesSpec.pre6 enc Try.prog Try.f12 Rows.natMovesRow.domain false) (Rows.natMovesSpec.post enc Try.prog Try.f12 false true false false) := by
  refine returnsInHanded_of_change_sized (C := Try.checked) own started (by kernel_rfl) Try.func12
    (ChangeSpec.witness6 (enc := enc) (C := Try.checked) false ⟨#[], #[.agg #[.slice none 0 0], .int .u16 0, .int .u16 0], []⟩ 8 (by kernel_rfl) (by kernel_rfl) (by kernel_rfl) (by kernel_rfl)) ?_
  intro W base args ds gs before hval0 hW hcnd hsz0 _
  have hval : ∀ (j : Nat) t v, Try.f12.params[j]? = some t → args[j]? = some v → Value.okWide Try.prog W .any base t v := hval0
  have hsz : (DataW.weightsEach Try.prog (Try.f12.params.toList ++ Rows.natMovesSpec.plain.varTypes Try.prog) (ds ++ gs)).all (· ≤ reachBytes) = true := hsz0
  have hW' := hW
  obtain ⟨p, q, hA0, hV, rfl, hfz, hnd⟩ := hW
  have hA : DataW.TrodAll enc Try.prog W 0 (fun _ => true) true Try.f12.params.toList args.toList ds p := hA0
  rw [Try.params12] at hA hval hsz
  obtain ⟨v0, vs0, d0, ds0, p0, q0, hargs, rfl, rfl, h0, r0⟩ := trodAll_cons hA
  obtain ⟨v1, vs1, d1, ds1, p1, q1, rfl, rfl, rfl, h1, r1⟩ := trodAll_cons r0
  obtain ⟨v2, vs2, d2, ds2, p2, q2, rfl, rfl, rfl, h2, r2⟩ := trodAll_cons r1
  obtain ⟨rfl, rfl, rfl⟩ := trodAll_nil r2
  obtain rfl : args = #[v0, v1, v2] := by cases args; simp_all
  obtain ⟨rfl, rfl⟩ := trodVars_none hV
  have k0 := h0
  have lt0 : ∀ x ∈ p0, x.block < W.heap.size := by obtain ⟨m, hm⟩ := k0; exact DataW.trod_lt m _ _ _ hm
  obtain ⟨A0, n0, c0, l0, I0⟩ := open_nat (hval 0 35 v0 rfl rfl) h0 hsz (j := 0) rfl rfl
  obtain rfl := I0.val_
  obtain ⟨a1, rfl, rfl, rfl, w1⟩ := open_int Try.underlying63 (hval 1 63 v1 rfl rfl) h1
  have b1 := bounds_u16 w1
  obtain ⟨a2, rfl, rfl, rfl, w2⟩ := open_int Try.underlying63 (hval 2 63 v2 rfl rfl) h2
  have b2 := bounds_u16 w2
  clear hA0 hval0 hsz0
  simp only [List.append_nil] at hW'
  refine (walk A0 l0 n0 c0 a1 a2 I0.len I0.cap b1 b2 W I0.rd).mono fun e W' ⟨he, bel⟩ => ?_
  subst he
  exact ⟨_, rfl, _, _, _, [], _, [], hW', trodAll_cons_mk (shut_bool Try.underlying4 _) trodAll_mk0, trodAll_cons_mk (Below.trod laidOut (by kernel_rfl) (of_decide_eq_true (by kernel_rfl)) k0 bel lt0) (trodAll_cons_mk (shut_int Try.underlying63 w1) (trodAll_cons_mk (shut_int Try.underlying63 w2) trodAll_mk0)), rfl, bel.frame _, fun h => by cases h⟩

theorem over : Rows.natMovesRow.holds Try.pinned (OpenSpec.ofChange Rows.natMovesSpec) :=
  OpenClaim.holds_of_wide 12 Try.f12 rfl rfl rfl rfl rfl rfl rfl ⟨rfl, rfl, rfl, rfl, rfl⟩ rfl rfl rfl rfl rfl (by kernel_rfl) Try.func12 (by kernel_rfl)
    (of_decide_eq_true (by kernel_rfl)) (by unfold Func.isWrapper; first | (rw [if_pos (by decide +kernel)]; kernel_rfl) | (rw [if_neg (by decide +kernel)]; exact ⟨rfl, rfl⟩))
    (fun os started H enc _ => lifted os started H enc)

theorem proved : Rows.NatMovesSaid := over
#print axioms proved
end Go.Proofs.Ytkepjhgafpbecaa.natMoves
