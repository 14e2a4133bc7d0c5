/- NatParts: the quotient times b and the remainder make a again, and the remainder is below b; of b nought there are none. No condition. -/
import Derived.Test.YtkepjhgafpbecaaRows
import Derived.Test.YtkepjhgafpbecaaAlive
import Derived.Test.YtkepjhgafpbecaaAdd
import Derived.Test.YtkepjhgafpbecaaCmp
import Derived.Test.YtkepjhgafpbecaaSm
import Derived.Test.YtkepjhgafpbecaaM
import Derived.Test.YtkepjhgafpbecaaOpen
namespace Go.Proofs.Ytkepjhgafpbecaa.natParts
open Go.ChangeShapes Go.WideShapes Go.ChangeAt Go.RowKit
open Go.ChangeMaps (open_string shut_string)
open Go.RowKit
set_option linter.unusedVariables false
set_option linter.unusedSimpArgs false
set_option maxHeartbeats 4000000
set_option maxRecDepth 100000

theorem chk_limbs {x : Nat} (h : (limbs x).length ≤ 16384) : chk (limbs x) = 0 := by
  unfold chk; rw [if_neg (by omega), if_neg (last_limbs x)]
theorem chk2_limbs {x y : Nat} (hx : (limbs x).length ≤ 16384) (hy : (limbs y).length ≤ 16384) : chk2 (limbs x) (limbs y) = 0 := by
  unfold chk2; rw [if_pos (chk_limbs hx)]; exact chk_limbs hy
theorem addS_limbs {x y : Nat} (hx : (limbs x).length ≤ 16384) (hy : (limbs y).length ≤ 16384) : addS (limbs x) (limbs y) = Go.Proofs.Ytkepjhgafpbecaa.fitS (x + y) := by
  unfold addS; rw [if_pos (chk2_limbs hx hy), val_limbs, val_limbs]
theorem cmp_less {x y : Nat} (hx : (limbs x).length ≤ 16384) (hy : (limbs y).length ≤ 16384) (h : x < y) : cmpS (limbs x) (limbs y) = (-1, 0) := by
  unfold cmpS
  rw [if_pos (chk2_limbs hx hy), cmpL_canon (sm_limbs x) (sm_limbs y) (last_limbs x) (last_limbs y), val_limbs, val_limbs]
  unfold cmpV
  rw [if_pos h]
/-- The law, in plain numbers. -/
theorem plain {a b : List Nat} (ha : Sm a) (hb : Sm b) (hz : chk2 a b = 0) (h0 : val b ≠ 0) :
    divS a b = (limbs (val a / val b), limbs (val a % val b), 0) ∧ mulS (limbs (val a / val b)) b = (limbs (val a / val b * val b), 0) ∧ addS (limbs (val a / val b * val b)) (limbs (val a % val b)) = (a, 0) ∧ cmpS (limbs (val a % val b)) b = (-1, 0) := by
  have hca := limbs_of ha (chk_zero (chk2_zero hz).1).2
  have hcb := limbs_of hb (chk_zero (chk2_zero hz).2).2
  have hla := (chk_zero (chk2_zero hz).1).1
  have hlb := (chk_zero (chk2_zero hz).2).1
  have hd : divS a b = (limbs (val a / val b), limbs (val a % val b), 0) := by unfold divS; rw [if_pos hz, if_neg h0]
  generalize val a = x at *
  generalize val b = y at *
  subst hca hcb
  have l1 : (limbs (x / y)).length ≤ 16384 := Nat.le_trans (limbs_mono (Nat.div_le_self _ _)) hla
  have l2 : (limbs (x % y)).length ≤ 16384 := Nat.le_trans (limbs_mono (Nat.mod_le _ _)) hla
  have l3 : (limbs (x / y * y)).length ≤ 16384 := Nat.le_trans (limbs_mono (Nat.div_mul_le_self _ _)) hla
  refine ⟨hd, ?_, ?_, ?_⟩
  · rw [mulS_limbs l1 hlb, fitS_ok l3]
  · rw [addS_limbs l3 l2, Nat.mul_comm, Nat.div_add_mod, fitS_ok hla]
  · exact cmp_less l2 hlb (Nat.mod_lt _ (by omega))

theorem walk (A B : Option Addr) (a b : List Nat) (n m c d : Nat) (hn : n = a.length) (hm : m = b.length) (w : World) (ha : Rd w A a) (hb : Rd w B b) :
    Calls Try.prog 10 #[.agg #[.slice A n c], .agg #[.slice B m d]] w fun e w' => e = .returned (.bool true) ∧ Below w.heap.size w w' := by
  have S0 := ((Sq.init w).put (.slice A n c)).put (.slice B m d)
  simp only [World.size_alloc] at S0
  have HN := Lib.hid hn
  have HM := Lib.hid hm
  by_cases hok : chk2 a b = 0 ∧ val b ≠ 0
  · obtain ⟨hd, hmu, had, hcm⟩ := plain ha.sm hb.sm hok.1 hok.2
    have k1 := fun W h h' => nat_Div A B a b m n c d hn hm W h h'
    have k2 := fun A' c' W h h' => nat_Mul A' B (limbs (val a / val b)) b _ m c' d rfl hm W h h'
    have k3 := fun A' c' B' d' W h h' => nat_Add A' B' (limbs (val a / val b * val b)) (limbs (val a % val b)) _ _ c' d' rfl rfl W h h'
    have k4 := fun A' c' W h h' => nat_Cmp A' B (limbs (val a % val b)) b _ m c' d rfl hm W h h'
    have k5 := fun A' c' W h h' => ref_Same A' A a a _ n c' c rfl hn W h h'
    rw [hd] at k1
    rw [hmu] at k2
    rw [had] at k3
    rw [hcm] at k4
    rw [decide_eq_true (rfl : a = a)] at k5
    generalize limbs (val a / val b) = q at *
    generalize limbs (val a % val b) = r at *
    generalize limbs (val a / val b * val b) = p at *
    clear hd hmu had hcm hok hn hm
    go_enter Try.func10, Try.ntmps10
    go_wp2_with fail
    refine (alive_any _).mono ?_
    rintro e w1 ⟨rfl, b1⟩
    have S1 := S0.below b1
    obtain ⟨x0, x0z, _⟩ := S1.cell 0 rfl
    obtain ⟨x1, x1z, _⟩ := S1.cell 1 rfl
    clear S0 b1
    go_wp2_with fail
    refine (k1 _ (S1.rd ha) (S1.rd hb)).mono ?_
    rintro e w2 ⟨A2, c2, A3, c3, rfl, o2, o3, b2⟩
    have S2 := ((S1.below b2).pend_ o2 S1.size).pend_ o3 S1.size
    have S3 := (S2.put (.slice A2 q.length c2)).put (.slice A3 r.length c3)
    simp only [World.size_alloc] at S3
    obtain ⟨x0', x0z', _⟩ := S3.cell 2 rfl
    obtain ⟨x1', x1z', _⟩ := S3.cell 3 rfl
    obtain ⟨yr, yrz, _⟩ := S3.cell 0 rfl
    obtain ⟨yq, yqz, _⟩ := S3.cell 1 rfl
    clear S1 S2 o2 o3 b2 x0 x0z x1 x1z
    go_wp2_with fail
    refine (k2 A2 c2 _ (S3.prd 1 rfl) (S3.rd hb)).mono ?_
    rintro e w3 ⟨A4, c4, rfl, o4, b4⟩
    have S4 := ((S3.below b4).pend_ o4 S3.size).put (.slice A4 p.length c4)
    obtain ⟨z0, z0z, _⟩ := S4.cell 3 rfl
    obtain ⟨z1, z1z, _⟩ := S4.cell 4 rfl
    obtain ⟨zr, zrz, _⟩ := S4.cell 1 rfl
    obtain ⟨zp, zpz, _⟩ := S4.cell 0 rfl
    clear S3 o4 b4 x0' x0z' x1' x1z' yr yrz yq yqz
    go_wp2_with fail
    refine (k3 A4 c4 A3 c3 _ (S4.prd 0 rfl) (S4.prd 1 rfl)).mono ?_
    rintro e w4 ⟨A5, c5, rfl, o5, b5⟩
    have S5 := ((S4.below b5).pend_ o5 S4.size).put (.slice A5 a.length c5)
    obtain ⟨t0, t0z, _⟩ := S5.cell 4 rfl
    obtain ⟨t1, t1z, _⟩ := S5.cell 5 rfl
    obtain ⟨tr, trz, _⟩ := S5.cell 2 rfl
    obtain ⟨ts, tsz, _⟩ := S5.cell 0 rfl
    clear S4 o5 b5 z0 z0z z1 z1z zr zrz zp zpz
    go_wp2_with fail
    refine (k4 A3 c3 _ (S5.prd 2 rfl) (S5.rd hb)).mono ?_
    rintro e w5 ⟨rfl, b6⟩
    have S6 := S5.below b6
    obtain ⟨u1, u1z, _⟩ := S6.cell 5 rfl
    obtain ⟨us, usz, _⟩ := S6.cell 0 rfl
    clear S5 b6 t0 t0z t1 t1z tr trz ts tsz
    go_wp2_with fail
    refine (k5 A5 c5 _ (S6.prd 0 rfl) (S6.rd ha)).mono ?_
    rintro e w6 ⟨rfl, b7⟩
    go_wp2
    go_ret
    exact ⟨rfl, (S6.below b7).bel⟩
  · have hd : divS a b = ([], [], if chk2 a b = 0 then 11 else chk2 a b) := by
      unfold divS
      by_cases hz : chk2 a b = 0
      · rw [if_pos hz, if_pos hz, if_pos (by omega)]
      · rw [if_neg hz, if_neg hz]
    have k1 := fun W h h' => nat_Div A B a b m n c d hn hm W h h'
    rw [hd] at k1
    have k2 := fun W h => nat_Check A a n c hn W h
    have k3 := fun W h => nat_Check B b m d hm W h
    clear hd
    have hcase : chk a ≠ 0 ∨ (chk a = 0 ∧ chk b ≠ 0) ∨ (chk a = 0 ∧ chk b = 0 ∧ m = 0) := by
      by_cases h1 : chk a = 0
      · by_cases h2 : chk b = 0
        · refine .inr (.inr ⟨h1, h2, ?_⟩)
          have h3 : val b = 0 := by
            rcases Nat.eq_zero_or_pos (val b) with h | h
            · exact h
            · exact absurd ⟨by unfold chk2; rw [if_pos h1, h2], by omega⟩ hok
          have h4 := limbs_of hb.sm (chk_zero h2).2
          rw [h3, limbs_zero] at h4
          rw [hm, ← h4]; rfl
        · exact .inr (.inl ⟨h1, h2⟩)
      · exact .inl h1
    have hne : ((if chk2 a b = 0 then (11 : Int) else chk2 a b) != 0) = true := by
      rw [bne_iff_ne]; split
      · decide
      · assumption
    have HE : Hid (m = 0 → chk b = 0 → chk a = 0 → (if chk2 a b = 0 then (11 : Int) else chk2 a b) = 11) := by
      intro _ h2 h3
      rw [if_pos (by unfold chk2; rw [if_pos h3, h2])]
    generalize (if chk2 a b = 0 then (11 : Int) else chk2 a b) = er at *
    clear hok hn hm
    go_enter Try.func10, Try.ntmps10
    go_wp2_with fail
    refine (alive_any _).mono ?_
    rintro e w1 ⟨rfl, b1⟩
    have S1 := S0.below b1
    obtain ⟨x0, x0z, _⟩ := S1.cell 0 rfl
    obtain ⟨x1, x1z, _⟩ := S1.cell 1 rfl
    clear S0 b1
    go_wp2_with fail
    refine (k1 _ (S1.rd ha) (S1.rd hb)).mono ?_
    rintro e w2 ⟨A2, c2, A3, c3, rfl, o2, o3, b2⟩
    have S2 := S1.below b2
    have S3 := (S2.put (.slice A2 0 c2)).put (.slice A3 0 c3)
    simp only [World.size_alloc] at S3
    obtain ⟨x0', x0z', _⟩ := S3.cell 2 rfl
    obtain ⟨x1', x1z', _⟩ := S3.cell 3 rfl
    obtain ⟨yr, yrz, _⟩ := S3.cell 0 rfl
    obtain ⟨yq, yqz, _⟩ := S3.cell 1 rfl
    clear S1 S2 o2 o3 b2 x0 x0z x1 x1z
    rcases hcase with h1 | ⟨h1, h2⟩ | ⟨h1, h2, h3⟩
    · have t1 : (chk a != 0) = true := by rw [bne_iff_ne]; exact h1
      clear h1
      go_wp2_with fail
      refine (k2 _ (S3.rd ha)).mono ?_
      rintro e w3 ⟨rfl, b3⟩
      go_wp2
      go_ret
      exact ⟨rfl, (S3.below b3).bel⟩
    · have t2 : (chk b != 0) = true := by rw [bne_iff_ne]; exact h2
      rw [h1] at k2
      clear h1 h2
      go_wp2_with fail
      refine (k2 _ (S3.rd ha)).mono ?_
      rintro e w3 ⟨rfl, b3⟩
      have S4 := S3.below b3
      obtain ⟨z0, z0z, _⟩ := S4.cell 2 rfl
      clear S3 b3 x0' x0z' x1' x1z' yr yrz yq yqz
      go_wp2_with fail
      refine (k3 _ (S4.rd hb)).mono ?_
      rintro e w4 ⟨rfl, b4⟩
      go_wp2
      go_ret
      exact ⟨rfl, (S4.below b4).bel⟩
    · have her := HE.out h3 h2 h1
      subst her
      rw [h1] at k2
      rw [h2] at k3
      subst h3
      clear h1 h2
      go_wp2_with fail
      refine (k2 _ (S3.rd ha)).mono ?_
      rintro e w3 ⟨rfl, b3⟩
      have S4 := S3.below b3
      obtain ⟨z0, z0z, _⟩ := S4.cell 2 rfl
      clear S3 b3 x0' x0z' x1' x1z' yr yrz yq yqz
      go_wp2_with fail
      refine (k3 _ (S4.rd hb)).mono ?_
      rintro e w4 ⟨rfl, b4⟩
      have S5 := S4.below b4
      obtain ⟨v0, v0z, _⟩ := S5.cell 2 rfl
      clear S4 b4 z0 z0z
      go_wp2
      go_ret
      exact ⟨rfl, S5.bel⟩

theorem own : ownKnob Try.prog.godebug = none := by kernel_rfl
theorem laidOut : laidOutB Try.prog = true := by kernel_rfl

theorem lifted (os : Os) (started : os.Started) (H : Type) (enc : TypeId × Value → H) :
    ReturnsInHanded {} Try.checked os 10 .any (Rows.natPartsSpec.pre6 enc Try.prog Try.f10 Rows.natPartsRow.domain false) (Rows.natPartsSpec.post enc Try.prog Try.f10 false true false false) := by
  refine returnsInHanded_of_change_sized (C := Try.checked) own started (by kernel_rfl) Try.func10
    (ChangeSpec.witness6 (enc := enc) (C := Try.checked) false ⟨#[], #[.agg #[.slice none 0 0], .agg #[.slice none 0 0]], []⟩ 8 (by kernel_rfl) (by kernel_rfl) (by kernel_rfl) (by kernel_rfl)) ?_
  intro W base args ds gs before hval0 hW hcnd hsz0 _
  have hval : ∀ (j : Nat) t v, Try.f10.params[j]? = some t → args[j]? = some v → Value.okWide Try.prog W .any base t v := hval0
  have hsz : (DataW.weightsEach Try.prog (Try.f10.params.toList ++ Rows.natPartsSpec.plain.varTypes Try.prog) (ds ++ gs)).all (· ≤ reachBytes) = true := hsz0
  have hW' := hW
  obtain ⟨p, q, hA0, hV, rfl, hfz, hnd⟩ := hW
  have hA : DataW.TrodAll enc Try.prog W 0 (fun _ => true) true Try.f10.params.toList args.toList ds p := hA0
  rw [Try.params10] at hA hval hsz
  obtain ⟨v0, vs0, d0, ds0, p0, q0, hargs, rfl, rfl, h0, r0⟩ := trodAll_cons hA
  obtain ⟨v1, vs1, d1, ds1, p1, q1, rfl, rfl, rfl, h1, r1⟩ := trodAll_cons r0
  obtain ⟨rfl, rfl, rfl⟩ := trodAll_nil r1
  obtain rfl : args = #[v0, v1] := by cases args; simp_all
  obtain ⟨rfl, rfl⟩ := trodVars_none hV
  have k0 := h0
  have lt0 : ∀ x ∈ p0, x.block < W.heap.size := by obtain ⟨m, hm⟩ := k0; exact DataW.trod_lt m _ _ _ hm
  obtain ⟨A0, n0, c0, l0, I0⟩ := open_nat (hval 0 35 v0 rfl rfl) h0 hsz (j := 0) rfl rfl
  obtain rfl := I0.val_
  have k1 := h1
  have lt1 : ∀ x ∈ p1, x.block < W.heap.size := by obtain ⟨m, hm⟩ := k1; exact DataW.trod_lt m _ _ _ hm
  obtain ⟨A1, n1, c1, l1, I1⟩ := open_nat (hval 1 35 v1 rfl rfl) h1 hsz (j := 1) rfl rfl
  obtain rfl := I1.val_
  clear hA0 hval0 hsz0
  simp only [List.append_nil] at hW'
  refine (walk A0 A1 l0 l1 n0 n1 c0 c1 I0.len I1.len W I0.rd I1.rd).mono fun e W' ⟨he, bel⟩ => ?_
  subst he
  exact ⟨_, rfl, _, _, _, [], _, [], hW', trodAll_cons_mk (shut_bool Try.underlying4 _) trodAll_mk0, trodAll_cons_mk (Below.trod laidOut (by kernel_rfl) (of_decide_eq_true (by kernel_rfl)) k0 bel lt0) (trodAll_cons_mk (Below.trod laidOut (by kernel_rfl) (of_decide_eq_true (by kernel_rfl)) k1 bel lt1) trodAll_mk0), rfl, bel.frame _, fun h => by cases h⟩

theorem over : Rows.natPartsRow.holds Try.pinned (OpenSpec.ofChange Rows.natPartsSpec) :=
  OpenClaim.holds_of_wide 10 Try.f10 rfl rfl rfl rfl rfl rfl rfl ⟨rfl, rfl, rfl, rfl, rfl⟩ rfl rfl rfl rfl rfl (by kernel_rfl) Try.func10 (by kernel_rfl)
    (of_decide_eq_true (by kernel_rfl)) (by unfold Func.isWrapper; first | (rw [if_pos (by decide +kernel)]; kernel_rfl) | (rw [if_neg (by decide +kernel)]; exact ⟨rfl, rfl⟩))
    (fun os started H enc _ => lifted os started H enc)

theorem proved : Rows.NatPartsSaid := over
#print axioms proved
end Go.Proofs.Ytkepjhgafpbecaa.natParts
