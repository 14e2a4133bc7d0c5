/- NatRing: sums and products go in any order and any brackets, a product goes over a sum; Sub of Add takes back. No condition. -/
import Derived.Test.YtkepjhgafpbecaaRows
import Derived.Test.YtkepjhgafpbecaaAlive
import Derived.Test.YtkepjhgafpbecaaMoves
import Derived.Test.YtkepjhgafpbecaaAdd
import Derived.Test.YtkepjhgafpbecaaSubN
import Derived.Deep.CutBlock
namespace Go.Proofs.Ytkepjhgafpbecaa.natRing
open Go.ChangeShapes Go.WideShapes Go.ChangeAt Go.RowKit
open Go.ChangeMaps (open_string shut_string)
open Go.RowKit
set_option linter.unusedVariables false
set_option linter.unusedSimpArgs false
set_option maxHeartbeats 4000000
set_option maxRecDepth 100000

theorem add_len {x y k : Nat} (hx : (limbs x).length ≤ k) (hy : (limbs y).length ≤ k) : (limbs (x + y)).length ≤ k + 1 := by
  rw [length_limbs_le] at *
  rw [Nat.pow_succ]
  omega
theorem addS_l {x y : Nat} (hx : (limbs x).length ≤ 16000) (hy : (limbs y).length ≤ 16000) : addS (limbs x) (limbs y) = (limbs (x + y), 0) := by
  have := add_len hx hy
  unfold addS; rw [if_pos (chk2_lm (by omega) (by omega)), val_limbs, val_limbs, fitS_ok (by omega)]
theorem mulS_l {x y : Nat} (h : (limbs x).length + (limbs y).length ≤ 16000) : mulS (limbs x) (limbs y) = (limbs (x * y), 0) := by
  have := limbs_mul_le x y
  rw [mulS_limbs (by omega) (by omega), fitS_ok (by omega)]
theorem bitLen_mul {x y : Nat} : (bitLen x = 0 ∧ bitLen (x * y) = 0) ∨ (bitLen y = 0 ∧ bitLen (x * y) = 0) ∨ (0 < bitLen x ∧ 0 < bitLen y ∧ (bitLen (x * y) = bitLen x + bitLen y ∨ bitLen (x * y) + 1 = bitLen x + bitLen y)) := by
  by_cases hx : x = 0
  · subst hx; left; rw [Nat.zero_mul]; exact ⟨rfl, rfl⟩
  · by_cases hy : y = 0
    · subst hy; right; left; rw [Nat.mul_zero]; exact ⟨rfl, rfl⟩
    · right; right
      unfold bitLen
      rw [if_neg hx, if_neg hy, if_neg (Nat.mul_ne_zero hx hy)]
      have h1 := Nat.log2_self_le hx
      have h2 := Nat.lt_log2_self (n := x)
      have h3 := Nat.log2_self_le hy
      have h4 := Nat.lt_log2_self (n := y)
      have h5 : 2 ^ (x.log2 + y.log2) ≤ x * y := by rw [Nat.pow_add]; exact Nat.mul_le_mul h1 h3
      have h6 : x * y < 2 ^ (x.log2 + 1 + (y.log2 + 1)) := by rw [Nat.pow_add]; exact Nat.mul_lt_mul'' h2 h4
      have h7 := (Nat.le_log2 (Nat.mul_ne_zero hx hy)).2 h5
      have h8 := (Nat.log2_lt (Nat.mul_ne_zero hx hy)).2 h6
      refine ⟨by omega, by omega, ?_⟩
      omega
theorem plain {a b c : List Nat} (ha : Sm a) (hb : Sm b) (hc : Sm c) (xa : chk a = 0) (xb : chk b = 0) (xc : chk c = 0) (la : a.length ≤ 4000) (lb : b.length ≤ 4000) (lc : c.length ≤ 4000) :
    addS a b = (limbs (val a + val b), 0) ∧ addS b a = (limbs (val a + val b), 0) ∧ addS b c = (limbs (val b + val c), 0) ∧ addS (limbs (val a + val b)) c = (limbs (val a + val b + val c), 0) ∧ addS a (limbs (val b + val c)) = (limbs (val a + val b + val c), 0) ∧
    mulS a b = (limbs (val a * val b), 0) ∧ mulS b a = (limbs (val a * val b), 0) ∧ mulS b c = (limbs (val b * val c), 0) ∧ mulS (limbs (val a * val b)) c = (limbs (val a * val b * val c), 0) ∧ mulS a (limbs (val b * val c)) = (limbs (val a * val b * val c), 0) ∧
    mulS a (limbs (val b + val c)) = (limbs (val a * val b + val a * val c), 0) ∧ mulS a c = (limbs (val a * val c), 0) ∧ addS (limbs (val a * val b)) (limbs (val a * val c)) = (limbs (val a * val b + val a * val c), 0) ∧ subS (limbs (val a + val b)) b = (a, true, 0) ∧
    bitsS a = (((bitLen (val a) : Nat) : Int), 0) ∧ bitsS b = (((bitLen (val b) : Nat) : Int), 0) ∧ bitsS (limbs (val a * val b)) = (((bitLen (val a * val b) : Nat) : Int), 0) ∧ bitLen (val a) ≤ 128000 ∧ bitLen (val b) ≤ 128000 := by
  have hca := limbs_of ha (chk_zero xa).2
  have hcb := limbs_of hb (chk_zero xb).2
  have hcc := limbs_of hc (chk_zero xc).2
  have bl : ∀ {l : List Nat}, Sm l → l.length ≤ 4000 → bitLen (val l) ≤ 128000 := by
    intro l hl h
    have h1 := val_lt hl
    have h2 : val l < 2 ^ (32 * l.length) := by rw [Nat.pow_mul]; exact h1
    exact Nat.le_trans (bitLen_le h2) (by omega)
  have bla := bl ha la
  have blb := bl hb lb
  generalize val a = x at *
  generalize val b = y at *
  generalize val c = z at *
  subst hca hcb hcc
  have l1 := add_len la lb
  have l2 := add_len lb lc
  have l3 := limbs_mul_le x y
  have l4 := limbs_mul_le y z
  have l5 := limbs_mul_le x z
  refine ⟨addS_l (by omega) (by omega), ?_, addS_l (by omega) (by omega), addS_l (by omega) (by omega), ?_, mulS_l (by omega), ?_, mulS_l (by omega), mulS_l (by omega), ?_, ?_, mulS_l (by omega), addS_l (by omega) (by omega), ?_, ?_, ?_, ?_, bla, blb⟩
  · rw [addS_l (by omega) (by omega), Nat.add_comm]
  · rw [addS_l (by omega) (by omega), Nat.add_assoc]
  · rw [mulS_l (by omega), Nat.mul_comm]
  · rw [mulS_l (by omega), Nat.mul_assoc]
  · rw [mulS_l (by omega), Nat.mul_add]
  · unfold subS
    rw [if_pos (chk2_lm (by omega) (by omega)), val_limbs, val_limbs, if_neg (by omega), Nat.add_sub_cancel]
  · unfold bitsS; rw [if_pos xa, val_limbs]
  · unfold bitsS; rw [if_pos xb, val_limbs]
  · unfold bitsS; rw [if_pos (chk_lm (by omega)), val_limbs]

theorem walk (A B C : Option Addr) (a b c : List Nat) (n m l ca cb cc : Nat) (hn : n = a.length) (hm : m = b.length) (hl : l = c.length) (w : World) (ha : Rd w A a) (hb : Rd w B b) (hc : Rd w C c) :
    Calls Try.prog 13 #[.agg #[.slice A n ca], .agg #[.slice B m cb], .agg #[.slice C l cc]] w fun e w' => e = .returned (.bool true) ∧ Below w.heap.size w w' := by
  have S0 := (((Sq.init w).put (.slice A n ca)).put (.slice B m cb)).put (.slice C l cc)
  simp only [World.size_alloc] at S0
  have sa := fun W h => small_any A a n ca hn 4000 (by decide) W h
  have sb := fun W h => small_any B b m cb hm 4000 (by decide) W h
  have sc := fun W h => small_any C c l cc hl 4000 (by decide) W h
  by_cases hs : (chk a = 0 ∧ ((a.length : Nat) : Int) ≤ 4000) ∧ (chk b = 0 ∧ ((b.length : Nat) : Int) ≤ 4000) ∧ (chk c = 0 ∧ ((c.length : Nat) : Int) ≤ 4000)
  · rw [decide_eq_true hs.1] at sa
    rw [decide_eq_true hs.2.1] at sb
    rw [decide_eq_true hs.2.2] at sc
    obtain ⟨m1, m2, m3, m4, m5, m6, m7, m8, m9, m10, m11, m12, m13, m14, m15, m16, m17, x128, y128⟩ := plain ha.sm hb.sm hc.sm hs.1.1 hs.2.1.1 hs.2.2.1 (by omega) (by omega) (by omega)
    have hbl := @bitLen_mul (val a) (val b)
    have b1 := fun W h => nat_Bits A a n ca hn W h
    have b2 := fun W h => nat_Bits B b m cb hm W h
    have b3 := fun Ax cx W h => nat_Bits Ax (limbs (val a * val b)) _ cx rfl W h
    have k0 := fun  W h h' => nat_Add A B a b n m ca cb hn hm W h h'
    have k1 := fun  W h h' => nat_Add B A b a m n cb ca hm hn W h h'
    have k2 := fun  W h h' => nat_Add B C b c m l cb cc hm hl W h h'
    have k3 := fun Ax cx W h h' => nat_Add Ax C (limbs (val a + val b)) c _ l cx cc rfl hl W h h'
    have k4 := fun Ay cy W h h' => nat_Add A Ay a (limbs (val b + val c)) n _ ca cy hn rfl W h h'
    have k5 := fun  W h h' => nat_Mul A B a b n m ca cb hn hm W h h'
    have k6 := fun  W h h' => nat_Mul B A b a m n cb ca hm hn W h h'
    have k7 := fun  W h h' => nat_Mul B C b c m l cb cc hm hl W h h'
    have k8 := fun Ax cx W h h' => nat_Mul Ax C (limbs (val a * val b)) c _ l cx cc rfl hl W h h'
    have k9 := fun Ay cy W h h' => nat_Mul A Ay a (limbs (val b * val c)) n _ ca cy hn rfl W h h'
    have k10 := fun Ay cy W h h' => nat_Mul A Ay a (limbs (val b + val c)) n _ ca cy hn rfl W h h'
    have k11 := fun  W h h' => nat_Mul A C a c n l ca cc hn hl W h h'
    have k12 := fun Ax cx Ay cy W h h' => nat_Add Ax Ay (limbs (val a * val b)) (limbs (val a * val c)) _ _ cx cy rfl rfl W h h'
    have k13 := fun Ax cx W h h' => nat_Sub Ax B (limbs (val a + val b)) b _ m cx cb rfl hm W h h'
    have e0 := fun Ax cx W h h' => ref_Same Ax A a a _ n cx ca rfl hn W h h'
    have e1 := fun Ax cx Ay cy W h h' => ref_Same Ax Ay (limbs (val a + val b)) (limbs (val a + val b)) _ _ cx cy rfl rfl W h h'
    have e2 := fun Ax cx Ay cy W h h' => ref_Same Ax Ay (limbs (val a + val b + val c)) (limbs (val a + val b + val c)) _ _ cx cy rfl rfl W h h'
    have e3 := fun Ax cx Ay cy W h h' => ref_Same Ax Ay (limbs (val a * val b)) (limbs (val a * val b)) _ _ cx cy rfl rfl W h h'
    have e4 := fun Ax cx Ay cy W h h' => ref_Same Ax Ay (limbs (val a * val b * val c)) (limbs (val a * val b * val c)) _ _ cx cy rfl rfl W h h'
    have e5 := fun Ax cx Ay cy W h h' => ref_Same Ax Ay (limbs (val a * val b + val a * val c)) (limbs (val a * val b + val a * val c)) _ _ cx cy rfl rfl W h h'
    rw [m1] at k0
    rw [m2] at k1
    rw [m3] at k2
    rw [m4] at k3
    rw [m5] at k4
    rw [m6] at k5
    rw [m7] at k6
    rw [m8] at k7
    rw [m9] at k8
    rw [m10] at k9
    rw [m11] at k10
    rw [m12] at k11
    rw [m13] at k12
    rw [m14] at k13
    rw [m15] at b1
    rw [m16] at b2
    rw [m17] at b3
    rw [decide_eq_true rfl] at e0
    rw [decide_eq_true rfl] at e1
    rw [decide_eq_true rfl] at e2
    rw [decide_eq_true rfl] at e3
    rw [decide_eq_true rfl] at e4
    rw [decide_eq_true rfl] at e5
    clear m1 m2 m3 m4 m5 m6 m7 m8 m9 m10 m11 m12 m13 m14 m15 m16 m17 hs
    generalize bitLen (val a) = x at *
    generalize bitLen (val b) = y at *
    generalize bitLen (val a * val b) = z at *
    have HBL := Lib.hid hbl
    have z256 : z ≤ 256000 := by omega
    clear hbl
    generalize (limbs (val a + val b + val c)) = LLleft at *
    generalize (limbs (val a + val b)) = LLab at *
    generalize (limbs (val b + val c)) = LLbc at *
    generalize (limbs (val a * val b * val c)) = LLs at *
    generalize (limbs (val a * val b + val a * val c)) = LLover at *
    generalize (limbs (val a * val b)) = LLp at *
    generalize (limbs (val b * val c)) = LLr at *
    generalize (limbs (val a * val c)) = LLac at *
    clear hn hm hl
    go_enter Try.func13, Try.ntmps13
    go_wp2_with fail
    refine (alive_any _).mono ?_
    rintro e w1 ⟨rfl, b2⟩
    have S3 := S0.below b2
    clear S0 b2
    obtain ⟨q4, q4z, q4f⟩ := S3.cell 2 rfl
    go_wp2_with fail
    refine (sa _ (S3.rd ha)).mono ?_
    rintro e w5 ⟨rfl, b6⟩
    have S7 := S3.below b6
    clear S3 b6
    clear q4 q4z q4f
    obtain ⟨q8, q8z, q8f⟩ := S7.cell 1 rfl
    go_wp2_with fail
    refine (sb _ (S7.rd hb)).mono ?_
    rintro e w9 ⟨rfl, b10⟩
    have S11 := S7.below b10
    clear S7 b10
    clear q8 q8z q8f
    obtain ⟨q12, q12z, q12f⟩ := S11.cell 0 rfl
    go_wp2_with fail
    refine (sc _ (S11.rd hc)).mono ?_
    rintro e w13 ⟨rfl, b14⟩
    have S15 := S11.below b14
    clear S11 b14
    clear q12 q12z q12f
    obtain ⟨q16, q16z, q16f⟩ := S15.cell 2 rfl
    obtain ⟨q17, q17z, q17f⟩ := S15.cell 1 rfl
    go_wp2_with fail
    refine (k0 _ (S15.rd ha) (S15.rd hb)).mono ?_
    rintro e w18 ⟨A19, c20, rfl, o21, b22⟩
    have S23 := ((S15.below b22).pend_ o21 S15.size).put (.slice A19 LLab.length c20)
    clear S15 o21 b22
    clear q16 q16z q16f q17 q17z q17f
    obtain ⟨q24, q24z, q24f⟩ := S23.cell 2 rfl
    obtain ⟨q25, q25z, q25f⟩ := S23.cell 3 rfl
    go_wp2_with fail
    refine (k1 _ (S23.rd hb) (S23.rd ha)).mono ?_
    rintro e w26 ⟨A27, c28, rfl, o29, b30⟩
    have S31 := ((S23.below b30).pend_ o29 S23.size).put (.slice A27 LLab.length c28)
    clear S23 o29 b30
    clear q24 q24z q24f q25 q25z q25f
    obtain ⟨q32, q32z, q32f⟩ := S31.cell 3 rfl
    obtain ⟨q33, q33z, q33f⟩ := S31.cell 2 rfl
    go_wp2_with fail
    refine (k2 _ (S31.rd hb) (S31.rd hc)).mono ?_
    rintro e w34 ⟨A35, c36, rfl, o37, b38⟩
    have S39 := ((S31.below b38).pend_ o37 S31.size).put (.slice A35 LLbc.length c36)
    clear S31 o37 b38
    clear q32 q32z q32f q33 q33z q33f
    obtain ⟨q40, q40z, q40f⟩ := S39.cell 2 rfl
    obtain ⟨q41, q41z, q41f⟩ := S39.cell 3 rfl
    go_wp2_with fail
    refine (k3 A19 c20 _ (S39.prd 2 rfl) (S39.rd hc)).mono ?_
    rintro e w42 ⟨A43, c44, rfl, o45, b46⟩
    have S47 := ((S39.below b46).pend_ o45 S39.size).put (.slice A43 LLleft.length c44)
    clear S39 o45 b46
    clear q40 q40z q40f q41 q41z q41f
    obtain ⟨q48, q48z, q48f⟩ := S47.cell 6 rfl
    obtain ⟨q49, q49z, q49f⟩ := S47.cell 1 rfl
    go_wp2_with fail
    refine (k4 A35 c36 _ (S47.rd ha) (S47.prd 1 rfl)).mono ?_
    rintro e w50 ⟨A51, c52, rfl, o53, b54⟩
    have S55 := ((S47.below b54).pend_ o53 S47.size).put (.slice A51 LLleft.length c52)
    clear S47 o53 b54
    clear q48 q48z q48f q49 q49z q49f
    obtain ⟨q56, q56z, q56f⟩ := S55.cell 7 rfl
    obtain ⟨q57, q57z, q57f⟩ := S55.cell 6 rfl
    go_wp2_with fail
    refine (k5 _ (S55.rd ha) (S55.rd hb)).mono ?_
    rintro e w58 ⟨A59, c60, rfl, o61, b62⟩
    have S63 := ((S55.below b62).pend_ o61 S55.size).put (.slice A59 LLp.length c60)
    clear S55 o61 b62
    clear q56 q56z q56f q57 q57z q57f
    obtain ⟨q64, q64z, q64f⟩ := S63.cell 7 rfl
    obtain ⟨q65, q65z, q65f⟩ := S63.cell 8 rfl
    go_wp2_with fail
    refine (k6 _ (S63.rd hb) (S63.rd ha)).mono ?_
    rintro e w66 ⟨A67, c68, rfl, o69, b70⟩
    have S71 := ((S63.below b70).pend_ o69 S63.size).put (.slice A67 LLp.length c68)
    clear S63 o69 b70
    clear q64 q64z q64f q65 q65z q65f
    obtain ⟨q72, q72z, q72f⟩ := S71.cell 8 rfl
    obtain ⟨q73, q73z, q73f⟩ := S71.cell 7 rfl
    go_wp2_with fail
    refine (k7 _ (S71.rd hb) (S71.rd hc)).mono ?_
    rintro e w74 ⟨A75, c76, rfl, o77, b78⟩
    have S79 := ((S71.below b78).pend_ o77 S71.size).put (.slice A75 LLr.length c76)
    clear S71 o77 b78
    clear q72 q72z q72f q73 q73z q73f
    obtain ⟨q80, q80z, q80f⟩ := S79.cell 2 rfl
    obtain ⟨q81, q81z, q81f⟩ := S79.cell 8 rfl
    go_wp2_with fail
    refine (k8 A59 c60 _ (S79.prd 2 rfl) (S79.rd hc)).mono ?_
    rintro e w82 ⟨A83, c84, rfl, o85, b86⟩
    have S87 := ((S79.below b86).pend_ o85 S79.size).put (.slice A83 LLs.length c84)
    clear S79 o85 b86
    clear q80 q80z q80f q81 q81z q81f
    obtain ⟨q88, q88z, q88f⟩ := S87.cell 11 rfl
    obtain ⟨q89, q89z, q89f⟩ := S87.cell 1 rfl
    go_wp2_with fail
    refine (k9 A75 c76 _ (S87.rd ha) (S87.prd 1 rfl)).mono ?_
    rintro e w90 ⟨A91, c92, rfl, o93, b94⟩
    have S95 := ((S87.below b94).pend_ o93 S87.size).put (.slice A91 LLs.length c92)
    clear S87 o93 b94
    clear q88 q88z q88f q89 q89z q89f
    obtain ⟨q96, q96z, q96f⟩ := S95.cell 12 rfl
    obtain ⟨q97, q97z, q97f⟩ := S95.cell 7 rfl
    go_wp2_with fail
    refine (k10 A35 c36 _ (S95.rd ha) (S95.prd 7 rfl)).mono ?_
    rintro e w98 ⟨A99, c100, rfl, o101, b102⟩
    have S103 := ((S95.below b102).pend_ o101 S95.size).put (.slice A99 LLover.length c100)
    clear S95 o101 b102
    clear q96 q96z q96f q97 q97z q97f
    obtain ⟨q104, q104z, q104f⟩ := S103.cell 13 rfl
    obtain ⟨q105, q105z, q105f⟩ := S103.cell 11 rfl
    go_wp2_with fail
    refine (k11 _ (S103.rd ha) (S103.rd hc)).mono ?_
    rintro e w106 ⟨A107, c108, rfl, o109, b110⟩
    have S111 := ((S103.below b110).pend_ o109 S103.size).put (.slice A107 LLac.length c108)
    clear S103 o109 b110
    clear q104 q104z q104f q105 q105z q105f
    obtain ⟨q112, q112z, q112f⟩ := S111.cell 6 rfl
    obtain ⟨q113, q113z, q113f⟩ := S111.cell 0 rfl
    go_wp2_with fail
    refine (k12 A59 c60 A107 c108 _ (S111.prd 6 rfl) (S111.prd 0 rfl)).mono ?_
    rintro e w114 ⟨A115, c116, rfl, o117, b118⟩
    have S119 := ((S111.below b118).pend_ o117 S111.size).put (.slice A115 LLover.length c116)
    clear S111 o117 b118
    clear q112 q112z q112f q113 q113z q113f
    obtain ⟨q120, q120z, q120f⟩ := S119.cell 12 rfl
    obtain ⟨q121, q121z, q121f⟩ := S119.cell 14 rfl
    go_wp2_with fail
    refine (k13 A19 c20 _ (S119.prd 12 rfl) (S119.rd hb)).mono ?_
    rintro e w122 ⟨A123, c124, rfl, o125, b126⟩
    have S127 := ((S119.below b126).pend_ o125 S119.size).put (.slice A123 a.length c124)
    clear S119 o125 b126
    clear q120 q120z q120f q121 q121z q121f
    obtain ⟨q128, q128z, q128f⟩ := S127.cell 16 rfl
    go_wp2_with fail
    refine (b1 _ (S127.rd ha)).mono ?_
    rintro e w129 ⟨rfl, b130⟩
    have S131 := S127.below b130
    clear S127 b130
    clear q128 q128z q128f
    obtain ⟨q132, q132z, q132f⟩ := S131.cell 15 rfl
    go_wp2_with fail
    refine (b2 _ (S131.rd hb)).mono ?_
    rintro e w133 ⟨rfl, b134⟩
    have S135 := S131.below b134
    clear S131 b134
    clear q132 q132z q132f
    obtain ⟨q136, q136z, q136f⟩ := S135.cell 8 rfl
    go_wp2_with fail
    refine (b3 A59 c60 _ (S135.prd 8 rfl)).mono ?_
    rintro e w137 ⟨rfl, b138⟩
    have S139 := S135.below b138
    clear S135 b138
    clear q136 q136z q136f
    obtain ⟨q140, q140z, q140f⟩ := S139.cell 0 rfl
    obtain ⟨q141, q141z, q141f⟩ := S139.cell 16 rfl
    have hcs : (x = 0 ∧ z = 0 ∧ y = 0) ∨ (x = 0 ∧ z = 0 ∧ y = 1) ∨ (x = 0 ∧ z = 0 ∧ 2 ≤ y) ∨ (y = 0 ∧ z = 0 ∧ x = 1) ∨ (y = 0 ∧ z = 0 ∧ 2 ≤ x) ∨ (((z : Int) == (x : Int) + (y : Int)) = true) ∨ (((z : Int) == (x : Int) + (y : Int)) = false ∧ ((z : Int) == (x : Int) + (y : Int) - 1) = true) := by
      have hbl := HBL.out
      rw [beq_iff_eq, beq_iff_eq, beq_eq_false_iff_ne]
      omega
    clear HBL
    rcases hcs with ⟨rfl, rfl, rfl⟩ | ⟨rfl, rfl, rfl⟩ | ⟨rfl, rfl, hy2⟩ | ⟨rfl, rfl, rfl⟩ | ⟨rfl, rfl, hx2⟩ | hz1 | ⟨hz1, hz2⟩
    all_goals (
      go_wp2_with fail
      refine (e0 A123 c124 _ (S139.prd 0 rfl) (S139.rd ha)).mono ?_
      rintro e w142 ⟨rfl, b143⟩
      have S144 := S139.below b143
      clear S139 b143
      clear q140 q140z q140f q141 q141z q141f
      obtain ⟨q145, q145z, q145f⟩ := S144.cell 13 rfl
      obtain ⟨q146, q146z, q146f⟩ := S144.cell 12 rfl
      go_wp2_with fail
      refine (e1 A19 c20 A27 c28 _ (S144.prd 13 rfl) (S144.prd 12 rfl)).mono ?_
      rintro e w147 ⟨rfl, b148⟩
      have S149 := S144.below b148
      clear S144 b148
      clear q145 q145z q145f q146 q146z q146f
      obtain ⟨q150, q150z, q150f⟩ := S149.cell 10 rfl
      obtain ⟨q151, q151z, q151f⟩ := S149.cell 9 rfl
      go_wp2_with fail
      refine (e2 A43 c44 A51 c52 _ (S149.prd 10 rfl) (S149.prd 9 rfl)).mono ?_
      rintro e w152 ⟨rfl, b153⟩
      have S154 := S149.below b153
      clear S149 b153
      clear q150 q150z q150f q151 q151z q151f
      obtain ⟨q155, q155z, q155f⟩ := S154.cell 8 rfl
      obtain ⟨q156, q156z, q156f⟩ := S154.cell 7 rfl
      go_wp2_with fail
      refine (e3 A59 c60 A67 c68 _ (S154.prd 8 rfl) (S154.prd 7 rfl)).mono ?_
      rintro e w157 ⟨rfl, b158⟩
      have S159 := S154.below b158
      clear S154 b158
      clear q155 q155z q155f q156 q156z q156f
      obtain ⟨q160, q160z, q160f⟩ := S159.cell 5 rfl
      obtain ⟨q161, q161z, q161f⟩ := S159.cell 4 rfl
      go_wp2_with fail
      refine (e4 A83 c84 A91 c92 _ (S159.prd 5 rfl) (S159.prd 4 rfl)).mono ?_
      rintro e w162 ⟨rfl, b163⟩
      have S164 := S159.below b163
      clear S159 b163
      clear q160 q160z q160f q161 q161z q161f
      obtain ⟨q165, q165z, q165f⟩ := S164.cell 3 rfl
      obtain ⟨q166, q166z, q166f⟩ := S164.cell 1 rfl
      go_wp2_with fail
      refine (e5 A99 c100 A115 c116 _ (S164.prd 3 rfl) (S164.prd 1 rfl)).mono ?_
      rintro e w167 ⟨rfl, b168⟩
      have S169 := S164.below b168
      clear S164 b168
      clear q165 q165z q165f q166 q166z q166f
      go_wp2
      go_ret
      exact ⟨rfl, S169.bel⟩)
  · have hcase : decide (chk a = 0 ∧ ((a.length : Nat) : Int) ≤ 4000) = false ∨ (decide (chk a = 0 ∧ ((a.length : Nat) : Int) ≤ 4000) = true ∧ decide (chk b = 0 ∧ ((b.length : Nat) : Int) ≤ 4000) = false) ∨ (decide (chk a = 0 ∧ ((a.length : Nat) : Int) ≤ 4000) = true ∧ decide (chk b = 0 ∧ ((b.length : Nat) : Int) ≤ 4000) = true ∧ decide (chk c = 0 ∧ ((c.length : Nat) : Int) ≤ 4000) = false) := by
      simp only [decide_eq_false_iff_not, decide_eq_true_iff]
      by_cases h1 : (chk a = 0 ∧ ((a.length : Nat) : Int) ≤ 4000)
      · by_cases h2 : (chk b = 0 ∧ ((b.length : Nat) : Int) ≤ 4000)
        · exact .inr (.inr ⟨h1, h2, fun h3 => hs ⟨h1, h2, h3⟩⟩)
        · exact .inr (.inl ⟨h1, h2⟩)
      · exact .inl h1
    clear hs hn hm hl
    generalize decide (chk a = 0 ∧ ((a.length : Nat) : Int) ≤ 4000) = da at *
    generalize decide (chk b = 0 ∧ ((b.length : Nat) : Int) ≤ 4000) = db at *
    generalize decide (chk c = 0 ∧ ((c.length : Nat) : Int) ≤ 4000) = dc at *
    go_enter Try.func13, Try.ntmps13
    go_wp2_with fail
    refine (alive_any _).mono ?_
    rintro e w1 ⟨rfl, b1⟩
    have S1 := S0.below b1
    obtain ⟨q1, q1z, q1f⟩ := S1.cell 2 rfl
    go_wp2_with fail
    refine (sa _ (S1.rd ha)).mono ?_
    rintro e w2 ⟨rfl, b2⟩
    have S2 := S1.below b2
    obtain ⟨q2, q2z, q2f⟩ := S2.cell 1 rfl
    rcases hcase with rfl | ⟨rfl, rfl⟩ | ⟨rfl, rfl, rfl⟩
    · go_wp2
      go_ret
      exact ⟨rfl, S2.bel⟩
    · go_wp2_with fail
      refine (sb _ (S2.rd hb)).mono ?_
      rintro e w3 ⟨rfl, b3⟩
      have S3 := S2.below b3
      go_wp2
      go_ret
      exact ⟨rfl, S3.bel⟩
    · go_wp2_with fail
      refine (sb _ (S2.rd hb)).mono ?_
      rintro e w3 ⟨rfl, b3⟩
      have S3 := S2.below b3
      obtain ⟨q3, q3z, q3f⟩ := S3.cell 0 rfl
      go_wp2_with fail
      refine (sc _ (S3.rd hc)).mono ?_
      rintro e w4 ⟨rfl, b4⟩
      have S4 := S3.below b4
      go_wp2
      go_ret
      exact ⟨rfl, S4.bel⟩

theorem own : ownKnob Try.prog.godebug = none := by kernel_rfl
theorem laidOut : laidOutB Try.prog = true := by kernel_rfl

theorem lifted (os : Os) (started : os.Started) (H : Type) (enc : TypeId × Value → H) :
    ReturnsInHanded {} Try.checked os 13 .any (Rows.natRingSpec.pre6 enc Try.prog Try.f13 Rows.natRingRow.domain false) (Rows.natRingSpec.post enc Try.prog Try.f13 false true false false) := by
  refine returnsInHanded_of_change_sized (C := Try.checked) own started (by kernel_rfl) Try.func13
    (ChangeSpec.witness6 (enc := enc) (C := Try.checked) false ⟨#[], #[.agg #[.slice none 0 0], .agg #[.slice none 0 0], .agg #[.slice none 0 0]], []⟩ 8 (by kernel_rfl) (by kernel_rfl) (by kernel_rfl) (by kernel_rfl)) ?_
  intro W base args ds gs before hval0 hW hcnd hsz0 _
  have hval : ∀ (j : Nat) t v, Try.f13.params[j]? = some t → args[j]? = some v → Value.okWide Try.prog W .any base t v := hval0
  have hsz : (DataW.weightsEach Try.prog (Try.f13.params.toList ++ Rows.natRingSpec.plain.varTypes Try.prog) (ds ++ gs)).all (· ≤ reachBytes) = true := hsz0
  have hW' := hW
  obtain ⟨p, q, hA0, hV, rfl, hfz, hnd⟩ := hW
  have hA : DataW.TrodAll enc Try.prog W 0 (fun _ => true) true Try.f13.params.toList args.toList ds p := hA0
  rw [Try.params13] at hA hval hsz
  obtain ⟨v0, vs0, d0, ds0, p0, q0, hargs, rfl, rfl, h0, r0⟩ := trodAll_cons hA
  obtain ⟨v1, vs1, d1, ds1, p1, q1, rfl, rfl, rfl, h1, r1⟩ := trodAll_cons r0
  obtain ⟨v2, vs2, d2, ds2, p2, q2, rfl, rfl, rfl, h2, r2⟩ := trodAll_cons r1
  obtain ⟨rfl, rfl, rfl⟩ := trodAll_nil r2
  obtain rfl : args = #[v0, v1, v2] := by cases args; simp_all
  obtain ⟨rfl, rfl⟩ := trodVars_none hV
  have k0 := h0
  have lt0 : ∀ x ∈ p0, x.block < W.heap.size := by obtain ⟨m, hm⟩ := k0; exact DataW.trod_lt m _ _ _ hm
  obtain ⟨A0, n0, c0, l0, I0⟩ := open_nat (hval 0 35 v0 rfl rfl) h0 hsz (j := 0) rfl rfl
  obtain rfl := I0.val_
  have k1 := h1
  have lt1 : ∀ x ∈ p1, x.block < W.heap.size := by obtain ⟨m, hm⟩ := k1; exact DataW.trod_lt m _ _ _ hm
  obtain ⟨A1, n1, c1, l1, I1⟩ := open_nat (hval 1 35 v1 rfl rfl) h1 hsz (j := 1) rfl rfl
  obtain rfl := I1.val_
  have k2 := h2
  have lt2 : ∀ x ∈ p2, x.block < W.heap.size := by obtain ⟨m, hm⟩ := k2; exact DataW.trod_lt m _ _ _ hm
  obtain ⟨A2, n2, c2, l2, I2⟩ := open_nat (hval 2 35 v2 rfl rfl) h2 hsz (j := 2) rfl rfl
  obtain rfl := I2.val_
  clear hA0 hval0 hsz0
  simp only [List.append_nil] at hW'
  refine (walk A0 A1 A2 l0 l1 l2 n0 n1 n2 c0 c1 c2 I0.len I1.len I2.len W I0.rd I1.rd I2.rd).mono fun e W' ⟨he, bel⟩ => ?_
  subst he
  exact ⟨_, rfl, _, _, _, [], _, [], hW', trodAll_cons_mk (shut_bool Try.underlying4 _) trodAll_mk0, trodAll_cons_mk (Below.trod laidOut (by kernel_rfl) (of_decide_eq_true (by kernel_rfl)) k0 bel lt0) (trodAll_cons_mk (Below.trod laidOut (by kernel_rfl) (of_decide_eq_true (by kernel_rfl)) k1 bel lt1) (trodAll_cons_mk (Below.trod laidOut (by kernel_rfl) (of_decide_eq_true (by kernel_rfl)) k2 bel lt2) trodAll_mk0)), rfl, bel.frame _, fun h => by cases h⟩

theorem over : Rows.natRingRow.holds Try.pinned (OpenSpec.ofChange Rows.natRingSpec) :=
  OpenClaim.holds_of_wide 13 Try.f13 rfl rfl rfl rfl rfl rfl rfl ⟨rfl, rfl, rfl, rfl, rfl⟩ rfl rfl rfl rfl rfl (by kernel_rfl) Try.func13 (by kernel_rfl)
    (of_decide_eq_true (by kernel_rfl)) (by unfold Func.isWrapper; first | (rw [if_pos (by decide +kernel)]; kernel_rfl) | (rw [if_neg (by decide +kernel)]; exact ⟨rfl, rfl⟩))
    (fun os started H enc _ => lifted os started H enc)

theorem proved : Rows.NatRingSaid := over
#print axioms proved
end Go.Proofs.Ytkepjhgafpbecaa.natRing
