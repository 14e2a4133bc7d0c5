/- FormNative: of any bits of binary64 and binary32 the class is the one that Go's own comparisons tell, and the known floats are Go's. No condition. -/
import Derived.Test.YtmneicbagcimdaaRows
import Derived.Test.YtmneicbagcimdaaFoN
import Derived.ProofKit
import Derived.OpenShut
import Derived.ShutString
import Derived.ChangeOld
import Derived.SizedLaws
import Derived.Below
import Derived.Lib.SmallJoins
namespace Go.Proofs.Ytmneicbagcimdaa.formNative
open Go.ChangeShapes Go.WideShapes Go.ChangeAt Go.RowKit Go.Joins
open Go.ChangeMaps (open_string shut_string)
open Go.RowKit
set_option linter.unusedVariables false
set_option linter.unusedSimpArgs false
set_option maxHeartbeats 4000000
set_option maxRecDepth 100000


theorem d_cls (x : Nat) (hx : x < 18446744073709551616) : ∃ c : Nat, c ≤ 5 ∧ classS 11 52 x = (c, 0) ∧ ((c : Int) == 5) = decide (9218868437227405312 < x % 9223372036854775808) ∧ ((c : Int) == 1) = decide (x % 9223372036854775808 = 0) ∧ ((c : Int) == 4) = decide (x % 9223372036854775808 = 9218868437227405312) ∧ ((c : Int) == 2) = (decide (x % 9223372036854775808 < 4503599627370496) && !decide (x % 9223372036854775808 = 0)) := by
  have hf : fitS 11 52 x = 0 := by
    unfold fitS
    rw [if_pos (show chkF 11 52 = 0 from by decide)]
    unfold fitF
    rw [show (2 ^ (1 + (11 : Int).toNat + (52 : Int).toNat)) = 18446744073709551616 from by decide, if_neg (by omega)]
  have hs : splitS 11 52 x = ((((x / 9223372036854775808 % 2 : Nat) : Int) != 0, x / 4503599627370496 % 2048, x % 4503599627370496), 0) := by
    unfold splitS
    rw [if_pos hf]
    unfold splitF
    rw [show (2 ^ ((52 : Int).toNat + (11 : Int).toNat)) = 9223372036854775808 from by decide, show (2 ^ (52 : Int).toNat) = 4503599627370496 from by decide, show (2 ^ (11 : Int).toNat) = 2048 from by decide]
  have hc : classS 11 52 x = (classF 11 (x / 4503599627370496 % 2048) (x % 4503599627370496), 0) := by
    unfold classS
    rw [if_pos hf, hs]
    rfl
  unfold classF at hc
  rw [show 2 ^ 11 = 2048 from by decide] at hc
  by_cases h1 : x / 4503599627370496 % 2048 = 0
  · rw [if_pos h1] at hc
    by_cases h2 : x % 4503599627370496 = 0
    · rw [if_pos h2] at hc
      refine ⟨1, by decide, hc, ?_, ?_, ?_, ?_⟩
      · rw [decide_eq_false (by omega)]; rfl
      · rw [decide_eq_true (by omega)]; rfl
      · rw [decide_eq_false (by omega)]; rfl
      · rw [decide_eq_true (show x % 9223372036854775808 < 4503599627370496 by omega), decide_eq_true (show x % 9223372036854775808 = 0 by omega)]; rfl
    · rw [if_neg h2] at hc
      refine ⟨2, by decide, hc, ?_, ?_, ?_, ?_⟩
      · rw [decide_eq_false (by omega)]; rfl
      · rw [decide_eq_false (by omega)]; rfl
      · rw [decide_eq_false (by omega)]; rfl
      · rw [decide_eq_true (show x % 9223372036854775808 < 4503599627370496 by omega), decide_eq_false (show ¬ x % 9223372036854775808 = 0 by omega)]; rfl
  · rw [if_neg h1] at hc
    by_cases h3 : x / 4503599627370496 % 2048 + 1 = 2048
    · rw [if_pos h3] at hc
      by_cases h2 : x % 4503599627370496 = 0
      · rw [if_pos h2] at hc
        refine ⟨4, by decide, hc, ?_, ?_, ?_, ?_⟩
        · rw [decide_eq_false (by omega)]; rfl
        · rw [decide_eq_false (by omega)]; rfl
        · rw [decide_eq_true (by omega)]; rfl
        · rw [decide_eq_false (show ¬ x % 9223372036854775808 < 4503599627370496 by omega)]; rfl
      · rw [if_neg h2] at hc
        refine ⟨5, by decide, hc, ?_, ?_, ?_, ?_⟩
        · rw [decide_eq_true (by omega)]; rfl
        · rw [decide_eq_false (by omega)]; rfl
        · rw [decide_eq_false (by omega)]; rfl
        · rw [decide_eq_false (show ¬ x % 9223372036854775808 < 4503599627370496 by omega)]; rfl
    · rw [if_neg h3] at hc
      refine ⟨3, by decide, hc, ?_, ?_, ?_, ?_⟩
      · rw [decide_eq_false (by omega)]; rfl
      · rw [decide_eq_false (by omega)]; rfl
      · rw [decide_eq_false (by omega)]; rfl
      · rw [decide_eq_false (show ¬ x % 9223372036854775808 < 4503599627370496 by omega)]; rfl
theorem d_spl (x : Nat) (hx : x < 18446744073709551616) : splitS 11 52 x = ((((x / 9223372036854775808 % 2 : Nat) : Int) != 0, x / 4503599627370496 % 2048, x % 4503599627370496), 0) := by
  have hf : fitS 11 52 x = 0 := by
    unfold fitS
    rw [if_pos (show chkF 11 52 = 0 from by decide)]
    unfold fitF
    rw [show (2 ^ (1 + (11 : Int).toNat + (52 : Int).toNat)) = 18446744073709551616 from by decide, if_neg (by omega)]
  unfold splitS
  rw [if_pos hf]
  unfold splitF
  rw [show (2 ^ ((52 : Int).toNat + (11 : Int).toNat)) = 9223372036854775808 from by decide, show (2 ^ (52 : Int).toNat) = 4503599627370496 from by decide, show (2 ^ (11 : Int).toNat) = 2048 from by decide]

theorem s_cls (x : Nat) (hx : x < 4294967296) : ∃ c : Nat, c ≤ 5 ∧ classS 8 23 x = (c, 0) ∧ ((c : Int) == 5) = decide (2139095040 < x % 2147483648) ∧ ((c : Int) == 1) = decide (x % 2147483648 = 0) ∧ ((c : Int) == 4) = decide (x % 2147483648 = 2139095040) ∧ ((c : Int) == 2) = (decide (x % 2147483648 < 8388608) && !decide (x % 2147483648 = 0)) := by
  have hf : fitS 8 23 x = 0 := by
    unfold fitS
    rw [if_pos (show chkF 8 23 = 0 from by decide)]
    unfold fitF
    rw [show (2 ^ (1 + (8 : Int).toNat + (23 : Int).toNat)) = 4294967296 from by decide, if_neg (by omega)]
  have hs : splitS 8 23 x = ((((x / 2147483648 % 2 : Nat) : Int) != 0, x / 8388608 % 256, x % 8388608), 0) := by
    unfold splitS
    rw [if_pos hf]
    unfold splitF
    rw [show (2 ^ ((23 : Int).toNat + (8 : Int).toNat)) = 2147483648 from by decide, show (2 ^ (23 : Int).toNat) = 8388608 from by decide, show (2 ^ (8 : Int).toNat) = 256 from by decide]
  have hc : classS 8 23 x = (classF 8 (x / 8388608 % 256) (x % 8388608), 0) := by
    unfold classS
    rw [if_pos hf, hs]
    rfl
  unfold classF at hc
  rw [show 2 ^ 8 = 256 from by decide] at hc
  by_cases h1 : x / 8388608 % 256 = 0
  · rw [if_pos h1] at hc
    by_cases h2 : x % 8388608 = 0
    · rw [if_pos h2] at hc
      refine ⟨1, by decide, hc, ?_, ?_, ?_, ?_⟩
      · rw [decide_eq_false (by omega)]; rfl
      · rw [decide_eq_true (by omega)]; rfl
      · rw [decide_eq_false (by omega)]; rfl
      · rw [decide_eq_true (show x % 2147483648 < 8388608 by omega), decide_eq_true (show x % 2147483648 = 0 by omega)]; rfl
    · rw [if_neg h2] at hc
      refine ⟨2, by decide, hc, ?_, ?_, ?_, ?_⟩
      · rw [decide_eq_false (by omega)]; rfl
      · rw [decide_eq_false (by omega)]; rfl
      · rw [decide_eq_false (by omega)]; rfl
      · rw [decide_eq_true (show x % 2147483648 < 8388608 by omega), decide_eq_false (show ¬ x % 2147483648 = 0 by omega)]; rfl
  · rw [if_neg h1] at hc
    by_cases h3 : x / 8388608 % 256 + 1 = 256
    · rw [if_pos h3] at hc
      by_cases h2 : x % 8388608 = 0
      · rw [if_pos h2] at hc
        refine ⟨4, by decide, hc, ?_, ?_, ?_, ?_⟩
        · rw [decide_eq_false (by omega)]; rfl
        · rw [decide_eq_false (by omega)]; rfl
        · rw [decide_eq_true (by omega)]; rfl
        · rw [decide_eq_false (show ¬ x % 2147483648 < 8388608 by omega)]; rfl
      · rw [if_neg h2] at hc
        refine ⟨5, by decide, hc, ?_, ?_, ?_, ?_⟩
        · rw [decide_eq_true (by omega)]; rfl
        · rw [decide_eq_false (by omega)]; rfl
        · rw [decide_eq_false (by omega)]; rfl
        · rw [decide_eq_false (show ¬ x % 2147483648 < 8388608 by omega)]; rfl
    · rw [if_neg h3] at hc
      refine ⟨3, by decide, hc, ?_, ?_, ?_, ?_⟩
      · rw [decide_eq_false (by omega)]; rfl
      · rw [decide_eq_false (by omega)]; rfl
      · rw [decide_eq_false (by omega)]; rfl
      · rw [decide_eq_false (show ¬ x % 2147483648 < 8388608 by omega)]; rfl
theorem s_spl (x : Nat) (hx : x < 4294967296) : splitS 8 23 x = ((((x / 2147483648 % 2 : Nat) : Int) != 0, x / 8388608 % 256, x % 8388608), 0) := by
  have hf : fitS 8 23 x = 0 := by
    unfold fitS
    rw [if_pos (show chkF 8 23 = 0 from by decide)]
    unfold fitF
    rw [show (2 ^ (1 + (8 : Int).toNat + (23 : Int).toNat)) = 4294967296 from by decide, if_neg (by omega)]
  unfold splitS
  rw [if_pos hf]
  unfold splitF
  rw [show (2 ^ ((23 : Int).toNat + (8 : Int).toNat)) = 2147483648 from by decide, show (2 ^ (23 : Int).toNat) = 8388608 from by decide, show (2 ^ (8 : Int).toNat) = 256 from by decide]

theorem andNot_sign (x : Nat) (hx : x < 18446744073709551616) : bits BinOp.andNot IntKind.u64 (x : Int) 9223372036854775808 = ((x % 9223372036854775808 : Nat) : Int) := by
  rw [show (9223372036854775808 : Int) = ((9223372036854775808 : Nat) : Int) from rfl, u64_andNot_nat x _ hx (by decide)]
  rw [show 18446744073709551615 - 9223372036854775808 = 2 ^ 63 - 1 from by decide, Nat.and_two_pow_sub_one_eq_mod]
theorem math_Abs (x y : Nat) (hx : x < 18446744073709551616) (hy : y = x % 9223372036854775808) (w : World) :
    Calls Try.prog 32 #[.float .f64 x] w fun e w' => e = .returned (.float .f64 y) ∧ w = w' := by
  have h1 := run_bits64 x
  have h2 : ∀ w, (callFunc 28 #[.int .u64 (y : Int)]).run Try.prog w = .ok (.value (.float .f64 y)) w := fun w => by
    have := run_from64 (y : Int) w
    rw [Int.toNat_natCast] at this; exact this
  have h3 := andNot_sign x hx
  rw [← hy] at h3
  clear hy
  go_enter Try.func32, Try.ntmps32
  go_wp2
  go_ret
  exact ⟨rfl, rfl⟩
theorem math_Signbit (x : Nat) (s : Bool) (hx : x < 18446744073709551616) (hs : s = (((x / 9223372036854775808 % 2 : Nat) : Int) != 0)) (w : World) :
    Calls Try.prog 33 #[.float .f64 x] w fun e w' => e = .returned (.bool s) ∧ w = w' := by
  have h1 := run_bits64 x
  have h3 : decide (wrap64 (x : Int) < 0) = s := by
    rw [hs]
    unfold wrap64
    by_cases h : x < 9223372036854775808
    · rw [decide_eq_false (by omega)]
      symm; rw [bne_eq_false_iff_eq]; omega
    · rw [decide_eq_true (by omega)]
      symm; rw [bne_iff_ne]; omega
  clear hs
  go_enter Try.func33, Try.ntmps33
  go_wp2
  go_ret
  subst h3
  exact ⟨rfl, rfl⟩
theorem nv1 : knownS 11 52 false (2 ^ (11 : Int).toNat - 1 - 1) (2 ^ (52 : Int).toNat - 1) = (9218868437227405311, 0) := by decide +kernel
theorem nv2 : knownS 11 52 true 0 1 = (9223372036854775809, 0) := by decide +kernel
theorem nv3 : knownS 8 23 true (2 ^ (8 : Int).toNat - 1 - 1) (2 ^ (23 : Int).toNat - 1) = (4286578687, 0) := by decide +kernel
theorem nv4 : knownS 8 23 false 0 1 = (1, 0) := by decide +kernel

theorem walk (X Y : Int) (hX : 0 ≤ X ∧ X ≤ 18446744073709551615) (hY : 0 ≤ Y ∧ Y ≤ 4294967295) (w : World) :
    Calls Try.prog 7 #[.int .u64 X, .int .u32 Y] w fun e w' => e = .returned (.bool true) ∧ Below w.heap.size w w' := by
  obtain ⟨x, rfl⟩ : ∃ x : Nat, X = (x : Int) := ⟨X.toNat, by omega⟩
  obtain ⟨y, rfl⟩ : ∃ y : Nat, Y = (y : Int) := ⟨Y.toNat, by omega⟩
  have hx64 : x < 18446744073709551616 := by omega
  have hy32 : y < 4294967296 := by omega
  have r1 : ∀ w, (callFunc 28 #[.int .u64 (x : Int)]).run Try.prog w = .ok (.value (.float .f64 x)) w := fun w => by
    have := run_from64 (x : Int) w
    rw [Int.toNat_natCast] at this; exact this
  have r2 : ∀ w, (callFunc 30 #[.int .u32 (y : Int)]).run Try.prog w = .ok (.value (.float .f32 y)) w := fun w => by
    have := run_from32 (y : Int) w
    rw [Int.toNat_natCast] at this; exact this
  have r3 := run_bits64
  have r4 := run_bits32
  obtain ⟨c, hc5, hcl, q5, q1, q4, q2⟩ := d_cls x hx64
  obtain ⟨d, hd5, hdl, p5, p1, p4, p2⟩ := s_cls y hy32
  have k1 := forms_Class 11 52 (x : Int) x rfl hx64
  have k2 := forms_Class 8 23 (y : Int) y rfl (by omega)
  rw [hcl] at k1
  rw [hdl] at k2
  have k3 := forms_Split 11 52 (x : Int) x rfl hx64
  have k4 := forms_Split 8 23 (y : Int) y rfl (by omega)
  rw [d_spl x hx64] at k3
  rw [s_spl y hy32] at k4
  have k5 := forms_Greatest 11 52 false
  have k6 := forms_Least 11 52 true
  have k7 := forms_Greatest 8 23 true
  have k8 := forms_Least 8 23 false
  rw [nv1] at k5
  rw [nv2] at k6
  rw [nv3] at k7
  rw [nv4] at k8
  have f5 : (FloatKind.f64.format.order x x != some .eq) = _ := dbl_self x
  have f1 : (FloatKind.f64.format.order x 0 == some .eq) = _ := dbl_nought x
  have fp : (FloatKind.f64.format.order x 9218868437227405311 == some .gt) = _ := dbl_gt x
  have fn : (FloatKind.f64.format.order x 18442240474082181119 == some .lt) = _ := dbl_lt x
  have g5 : (FloatKind.f32.format.order y y != some .eq) = _ := sgl_self y
  have g1 : (FloatKind.f32.format.order y 0 == some .eq) = _ := sgl_nought y
  have gp : (FloatKind.f32.format.order y 2139095039 == some .gt) = _ := sgl_gt y
  have gn : (FloatKind.f32.format.order y 4286578687 == some .lt) = _ := sgl_lt y
  obtain ⟨z, hz⟩ : ∃ z, z = x % 9223372036854775808 := ⟨_, rfl⟩
  have ft : (FloatKind.f64.format.order z 4503599627370496 == some .lt) = _ := dbl_tiny x z hz
  have kA := math_Abs x z hx64 hz
  obtain ⟨sg, hsg⟩ : ∃ sg, sg = (((x / 9223372036854775808 % 2 : Nat) : Int) != 0) := ⟨_, rfl⟩
  have kS := math_Signbit x sg hx64 hsg
  rw [← hsg] at k3
  obtain ⟨sq, hsq⟩ : ∃ sq, sq = (((y / 2147483648 % 2 : Nat) : Int) != 0) := ⟨_, rfl⟩
  rw [← hsq] at k4
  have hsq2 : decide (2147483648 ≤ y) = sq := by
    rw [hsq]
    by_cases h : y < 2147483648
    · rw [decide_eq_false (by omega)]; symm; rw [bne_eq_false_iff_eq]; omega
    · rw [decide_eq_true (by omega)]; symm; rw [bne_iff_ne]; omega
  have hsq3 : decide ((2147483648 : Int) ≤ (y : Int)) = sq := by rw [← hsq2]; congr 1; simp only [eq_iff_iff]; omega
  have f1n : (FloatKind.f64.format.order x 0 != some .eq) = !decide (x % 9223372036854775808 = 0) := by rw [← f1]; rfl
  have q4' : ((c : Int) == 4) = ((decide (x % 9223372036854775808 = 9218868437227405312) && !(x / 9223372036854775808 % 2 == 1)) || (decide (x % 9223372036854775808 = 9218868437227405312) && (x / 9223372036854775808 % 2 == 1))) := by
    rw [q4]; cases decide (x % 9223372036854775808 = 9218868437227405312) <;> cases (x / 9223372036854775808 % 2 == 1) <;> rfl
  have p4' : ((d : Int) == 4) = ((decide (y % 2147483648 = 2139095040) && !(y / 2147483648 % 2 == 1)) || (decide (y % 2147483648 = 2139095040) && (y / 2147483648 % 2 == 1))) := by
    rw [p4]; cases decide (y % 2147483648 = 2139095040) <;> cases (y / 2147483648 % 2 == 1) <;> rfl
  clear q4 p4 hcl hdl p2 hz hsg hsq
  generalize (decide (x % 9223372036854775808 = 9218868437227405312) && !(x / 9223372036854775808 % 2 == 1)) = vp at *
  generalize (decide (x % 9223372036854775808 = 9218868437227405312) && (x / 9223372036854775808 % 2 == 1)) = vn at *
  generalize (decide (y % 2147483648 = 2139095040) && !(y / 2147483648 % 2 == 1)) = up at *
  generalize (decide (y % 2147483648 = 2139095040) && (y / 2147483648 % 2 == 1)) = un at *
  generalize decide (x % 9223372036854775808 < 4503599627370496) = vt at *
  generalize decide (x % 9223372036854775808 = 0) = v1 at *
  generalize decide (y % 2147483648 = 0) = u1 at *
  generalize decide (9218868437227405312 < x % 9223372036854775808) = v5 at *
  generalize decide (2139095040 < y % 2147483648) = u5 at *
  generalize x / 4503599627370496 % 2048 = kx at *
  generalize x % 4503599627370496 = lx at *
  generalize y / 8388608 % 256 = ky at *
  generalize y % 8388608 = ly at *
  go_enter Try.func7, Try.ntmps7
  go_wp2_with fail
  refine (awake_any _).mono ?_
  rintro r w1 ⟨rfl, hb1⟩
  go_wp2_with fail
  refine (forms_Double _).mono ?_
  rintro r w2 ⟨rfl, hb2⟩
  have hbw2 := hb1.trans (hb2.mono hb1.size)
  clear hb1 hb2
  go_wp2_with fail
  refine (k1 _).mono ?_
  rintro r w3 ⟨rfl, hb3⟩
  have hbw3 := hbw2.trans (hb3.mono hbw2.size)
  clear hb3 hbw2
  go_wp2_with fail
  refine (forms_Single _).mono ?_
  rintro r w4 ⟨rfl, hb4⟩
  have hbw4 := hbw3.trans (hb4.mono hbw3.size)
  clear hb4 hbw3
  go_wp2_with fail
  refine (k2 _).mono ?_
  rintro r w5 ⟨rfl, hb5⟩
  have hbw5 := hbw4.trans (hb5.mono hbw4.size)
  clear hb5 hbw4
  cases vp <;> cases up <;> cases vt
  all_goals (
    have fp2 := fp
    have gp2 := gp
    have ft2 := ft
    simp only [beq_iff_eq, beq_eq_false_iff_ne, ne_eq] at fp2 gp2 ft2
    go_wp2_with fail
    refine (kA _).mono ?_
    rintro r w6 ⟨rfl, rfl⟩
    go_wp2_with fail
    refine (forms_Double _).mono ?_
    rintro r w7 ⟨rfl, hb7⟩
    have hbw7 := hbw5.trans (hb7.mono hbw5.size)
    clear hb7 hbw5
    go_wp2_with fail
    refine (k3 _).mono ?_
    rintro r w8 ⟨rfl, hb8⟩
    have hbw8 := hbw7.trans (hb8.mono hbw7.size)
    clear hb8 hbw7
    go_wp2_with fail
    refine (forms_Single _).mono ?_
    rintro r w9 ⟨rfl, hb9⟩
    have e8 : w9.cell? ⟨w8.heap.size, 0, none⟩ = some (.bool sg) := by rw [hb9.cell (p := ⟨w8.heap.size, 0, none⟩) (by simp)]; simp
    have hB9 : Below w8.heap.size w8 w9 := ((Below.refl w8.heap.size w8).alloc (Nat.le_refl _) _).trans (hb9.mono (by simp))
    have hbw9 := hbw8.trans (hB9.mono hbw8.size)
    clear hb9 hB9 hbw8
    go_wp2_with fail
    refine (k4 _).mono ?_
    rintro r w10 ⟨rfl, hb10⟩
    have e10 := cell_keep hb10 e8
    have z10 : w8.heap.size < w10.heap.size := cell_lt e10
    have hbw10 := hbw9.trans (hb10.mono hbw9.size)
    clear hb10 hbw9 e8
    go_wp2
    go_quiet ((go_at_call 33; exact quiet_left (kS _)))
    go_wp2_with fail
    refine (forms_Double _).mono ?_
    rintro r w11 ⟨rfl, hb11⟩
    have hz10 := hbw10.size
    have hbw11 := (bdn (hbw10.alloc hbw10.size _) _).trans (hb11.mono (by simp; omega))
    clear hb11
    go_wp2_with fail
    refine (k5 _).mono ?_
    rintro r w12 ⟨rfl, hb12⟩
    have hbw12 := hbw11.trans (hb12.mono hbw11.size)
    clear hb12 hbw11
    go_wp2_with fail
    refine (forms_Double _).mono ?_
    rintro r w13 ⟨rfl, hb13⟩
    have hbw13 := hbw12.trans (hb13.mono hbw12.size)
    clear hb13 hbw12
    go_wp2_with fail
    refine (k6 _).mono ?_
    rintro r w14 ⟨rfl, hb14⟩
    have hbw14 := hbw13.trans (hb14.mono hbw13.size)
    clear hb14 hbw13
    go_wp2_with fail
    refine (forms_Single _).mono ?_
    rintro r w15 ⟨rfl, hb15⟩
    have hbw15 := hbw14.trans (hb15.mono hbw14.size)
    clear hb15 hbw14
    go_wp2_with fail
    refine (k7 _).mono ?_
    rintro r w16 ⟨rfl, hb16⟩
    have hbw16 := hbw15.trans (hb16.mono hbw15.size)
    clear hb16 hbw15
    go_wp2_with fail
    refine (forms_Single _).mono ?_
    rintro r w17 ⟨rfl, hb17⟩
    have hbw17 := hbw16.trans (hb17.mono hbw16.size)
    clear hb17 hbw16
    go_wp2_with fail
    refine (k8 _).mono ?_
    rintro r w18 ⟨rfl, hb18⟩
    have hbw18 := hbw17.trans (hb18.mono hbw17.size)
    clear hb18 hbw17
    go_wp2
    go_ret
    exact ⟨rfl, hbw18⟩)

theorem own : ownKnob Try.prog.godebug = none := by kernel_rfl
theorem laidOut : laidOutB Try.prog = true := by kernel_rfl

theorem lifted (os : Os) (started : os.Started) (H : Type) (enc : TypeId × Value → H) :
    ReturnsInHanded {} Try.checked os 7 .any (Rows.formNativeSpec.pre6 enc Try.prog Try.f7 Rows.formNativeRow.domain false) (Rows.formNativeSpec.post enc Try.prog Try.f7 false true false false) := by
  refine returnsInHanded_of_change_sized (C := Try.checked) own started (by kernel_rfl) Try.func7
    (ChangeSpec.witness6 (enc := enc) (C := Try.checked) false ⟨#[], #[.int .u64 0, .int .u32 0], []⟩ 8 (by kernel_rfl) (by kernel_rfl) (by kernel_rfl) (by kernel_rfl)) ?_
  intro W base args ds gs before hval0 hW hcnd hsz0 _
  have hval : ∀ (j : Nat) t v, Try.f7.params[j]? = some t → args[j]? = some v → Value.okWide Try.prog W .any base t v := hval0
  have hsz : (DataW.weightsEach Try.prog (Try.f7.params.toList ++ Rows.formNativeSpec.plain.varTypes Try.prog) (ds ++ gs)).all (· ≤ reachBytes) = true := hsz0
  have hW' := hW
  obtain ⟨p, q, hA0, hV, rfl, hfz, hnd⟩ := hW
  have hA : DataW.TrodAll enc Try.prog W 0 (fun _ => true) true Try.f7.params.toList args.toList ds p := hA0
  rw [Try.params7] at hA hval hsz
  obtain ⟨v0, vs0, d0, ds0, p0, q0, hargs, rfl, rfl, h0, r0⟩ := trodAll_cons hA
  obtain ⟨v1, vs1, d1, ds1, p1, q1, rfl, rfl, rfl, h1, r1⟩ := trodAll_cons r0
  obtain ⟨rfl, rfl, rfl⟩ := trodAll_nil r1
  obtain rfl : args = #[v0, v1] := by cases args; simp_all
  obtain ⟨rfl, rfl⟩ := trodVars_none hV
  obtain ⟨a0, rfl, rfl, rfl, w0⟩ := open_int Try.underlying24 (hval 0 24 v0 rfl rfl) h0
  have b0 := bounds_u64 w0
  obtain ⟨a1, rfl, rfl, rfl, w1⟩ := open_int Try.underlying47 (hval 1 47 v1 rfl rfl) h1
  have b1 := bounds_u32 w1
  clear hA0 hval0 hsz0
  simp only [List.append_nil] at hW'
  refine (walk a0 a1 b0 b1 W).mono fun e W' ⟨he, bel⟩ => ?_
  subst he
  exact ⟨_, rfl, _, _, _, [], _, [], hW', trodAll_cons_mk (shut_bool Try.underlying4 _) trodAll_mk0, trodAll_cons_mk (shut_int Try.underlying24 w0) (trodAll_cons_mk (shut_int Try.underlying47 w1) trodAll_mk0), rfl, bel.frame _, fun h => by cases h⟩

theorem over : Rows.formNativeRow.holds Try.pinned (OpenSpec.ofChange Rows.formNativeSpec) :=
  OpenClaim.holds_of_wide 7 Try.f7 rfl rfl rfl rfl rfl rfl rfl ⟨rfl, rfl, rfl, rfl, rfl⟩ rfl rfl rfl rfl rfl (by kernel_rfl) Try.func7 (by kernel_rfl)
    (of_decide_eq_true (by kernel_rfl)) (by unfold Func.isWrapper; first | (rw [if_pos (by decide +kernel)]; kernel_rfl) | (rw [if_neg (by decide +kernel)]; exact ⟨rfl, rfl⟩))
    (fun os started H enc _ => lifted os started H enc)

theorem proved : Rows.FormNativeSaid := over
#print axioms proved
end Go.Proofs.Ytmneicbagcimdaa.formNative
