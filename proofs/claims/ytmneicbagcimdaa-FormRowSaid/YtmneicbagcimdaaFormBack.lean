/- FormBack: bits that are parted and joined are these bits; fields that are joined and parted these fields; what may not be is refused by all calls alike. No condition. -/
import Derived.Test.YtmneicbagcimdaaRows
import Derived.Test.YtmneicbagcimdaaFoH
import Derived.ProofKit
import Derived.OpenShut
import Derived.ShutString
import Derived.ChangeOld
import Derived.SizedLaws
import Derived.Below
import Derived.Lib.SmallJoins
namespace Go.Proofs.Ytmneicbagcimdaa.formBack
open Go.ChangeShapes Go.WideShapes Go.ChangeAt Go.RowKit Go.Joins
open Go.ChangeMaps (open_string shut_string)
open Go.RowKit
set_option linter.unusedVariables false
set_option linter.unusedSimpArgs false
set_option maxHeartbeats 4000000
set_option maxRecDepth 100000

theorem chk_range {E F : Nat} (h1 : 2 ≤ E) (h2 : E ≤ 11) (h3 : 1 ≤ F) (h4 : F ≤ 52) : chkF (E : Int) (F : Int) = 0 := by unfold chkF; rw [if_neg (by omega)]
theorem fit_chk {e f : Int} {b : Nat} (h : fitS e f b = 0) : chkF e f = 0 := by
  unfold fitS at h; by_cases hc : chkF e f = 0
  · exact hc
  · rw [if_neg hc] at h; exact h
theorem split_code (e f : Int) (b : Nat) : (splitS e f b).2 = fitS e f b := by
  unfold splitS; split
  · rename_i h; exact h.symm
  · rfl
theorem class_code (e f : Int) (b : Nat) : (classS e f b).2 = fitS e f b := by
  unfold classS; split
  · rename_i h; exact h.symm
  · rfl
theorem class_le (e f : Int) (b : Nat) (h : fitS e f b = 0) : 1 ≤ (classS e f b).1 ∧ (classS e f b).1 ≤ 5 := by
  unfold classS; rw [if_pos h]; unfold classF; dsimp only; repeat' split
  all_goals omega
/-- Parted and joined. -/
theorem join_split {e f : Int} {b : Nat} (h : fitS e f b = 0) : joinS e f (splitS e f b).1.1 (((splitS e f b).1.2.1 : Nat) : Int) (splitS e f b).1.2.2 = (b, 0) := by
  obtain ⟨E, F, rfl, rfl, hE1, hE2, hF1, hF2, hb⟩ := fit_ok h
  rw [show splitS (E : Int) (F : Int) b = (splitF E F b, 0) from by unfold splitS; rw [if_pos h]; rfl]
  unfold joinS
  rw [if_pos (fit_chk h)]
  simp only [Int.toNat_natCast]
  refine join_ok (Nat.mod_lt _ (Nat.two_pow_pos E)) (Nat.mod_lt _ (Nat.two_pow_pos F)) ?_
  have hp : 2 ^ (F + E) = 2 ^ F * 2 ^ E := Nat.pow_add 2 F E
  have hq : 2 ^ (1 + E + F) = 2 * 2 ^ (F + E) := by rw [show 1 + E + F = (F + E) + 1 from by omega, Nat.pow_succ, Nat.mul_comm]
  obtain ⟨P, hP⟩ : ∃ P, P = 2 ^ F := ⟨_, rfl⟩
  obtain ⟨Q, hQ⟩ : ∃ Q, Q = 2 ^ E := ⟨_, rfl⟩
  have hP0 : 0 < P := by rw [hP]; exact Nat.two_pow_pos F
  have hQ0 : 0 < Q := by rw [hQ]; exact Nat.two_pow_pos E
  simp only [splitF, bne_iff_ne]
  rw [hq, hp, ← hP, ← hQ] at hb
  rw [hp, ← hP, ← hQ]
  have h1 := Nat.div_add_mod b P
  have h2 := Nat.div_add_mod (b / P) Q
  have h3 : b / (P * Q) = b / P / Q := (Nat.div_div_eq_div_mul b P Q).symm
  have h4 : b / (P * Q) < 2 := Nat.div_lt_of_lt_mul (by rw [Nat.mul_comm]; exact hb)
  rw [h3] at h4 ⊢
  obtain ⟨u, hu⟩ : ∃ u, u = b / P / Q := ⟨_, rfl⟩
  obtain ⟨v, hv⟩ : ∃ v, v = b / P % Q := ⟨_, rfl⟩
  rw [← hu, ← hv] at h2
  rw [← hu] at h4 ⊢
  rw [← hv]
  have h5 : P * (b / P) = P * Q * u + v * P := by rw [← h2, Nat.mul_add, Nat.mul_assoc, Nat.mul_comm v]
  have : u = 0 ∨ u = 1 := by omega
  rcases this with rfl | rfl
  · simp; omega
  · simp; omega
/-- Joined and parted. -/
theorem split_join {e f : Int} {ng : Bool} {x y R : Nat} (h : joinS e f ng (x : Int) y = (R, 0)) : fitS e f R = 0 ∧ splitS e f R = ((ng, x, y), 0) ∧ R < 18446744073709551616 := by
  by_cases hc : chkF e f = 0
  · obtain ⟨E, F, rfl, rfl, hE1, hE2, hF1, hF2⟩ := chk_ok hc
    unfold joinS at h
    rw [if_pos hc] at h
    simp only [Int.toNat_natCast] at h
    unfold joinF at h
    split at h
    · cases h
    · rename_i hn
      rw [Int.toNat_natCast] at hn h
      have hR : y + x * 2 ^ F + (if ng = true then 2 ^ (F + E) else 0) = R := congrArg Prod.fst h
      have hx : x < 2 ^ E := by omega
      have hy : y < 2 ^ F := by omega
      have hlim := join_lim hx hy
      have hq : 2 ^ (1 + E + F) = 2 * 2 ^ (F + E) := by rw [show 1 + E + F = (F + E) + 1 from by omega, Nat.pow_succ, Nat.mul_comm]
      have hRl : R < 2 ^ (1 + E + F) := by
        rw [hq, ← hR]
        split <;> omega
      have hfit : fitS (E : Int) (F : Int) R = 0 := by
        unfold fitS; rw [if_pos hc]
        simp only [Int.toNat_natCast]
        unfold fitF; rw [if_neg (by omega)]
      have h64 : 2 ^ (1 + E + F) ≤ 18446744073709551616 := Nat.pow_le_pow_right (n := 2) (by decide) (show 1 + E + F ≤ 64 by omega)
      refine ⟨hfit, ?_, by omega⟩
      rw [show splitS (E : Int) (F : Int) R = (splitF E F R, 0) from by unfold splitS; rw [if_pos hfit]; rfl]
      have hp : 2 ^ (F + E) = 2 ^ F * 2 ^ E := Nat.pow_add 2 F E
      have hP0 := Nat.two_pow_pos F
      have hQ0 := Nat.two_pow_pos E
      have e1 : R % 2 ^ F = y := by
        rw [← hR, hp]
        cases ng
        · simp [Nat.add_mul_mod_self_right, Nat.mod_eq_of_lt hy]
        · simp [Nat.add_mul_mod_self_right, Nat.add_mul_mod_self_left, Nat.mod_eq_of_lt hy]
      have e2 : R / 2 ^ F = x + (if ng = true then 2 ^ E else 0) := by
        rw [← hR, hp]
        cases ng
        · simp [Nat.add_mul_div_right _ _ hP0, Nat.div_eq_of_lt hy]
        · simp [Nat.add_mul_div_right _ _ hP0, Nat.add_mul_div_left _ _ hP0, Nat.div_eq_of_lt hy]
      have e3 : R / 2 ^ F % 2 ^ E = x := by
        rw [e2]; cases ng
        · simp [Nat.mod_eq_of_lt hx]
        · simp [Nat.mod_eq_of_lt hx]
      have e4 : R / 2 ^ (F + E) % 2 = if ng = true then 1 else 0 := by
        rw [hp, ← Nat.div_div_eq_div_mul, e2]
        cases ng
        · simp [Nat.div_eq_of_lt hx]
        · simp [Nat.add_div_right _ hQ0, Nat.div_eq_of_lt hx]
      unfold splitF
      rw [e1, e3, e4]
      cases ng <;> rfl
  · unfold joinS at h
    rw [if_neg hc] at h
    exact absurd (congrArg Prod.snd h) hc
theorem join_neg {e f X : Int} {ng : Bool} {y : Nat} (h : (joinS e f ng X y).2 = 0) : 0 ≤ X := by
  unfold joinS at h
  split at h
  · unfold joinF at h
    split at h
    · cases h
    · omega
  · rename_i hc; exact absurd h hc
theorem join_zero {e f X : Int} {ng : Bool} {y : Nat} (h : (joinS e f ng X y).2 ≠ 0) : (joinS e f ng X y).1 = 0 := by
  unfold joinS at h ⊢
  split
  · rename_i hc
    rw [if_pos hc] at h
    unfold joinF at h ⊢
    split
    · rfl
    · rename_i h'; rw [if_neg h'] at h; exact absurd rfl h
  · rfl

theorem walk (e f B X : Int) (ng : Bool) (Y : Int) (hB : 0 ≤ B ∧ B ≤ 18446744073709551615) (hx : -9223372036854775808 ≤ X ∧ X ≤ 9223372036854775807) (hy : 0 ≤ Y ∧ Y ≤ 18446744073709551615) (w : World) :
    Calls Try.prog 4 #[.agg #[.int .i64 e, .int .i64 f], .int .u64 B, .agg #[.bool ng, .int .i64 X, .int .u64 Y]] w fun e w' => e = .returned (.bool true) ∧ Below w.heap.size w w' := by
  obtain ⟨hx1, hx2⟩ := hx
  obtain ⟨y, rfl⟩ : ∃ y : Nat, Y = (y : Int) := ⟨Y.toNat, by omega⟩
  obtain ⟨b, rfl⟩ : ∃ b : Nat, B = (b : Int) := ⟨B.toNat, by omega⟩
  have hy64 : y < 18446744073709551616 := by omega
  have hb64 : b < 18446744073709551616 := by omega
  have hF := fun W => forms_Fits e f (b : Int) b rfl hb64 W
  have hS := fun W => forms_Split e f (b : Int) b rfl hb64 W
  have hC := fun W => forms_Class e f (b : Int) b rfl hb64 W
  have hJ2 := fun W => forms_Join e f X ng (y : Int) y rfl hy64 hx1 hx2 W
  simp only [split_code] at hS
  simp only [class_code] at hC
  obtain ⟨ps, hps⟩ : ∃ ps, ps = (splitS e f b).1 := ⟨_, rfl⟩
  obtain ⟨cl, hcl⟩ : ∃ cl, cl = (classS e f b).1 := ⟨_, rfl⟩
  have hjs := @join_split e f b
  have hcle := class_le e f b
  rw [← hps] at hjs
  simp only [← hps] at hS
  simp only [← hcl] at hC
  rw [← hcl] at hcle
  have hj1 := fun (hl : -9223372036854775808 ≤ (ps.2.1 : Int)) (hu : (ps.2.1 : Int) ≤ 9223372036854775807) (h2 : ps.2.2 < 18446744073709551616) W => forms_Join e f (ps.2.1 : Int) ps.1 (ps.2.2 : Int) ps.2.2 rfl h2 hl hu W
  have hbnd : fitS e f b = 0 → (ps.2.1 : Int) ≤ 9223372036854775807 ∧ ps.2.2 < 18446744073709551616 := by
    intro h
    obtain ⟨E, F, rfl, rfl, _, hE2, _, hF2, hbb⟩ := fit_ok h
    rw [hps, show splitS (E : Int) (F : Int) b = (splitF E F b, 0) from by unfold splitS; rw [if_pos h]; rfl]
    have h1 : b / 2 ^ F % 2 ^ E < 2 ^ E := Nat.mod_lt _ (Nat.two_pow_pos E)
    have h2 : b % 2 ^ F ≤ b := Nat.mod_le _ _
    have h3 : 2 ^ E ≤ 2048 := Nat.pow_le_pow_right (n := 2) (by decide) hE2
    simp only [splitF]
    omega
  clear hps hcl
  have fin : ∀ (fit : Bool) (ok : Bool), fit = decide (fitS e f b = 0) → ok = decide ((joinS e f ng X y).2 = 0) → Calls Try.prog 4 #[.agg #[.int .i64 e, .int .i64 f], .int .u64 (b : Int), .agg #[.bool ng, .int .i64 X, .int .u64 (y : Int)]] w fun e w' => e = .returned (.bool true) ∧ Below w.heap.size w w' := ?_
  · exact fin _ _ rfl rfl
  intro fit ok hfit hok
  cases ok
  · have hno : (joinS e f ng X y).2 ≠ 0 := by simpa using hok.symm
    have hz := join_zero hno
    simp only [hz] at hJ2
    obtain ⟨cd, hcd⟩ : ∃ cd, cd = (joinS e f ng X y).2 := ⟨_, rfl⟩
    rw [← hcd] at hno
    simp only [← hcd] at hJ2
    have hcn : (cd != 0) = true := by rw [bne_iff_ne]; exact hno
    clear hz hok hcd hno
    cases fit
    · have hfn : fitS e f b ≠ 0 := by simpa using hfit.symm
      obtain ⟨ft, hft⟩ : ∃ ft, ft = fitS e f b := ⟨_, rfl⟩
      rw [← hft] at hfn
      simp only [← hft] at hF hS hC
      have hfe : (ft == 0) = false := by rw [beq_eq_false_iff_ne]; exact hfn
      have hft2 : (ft != ft) = false := bne_self_eq_false _
      clear hfit hft hj1 hbnd hjs hcle hfn
      go_enter Try.func4, Try.ntmps4
      go_wp2_with fail
      refine (awake_any _).mono ?_
      rintro r w1 ⟨rfl, hb1⟩
      have hbw1 : Below w.heap.size w w1 := (((Below.refl w.heap.size w).alloc (Nat.le_refl _) _).alloc (by simp) _).trans (hb1.mono (by simp; omega))
      have c0 : w1.cell? ⟨w.heap.size, 0, none⟩ = some (.int .i64 e) := by rw [hb1.cell (p := ⟨w.heap.size, 0, none⟩) (by simp; omega)]; simp
      have c1 : w1.cell? ⟨w.heap.size, 1, none⟩ = some (.int .i64 f) := by rw [hb1.cell (p := ⟨w.heap.size, 1, none⟩) (by simp; omega)]; simp
      have c2 : w1.cell? ⟨w.heap.size + 1, 0, none⟩ = some (.bool ng) := by rw [hb1.cell (p := ⟨w.heap.size + 1, 0, none⟩) (by simp)]; simp
      have c3 : w1.cell? ⟨w.heap.size + 1, 1, none⟩ = some (.int .i64 X) := by rw [hb1.cell (p := ⟨w.heap.size + 1, 1, none⟩) (by simp)]; simp
      have c4 : w1.cell? ⟨w.heap.size + 1, 2, none⟩ = some (.int .u64 (y : Int)) := by rw [hb1.cell (p := ⟨w.heap.size + 1, 2, none⟩) (by simp)]; simp
      clear hb1
      go_wp2_with fail
      refine (hF _).mono ?_
      rintro r w2 ⟨rfl, hb2⟩
      have hbw2 := hbw1.trans (hb2.mono hbw1.size)
      have d0 := cell_keep hb2 c0
      have d1 := cell_keep hb2 c1
      have d2 := cell_keep hb2 c2
      have d3 := cell_keep hb2 c3
      have d4 := cell_keep hb2 c4
      clear hb2 c0 c1 c2 c3 c4
      go_wp2_with fail
      refine (hS _).mono ?_
      rintro r w3 ⟨rfl, hb3⟩
      have hbw3 := hbw2.trans (hb3.mono hbw2.size)
      have e_0 := cell_keep hb3 d0
      have e_1 := cell_keep hb3 d1
      have e_2 := cell_keep hb3 d2
      have e_3 := cell_keep hb3 d3
      have e_4 := cell_keep hb3 d4
      have z3 := cell_lt e_0
      have z3b := cell_lt e_2
      simp only at z3 z3b
      clear hb3 d0 d1 d2 d3 d4
      go_wp2_with fail
      refine (hC _).mono ?_
      rintro r w4 ⟨rfl, hb4⟩
      have hb4' : Below w3.heap.size w3 w4 := ((Below.refl w3.heap.size w3).alloc (Nat.le_refl _) _).trans (hb4.mono (by simp))
      have hbw4 := hbw3.trans (hb4'.mono hbw3.size)
      have g0 := cell_keep hb4' e_0
      have g1 := cell_keep hb4' e_1
      have g2 := cell_keep hb4' e_2
      have g3 := cell_keep hb4' e_3
      have g4 := cell_keep hb4' e_4
      clear hb4 e_0 e_1 e_2 e_3 e_4
      obtain ⟨w5, hw5⟩ : ∃ w5, w5 = w4 := ⟨_, rfl⟩
      have hbw5 : Below w.heap.size w w5 := by rw [hw5]; exact hbw4
      subst hw5
      have i0 := g0
      have i1 := g1
      have i2 := g2
      have i3 := g3
      have i4 := g4
      clear g0 g1 g2 g3 g4 hb4'
      go_wp2_with fail
      refine (hJ2 _).mono ?_
      rintro r w6 ⟨rfl, hb6⟩
      have hbw6 := hbw5.trans (hb6.mono hbw5.size)
      have j0 := cell_keep hb6 i0
      have j1 := cell_keep hb6 i1
      have j2 := cell_keep hb6 i2
      have j3 := cell_keep hb6 i3
      have j4 := cell_keep hb6 i4
      clear hb6 i0 i1 i2 i3 i4
      go_wp2
      go_ret
      exact ⟨rfl, hbw6⟩
    · have hf0 : fitS e f b = 0 := by simpa using hfit.symm
      have hJ1 := fun W => hj1 (by omega) (hbnd hf0).1 (hbnd hf0).2 W
      rw [hjs hf0] at hJ1
      rw [hf0] at hF
      simp only [hf0] at hS hC
      obtain ⟨hc1, hc5⟩ := hcle hf0
      have hci1 : decide ((cl : Int) < 1) = false := by rw [decide_eq_false_iff_not]; omega
      have hci5 : decide ((5 : Int) < (cl : Int)) = false := by rw [decide_eq_false_iff_not]; omega
      have hbb : ((b : Int) != (b : Int)) = false := bne_self_eq_false _
      clear hfit hj1 hbnd hjs hcle hf0
      go_enter Try.func4, Try.ntmps4
      go_wp2_with fail
      refine (awake_any _).mono ?_
      rintro r w1 ⟨rfl, hb1⟩
      have hbw1 : Below w.heap.size w w1 := (((Below.refl w.heap.size w).alloc (Nat.le_refl _) _).alloc (by simp) _).trans (hb1.mono (by simp; omega))
      have c0 : w1.cell? ⟨w.heap.size, 0, none⟩ = some (.int .i64 e) := by rw [hb1.cell (p := ⟨w.heap.size, 0, none⟩) (by simp; omega)]; simp
      have c1 : w1.cell? ⟨w.heap.size, 1, none⟩ = some (.int .i64 f) := by rw [hb1.cell (p := ⟨w.heap.size, 1, none⟩) (by simp; omega)]; simp
      have c2 : w1.cell? ⟨w.heap.size + 1, 0, none⟩ = some (.bool ng) := by rw [hb1.cell (p := ⟨w.heap.size + 1, 0, none⟩) (by simp)]; simp
      have c3 : w1.cell? ⟨w.heap.size + 1, 1, none⟩ = some (.int .i64 X) := by rw [hb1.cell (p := ⟨w.heap.size + 1, 1, none⟩) (by simp)]; simp
      have c4 : w1.cell? ⟨w.heap.size + 1, 2, none⟩ = some (.int .u64 (y : Int)) := by rw [hb1.cell (p := ⟨w.heap.size + 1, 2, none⟩) (by simp)]; simp
      clear hb1
      go_wp2_with fail
      refine (hF _).mono ?_
      rintro r w2 ⟨rfl, hb2⟩
      have hbw2 := hbw1.trans (hb2.mono hbw1.size)
      have d0 := cell_keep hb2 c0
      have d1 := cell_keep hb2 c1
      have d2 := cell_keep hb2 c2
      have d3 := cell_keep hb2 c3
      have d4 := cell_keep hb2 c4
      clear hb2 c0 c1 c2 c3 c4
      go_wp2_with fail
      refine (hS _).mono ?_
      rintro r w3 ⟨rfl, hb3⟩
      have hbw3 := hbw2.trans (hb3.mono hbw2.size)
      have e_0 := cell_keep hb3 d0
      have e_1 := cell_keep hb3 d1
      have e_2 := cell_keep hb3 d2
      have e_3 := cell_keep hb3 d3
      have e_4 := cell_keep hb3 d4
      have z3 := cell_lt e_0
      have z3b := cell_lt e_2
      simp only at z3 z3b
      clear hb3 d0 d1 d2 d3 d4
      go_wp2_with fail
      refine (hC _).mono ?_
      rintro r w4 ⟨rfl, hb4⟩
      have hb4' : Below w3.heap.size w3 w4 := ((Below.refl w3.heap.size w3).alloc (Nat.le_refl _) _).trans (hb4.mono (by simp))
      have hbw4 := hbw3.trans (hb4'.mono hbw3.size)
      have g0 := cell_keep hb4' e_0
      have g1 := cell_keep hb4' e_1
      have g2 := cell_keep hb4' e_2
      have g3 := cell_keep hb4' e_3
      have g4 := cell_keep hb4' e_4
      have s0 : w4.cell? ⟨w3.heap.size, 0, none⟩ = some (.bool ps.1) := by rw [hb4.cell (p := ⟨w3.heap.size, 0, none⟩) (by simp)]; simp
      have s1 : w4.cell? ⟨w3.heap.size, 1, none⟩ = some (.int .i64 (ps.2.1 : Int)) := by rw [hb4.cell (p := ⟨w3.heap.size, 1, none⟩) (by simp)]; simp
      have s2 : w4.cell? ⟨w3.heap.size, 2, none⟩ = some (.int .u64 (ps.2.2 : Int)) := by rw [hb4.cell (p := ⟨w3.heap.size, 2, none⟩) (by simp)]; simp
      clear hb4 hb4' e_0 e_1 e_2 e_3 e_4
      go_wp2_with fail
      refine (hJ1 _).mono ?_
      rintro r w5 ⟨rfl, hb5⟩
      have hbw5 := hbw4.trans (hb5.mono hbw4.size)
      have i0 := cell_keep hb5 g0
      have i1 := cell_keep hb5 g1
      have i2 := cell_keep hb5 g2
      have i3 := cell_keep hb5 g3
      have i4 := cell_keep hb5 g4
      clear hb5 g0 g1 g2 g3 g4 s0 s1 s2
      go_wp2_with fail
      refine (hJ2 _).mono ?_
      rintro r w6 ⟨rfl, hb6⟩
      have hbw6 := hbw5.trans (hb6.mono hbw5.size)
      have j0 := cell_keep hb6 i0
      have j1 := cell_keep hb6 i1
      have j2 := cell_keep hb6 i2
      have j3 := cell_keep hb6 i3
      have j4 := cell_keep hb6 i4
      clear hb6 i0 i1 i2 i3 i4
      go_wp2
      go_ret
      exact ⟨rfl, hbw6⟩
  · have hyes : (joinS e f ng X y).2 = 0 := by simpa using hok.symm
    have hX0 := join_neg hyes
    obtain ⟨x, rfl⟩ : ∃ x : Nat, X = (x : Int) := ⟨X.toNat, by omega⟩
    obtain ⟨R, hR⟩ : ∃ R, R = (joinS e f ng (x : Int) y).1 := ⟨_, rfl⟩
    have hjr : joinS e f ng (x : Int) y = (R, 0) := by rw [hR, ← hyes]
    obtain ⟨hfR, hsR, hR64⟩ := split_join hjr
    rw [hjr] at hJ2
    have hS2 := fun W => forms_Split e f (R : Int) R rfl hR64 W
    rw [hsR] at hS2
    have hF2 := fun W => forms_Fits e f (R : Int) R rfl hR64 W
    rw [hfR] at hF2
    clear hok hyes hX0 hR hjr hfR hsR hR64
    cases fit
    · have hfn : fitS e f b ≠ 0 := by simpa using hfit.symm
      obtain ⟨ft, hft⟩ : ∃ ft, ft = fitS e f b := ⟨_, rfl⟩
      rw [← hft] at hfn
      simp only [← hft] at hF hS hC
      have hfe : (ft == 0) = false := by rw [beq_eq_false_iff_ne]; exact hfn
      have hft2 : (ft != ft) = false := bne_self_eq_false _
      clear hfit hft hj1 hbnd hjs hcle hfn
      go_enter Try.func4, Try.ntmps4
      go_wp2_with fail
      refine (awake_any _).mono ?_
      rintro r w1 ⟨rfl, hb1⟩
      have hbw1 : Below w.heap.size w w1 := (((Below.refl w.heap.size w).alloc (Nat.le_refl _) _).alloc (by simp) _).trans (hb1.mono (by simp; omega))
      have c0 : w1.cell? ⟨w.heap.size, 0, none⟩ = some (.int .i64 e) := by rw [hb1.cell (p := ⟨w.heap.size, 0, none⟩) (by simp; omega)]; simp
      have c1 : w1.cell? ⟨w.heap.size, 1, none⟩ = some (.int .i64 f) := by rw [hb1.cell (p := ⟨w.heap.size, 1, none⟩) (by simp; omega)]; simp
      have c2 : w1.cell? ⟨w.heap.size + 1, 0, none⟩ = some (.bool ng) := by rw [hb1.cell (p := ⟨w.heap.size + 1, 0, none⟩) (by simp)]; simp
      have c3 : w1.cell? ⟨w.heap.size + 1, 1, none⟩ = some (.int .i64 (x : Int)) := by rw [hb1.cell (p := ⟨w.heap.size + 1, 1, none⟩) (by simp)]; simp
      have c4 : w1.cell? ⟨w.heap.size + 1, 2, none⟩ = some (.int .u64 (y : Int)) := by rw [hb1.cell (p := ⟨w.heap.size + 1, 2, none⟩) (by simp)]; simp
      clear hb1
      go_wp2_with fail
      refine (hF _).mono ?_
      rintro r w2 ⟨rfl, hb2⟩
      have hbw2 := hbw1.trans (hb2.mono hbw1.size)
      have d0 := cell_keep hb2 c0
      have d1 := cell_keep hb2 c1
      have d2 := cell_keep hb2 c2
      have d3 := cell_keep hb2 c3
      have d4 := cell_keep hb2 c4
      clear hb2 c0 c1 c2 c3 c4
      go_wp2_with fail
      refine (hS _).mono ?_
      rintro r w3 ⟨rfl, hb3⟩
      have hbw3 := hbw2.trans (hb3.mono hbw2.size)
      have e_0 := cell_keep hb3 d0
      have e_1 := cell_keep hb3 d1
      have e_2 := cell_keep hb3 d2
      have e_3 := cell_keep hb3 d3
      have e_4 := cell_keep hb3 d4
      have z3 := cell_lt e_0
      have z3b := cell_lt e_2
      simp only at z3 z3b
      clear hb3 d0 d1 d2 d3 d4
      go_wp2_with fail
      refine (hC _).mono ?_
      rintro r w4 ⟨rfl, hb4⟩
      have hb4' : Below w3.heap.size w3 w4 := ((Below.refl w3.heap.size w3).alloc (Nat.le_refl _) _).trans (hb4.mono (by simp))
      have hbw4 := hbw3.trans (hb4'.mono hbw3.size)
      have g0 := cell_keep hb4' e_0
      have g1 := cell_keep hb4' e_1
      have g2 := cell_keep hb4' e_2
      have g3 := cell_keep hb4' e_3
      have g4 := cell_keep hb4' e_4
      clear hb4 e_0 e_1 e_2 e_3 e_4
      obtain ⟨w5, hw5⟩ : ∃ w5, w5 = w4 := ⟨_, rfl⟩
      have hbw5 : Below w.heap.size w w5 := by rw [hw5]; exact hbw4
      subst hw5
      have i0 := g0
      have i1 := g1
      have i2 := g2
      have i3 := g3
      have i4 := g4
      clear g0 g1 g2 g3 g4 hb4'
      go_wp2_with fail
      refine (hJ2 _).mono ?_
      rintro r w6 ⟨rfl, hb6⟩
      have hbw6 := hbw5.trans (hb6.mono hbw5.size)
      have j0 := cell_keep hb6 i0
      have j1 := cell_keep hb6 i1
      have j2 := cell_keep hb6 i2
      have j3 := cell_keep hb6 i3
      have j4 := cell_keep hb6 i4
      clear hb6 i0 i1 i2 i3 i4
      go_wp2_with fail
      refine (hS2 _).mono ?_
      rintro r w7 ⟨rfl, hb7⟩
      have hbw7 := hbw6.trans (hb7.mono hbw6.size)
      have k0 := cell_keep hb7 j0
      have k1 := cell_keep hb7 j1
      have k2 := cell_keep hb7 j2
      have k3 := cell_keep hb7 j3
      have k4 := cell_keep hb7 j4
      have z7 := cell_lt k0
      have z7b := cell_lt k2
      simp only at z7 z7b
      clear hb7 j0 j1 j2 j3 j4
      go_wp2_with fail
      refine (hF2 _).mono ?_
      rintro r w8 ⟨rfl, hb8⟩
      have hbw8 := (hbw7.alloc hbw7.size _).trans (hb8.mono (by have := hbw7.size; simp; omega))
      go_wp2
      go_ret
      exact ⟨rfl, hbw8⟩
    · have hf0 : fitS e f b = 0 := by simpa using hfit.symm
      have hJ1 := fun W => hj1 (by omega) (hbnd hf0).1 (hbnd hf0).2 W
      rw [hjs hf0] at hJ1
      rw [hf0] at hF
      simp only [hf0] at hS hC
      obtain ⟨hc1, hc5⟩ := hcle hf0
      have hci1 : decide ((cl : Int) < 1) = false := by rw [decide_eq_false_iff_not]; omega
      have hci5 : decide ((5 : Int) < (cl : Int)) = false := by rw [decide_eq_false_iff_not]; omega
      have hbb : ((b : Int) != (b : Int)) = false := bne_self_eq_false _
      clear hfit hj1 hbnd hjs hcle hf0
      go_enter Try.func4, Try.ntmps4
      go_wp2_with fail
      refine (awake_any _).mono ?_
      rintro r w1 ⟨rfl, hb1⟩
      have hbw1 : Below w.heap.size w w1 := (((Below.refl w.heap.size w).alloc (Nat.le_refl _) _).alloc (by simp) _).trans (hb1.mono (by simp; omega))
      have c0 : w1.cell? ⟨w.heap.size, 0, none⟩ = some (.int .i64 e) := by rw [hb1.cell (p := ⟨w.heap.size, 0, none⟩) (by simp; omega)]; simp
      have c1 : w1.cell? ⟨w.heap.size, 1, none⟩ = some (.int .i64 f) := by rw [hb1.cell (p := ⟨w.heap.size, 1, none⟩) (by simp; omega)]; simp
      have c2 : w1.cell? ⟨w.heap.size + 1, 0, none⟩ = some (.bool ng) := by rw [hb1.cell (p := ⟨w.heap.size + 1, 0, none⟩) (by simp)]; simp
      have c3 : w1.cell? ⟨w.heap.size + 1, 1, none⟩ = some (.int .i64 (x : Int)) := by rw [hb1.cell (p := ⟨w.heap.size + 1, 1, none⟩) (by simp)]; simp
      have c4 : w1.cell? ⟨w.heap.size + 1, 2, none⟩ = some (.int .u64 (y : Int)) := by rw [hb1.cell (p := ⟨w.heap.size + 1, 2, none⟩) (by simp)]; simp
      clear hb1
      go_wp2_with fail
      refine (hF _).mono ?_
      rintro r w2 ⟨rfl, hb2⟩
      have hbw2 := hbw1.trans (hb2.mono hbw1.size)
      have d0 := cell_keep hb2 c0
      have d1 := cell_keep hb2 c1
      have d2 := cell_keep hb2 c2
      have d3 := cell_keep hb2 c3
      have d4 := cell_keep hb2 c4
      clear hb2 c0 c1 c2 c3 c4
      go_wp2_with fail
      refine (hS _).mono ?_
      rintro r w3 ⟨rfl, hb3⟩
      have hbw3 := hbw2.trans (hb3.mono hbw2.size)
      have e_0 := cell_keep hb3 d0
      have e_1 := cell_keep hb3 d1
      have e_2 := cell_keep hb3 d2
      have e_3 := cell_keep hb3 d3
      have e_4 := cell_keep hb3 d4
      have z3 := cell_lt e_0
      have z3b := cell_lt e_2
      simp only at z3 z3b
      clear hb3 d0 d1 d2 d3 d4
      go_wp2_with fail
      refine (hC _).mono ?_
      rintro r w4 ⟨rfl, hb4⟩
      have hb4' : Below w3.heap.size w3 w4 := ((Below.refl w3.heap.size w3).alloc (Nat.le_refl _) _).trans (hb4.mono (by simp))
      have hbw4 := hbw3.trans (hb4'.mono hbw3.size)
      have g0 := cell_keep hb4' e_0
      have g1 := cell_keep hb4' e_1
      have g2 := cell_keep hb4' e_2
      have g3 := cell_keep hb4' e_3
      have g4 := cell_keep hb4' e_4
      have s0 : w4.cell? ⟨w3.heap.size, 0, none⟩ = some (.bool ps.1) := by rw [hb4.cell (p := ⟨w3.heap.size, 0, none⟩) (by simp)]; simp
      have s1 : w4.cell? ⟨w3.heap.size, 1, none⟩ = some (.int .i64 (ps.2.1 : Int)) := by rw [hb4.cell (p := ⟨w3.heap.size, 1, none⟩) (by simp)]; simp
      have s2 : w4.cell? ⟨w3.heap.size, 2, none⟩ = some (.int .u64 (ps.2.2 : Int)) := by rw [hb4.cell (p := ⟨w3.heap.size, 2, none⟩) (by simp)]; simp
      clear hb4 hb4' e_0 e_1 e_2 e_3 e_4
      go_wp2_with fail
      refine (hJ1 _).mono ?_
      rintro r w5 ⟨rfl, hb5⟩
      have hbw5 := hbw4.trans (hb5.mono hbw4.size)
      have i0 := cell_keep hb5 g0
      have i1 := cell_keep hb5 g1
      have i2 := cell_keep hb5 g2
      have i3 := cell_keep hb5 g3
      have i4 := cell_keep hb5 g4
      clear hb5 g0 g1 g2 g3 g4 s0 s1 s2
      go_wp2_with fail
      refine (hJ2 _).mono ?_
      rintro r w6 ⟨rfl, hb6⟩
      have hbw6 := hbw5.trans (hb6.mono hbw5.size)
      have j0 := cell_keep hb6 i0
      have j1 := cell_keep hb6 i1
      have j2 := cell_keep hb6 i2
      have j3 := cell_keep hb6 i3
      have j4 := cell_keep hb6 i4
      clear hb6 i0 i1 i2 i3 i4
      go_wp2_with fail
      refine (hS2 _).mono ?_
      rintro r w7 ⟨rfl, hb7⟩
      have hbw7 := hbw6.trans (hb7.mono hbw6.size)
      have k0 := cell_keep hb7 j0
      have k1 := cell_keep hb7 j1
      have k2 := cell_keep hb7 j2
      have k3 := cell_keep hb7 j3
      have k4 := cell_keep hb7 j4
      have z7 := cell_lt k0
      have z7b := cell_lt k2
      simp only at z7 z7b
      clear hb7 j0 j1 j2 j3 j4
      go_wp2_with fail
      refine (hF2 _).mono ?_
      rintro r w8 ⟨rfl, hb8⟩
      have hbw8 := (hbw7.alloc hbw7.size _).trans (hb8.mono (by have := hbw7.size; simp; omega))
      go_wp2
      go_ret
      exact ⟨rfl, hbw8⟩

theorem own : ownKnob Try.prog.godebug = none := by kernel_rfl
theorem laidOut : laidOutB Try.prog = true := by kernel_rfl

theorem lifted (os : Os) (started : os.Started) (H : Type) (enc : TypeId × Value → H) :
    ReturnsInHanded {} Try.checked os 4 .any (Rows.formBackSpec.pre6 enc Try.prog Try.f4 Rows.formBackRow.domain false) (Rows.formBackSpec.post enc Try.prog Try.f4 false true false false) := by
  refine returnsInHanded_of_change_sized (C := Try.checked) own started (by kernel_rfl) Try.func4
    (ChangeSpec.witness6 (enc := enc) (C := Try.checked) false ⟨#[], #[.agg #[.int .i64 0, .int .i64 0], .int .u64 0, .agg #[.bool false, .int .i64 0, .int .u64 0]], []⟩ 8 (by kernel_rfl) (by kernel_rfl) (by kernel_rfl) (by kernel_rfl)) ?_
  intro W base args ds gs before hval0 hW hcnd hsz0 _
  have hval : ∀ (j : Nat) t v, Try.f4.params[j]? = some t → args[j]? = some v → Value.okWide Try.prog W .any base t v := hval0
  have hsz : (DataW.weightsEach Try.prog (Try.f4.params.toList ++ Rows.formBackSpec.plain.varTypes Try.prog) (ds ++ gs)).all (· ≤ reachBytes) = true := hsz0
  have hW' := hW
  obtain ⟨p, q, hA0, hV, rfl, hfz, hnd⟩ := hW
  have hA : DataW.TrodAll enc Try.prog W 0 (fun _ => true) true Try.f4.params.toList args.toList ds p := hA0
  rw [Try.params4] at hA hval hsz
  obtain ⟨v0, vs0, d0, ds0, p0, q0, hargs, rfl, rfl, h0, r0⟩ := trodAll_cons hA
  obtain ⟨v1, vs1, d1, ds1, p1, q1, rfl, rfl, rfl, h1, r1⟩ := trodAll_cons r0
  obtain ⟨v2, vs2, d2, ds2, p2, q2, rfl, rfl, rfl, h2, r2⟩ := trodAll_cons r1
  obtain ⟨rfl, rfl, rfl⟩ := trodAll_nil r2
  obtain rfl : args = #[v0, v1, v2] := by cases args; simp_all
  obtain ⟨rfl, rfl⟩ := trodVars_none hV
  have k0 := h0
  have lt0 : ∀ x ∈ p0, x.block < W.heap.size := by obtain ⟨m, hm⟩ := k0; exact DataW.trod_lt m _ _ _ hm
  obtain ⟨ca0, cb0, ya0, yb0, nn0, hv0, _, _, ga0, gb0⟩ := open_agg2 Try.underlying23 (by kernel_rfl) (by kernel_rfl) (hval 0 23 v0 rfl rfl) h0
  obtain ⟨e0, he0, _, we0⟩ := DataW.trod_int Try.underlying3 ga0
  obtain ⟨f0, hf0, _, wf0⟩ := DataW.trod_int Try.underlying3 gb0
  obtain rfl : ca0 = .int .i64 e0 := by simpa using he0
  obtain rfl : cb0 = .int .i64 f0 := by simpa using hf0
  subst hv0
  have be0 := bounds_i64 we0
  have bf0 := bounds_i64 wf0
  obtain ⟨a1, rfl, rfl, rfl, w1⟩ := open_int Try.underlying24 (hval 1 24 v1 rfl rfl) h1
  have b1 := bounds_u64 w1
  have k2 := h2
  have lt2 : ∀ x ∈ p2, x.block < W.heap.size := by obtain ⟨m, hm⟩ := k2; exact DataW.trod_lt m _ _ _ hm
  obtain ⟨ca2, cb2, cc2, ya2, yb2, yc2, nn2, hv2, _, _, ga2, gb2, gc2⟩ := open_agg3 Try.underlying26 (by kernel_rfl) (by kernel_rfl) (hval 2 26 v2 rfl rfl) h2
  obtain ⟨ng2, hn2, _⟩ := DataW.trod_bool Try.underlying4 ga2
  obtain ⟨x2, hx2, _, wx2⟩ := DataW.trod_int Try.underlying3 gb2
  obtain ⟨y2, hy2, _, wy2⟩ := DataW.trod_int Try.underlying24 gc2
  obtain rfl : ca2 = .bool ng2 := by simpa using hn2
  obtain rfl : cb2 = .int .i64 x2 := by simpa using hx2
  obtain rfl : cc2 = .int .u64 y2 := by simpa using hy2
  subst hv2
  have bx2 := bounds_i64 wx2
  have by2 := bounds_u64 wy2
  clear hA0 hval0 hsz0
  simp only [List.append_nil] at hW'
  refine (walk e0 f0 a1 x2 ng2 y2 b1 bx2 by2 W).mono fun e W' ⟨he, bel⟩ => ?_
  subst he
  exact ⟨_, rfl, _, _, _, [], _, [], hW', trodAll_cons_mk (shut_bool Try.underlying4 _) trodAll_mk0, trodAll_cons_mk (Below.trod laidOut (by kernel_rfl) (of_decide_eq_true (by kernel_rfl)) k0 bel lt0) (trodAll_cons_mk (shut_int Try.underlying24 w1) (trodAll_cons_mk (Below.trod laidOut (by kernel_rfl) (of_decide_eq_true (by kernel_rfl)) k2 bel lt2) trodAll_mk0)), rfl, bel.frame _, fun h => by cases h⟩

theorem over : Rows.formBackRow.holds Try.pinned (OpenSpec.ofChange Rows.formBackSpec) :=
  OpenClaim.holds_of_wide 4 Try.f4 rfl rfl rfl rfl rfl rfl rfl ⟨rfl, rfl, rfl, rfl, rfl⟩ rfl rfl rfl rfl rfl (by kernel_rfl) Try.func4 (by kernel_rfl)
    (of_decide_eq_true (by kernel_rfl)) (by unfold Func.isWrapper; first | (rw [if_pos (by decide +kernel)]; kernel_rfl) | (rw [if_neg (by decide +kernel)]; exact ⟨rfl, rfl⟩))
    (fun os started H enc _ => lifted os started H enc)

theorem proved : Rows.FormBackSaid := over
#print axioms proved
end Go.Proofs.Ytmneicbagcimdaa.formBack
