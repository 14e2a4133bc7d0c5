/- Forms: a float's fields; its class. -/
import Derived.Test.YtmneicbagcimdaaFoD
namespace Go.Proofs.Ytmneicbagcimdaa
open Go.RowKit
set_option linter.unusedVariables false
set_option linter.unusedSimpArgs false
set_option maxHeartbeats 4000000
set_option maxRecDepth 100000

def splitF (E F b : Nat) : Bool × Nat × Nat := (((b / 2 ^ (F + E) % 2 : Nat) : Int) != 0, b / 2 ^ F % 2 ^ E, b % 2 ^ F)
def splitS (e f : Int) (b : Nat) : (Bool × Nat × Nat) × Int := if fitS e f b = 0 then (splitF e.toNat f.toNat b, 0) else ((false, 0, 0), fitS e f b)
theorem fit_ok {e f : Int} {b : Nat} (h : fitS e f b = 0) : ∃ E F : Nat, e = (E : Int) ∧ f = (F : Int) ∧ 2 ≤ E ∧ E ≤ 11 ∧ 1 ≤ F ∧ F ≤ 52 ∧ b < 2 ^ (1 + E + F) := by
  unfold fitS at h
  by_cases hc : chkF e f = 0
  · rw [if_pos hc] at h
    obtain ⟨E, F, rfl, rfl, h1, h2, h3, h4⟩ := chk_ok hc
    refine ⟨E, F, rfl, rfl, h1, h2, h3, h4, ?_⟩
    unfold fitF at h
    split at h
    · cases h
    · simp only [Int.toNat_natCast] at *; omega
  · rw [if_neg hc] at h; exact absurd h hc
theorem take_abs {W0 W : World} (hW : Below W0.heap.size W0 W) (F S B : Int) (from_ size b R : Nat) (hF : F = (from_ : Int)) (hS : S = (size : Int)) (hB : B = (b : Int)) (hf : from_ < 64) (hs : size < 64) (hb : b < 18446744073709551616) (hR : R = b / 2 ^ from_ % 2 ^ size) :
    Calls Try.prog 52 #[.agg #[.int .i64 F, .int .i64 S], .int .u64 B] W fun e w' => e = .returned (.int .u64 (R : Int)) ∧ Below W0.heap.size W0 w' :=
  (forms_take F S B from_ size b R hF hS hB hf hs hb hR W).mono fun _ _ ⟨h1, h2⟩ => ⟨h1, hW.trans (h2.mono hW.size)⟩
theorem cellsB {W0 W : World} (hW : Below W0.heap.size W0 W) {p : Addr} {v : Value} (h : W0.cell? p = some v) : W.cell? p = some v := cell_keep hW h
theorem frozenB {W0 W : World} (hW : Below W0.heap.size W0 W) {p : Addr} (hp : p.block < W0.heap.size) (h : W0.frozen? p = false) : W.frozen? p = false := (hW.frozen hp).trans h

theorem forms_Split (e f B : Int) (b : Nat) (hB : B = (b : Int)) (hb64 : b < 18446744073709551616) (w : World) :
    Calls Try.prog 13 #[.agg #[.int .i64 e, .int .i64 f], .int .u64 B] w (Says w (.tuple #[.agg #[.bool (splitS e f b).1.1, .int .i64 (((splitS e f b).1.2.1 : Nat) : Int), .int .u64 (((splitS e f b).1.2.2 : Nat) : Int)], .int .i64 (splitS e f b).2])) := by
  subst hB
  by_cases hc : fitS e f b = 0
  · have HC := Lib.hid hc
    obtain ⟨E, F, rfl, rfl, hE1, hE2, hF1, hF2, hfit⟩ := fit_ok hc
    have hj : splitS (E : Int) (F : Int) b = (splitF E F b, 0) := by unfold splitS; rw [if_pos hc]; rfl
    rw [hj]
    clear hj hc hfit
    obtain ⟨N, hN⟩ : ∃ N, N = b / 2 ^ (F + E) % 2 ^ 1 := ⟨_, rfl⟩
    obtain ⟨X, hX⟩ : ∃ X, X = b / 2 ^ F % 2 ^ E := ⟨_, rfl⟩
    obtain ⟨Y, hY⟩ : ∃ Y, Y = b / 2 ^ 0 % 2 ^ F := ⟨_, rfl⟩
    obtain ⟨ng, hng⟩ : ∃ ng, ((N : Int) != 0) = ng := ⟨_, rfl⟩
    have hs : splitF E F b = (ng, X, Y) := by
      unfold splitF
      rw [← hng, hN, hX, hY, Nat.pow_zero, Nat.div_one, Nat.pow_one]
    rw [hs]
    have hXb : X < 2048 := by
      rw [hX]
      exact Nat.lt_of_lt_of_le (Nat.mod_lt _ (Nat.two_pow_pos E)) (Nat.pow_le_pow_right (n := 2) (by decide) hE2)
    have HN := Lib.hid hN
    have HX := Lib.hid hX
    have HY := Lib.hid hY
    clear hN hX hY hs
    go_enter Try.func13, Try.ntmps13
    go_wp2_with fail
    refine (forms_Fits _ _ _ b rfl hb64 _).mono ?_
    rintro r w1 ⟨rfl, hb1⟩
    rw [HC.out]
    obtain ⟨hc1, hf1⟩ := bcell hb1
    have hbw1 : Below w.heap.size w w1 := Below.trans (b := _) (by repeat' (first | (with_reducible assumption) | (with_reducible exact Below.refl _ _) | (with_reducible refine bdn ?_ _) | (with_reducible refine Below.drew ?_) | (with_reducible refine Below.setCell ?_ ?_ _) | (with_reducible refine Below.alloc ?_ ?_ _) | go_size)) (hb1.mono (by go_size))
    have hz1_0 : w.heap.size < w1.heap.size := by have := hb1.size; simp at this; omega
    have hz1_1 : w.heap.size + 1 < w1.heap.size := by have := hb1.size; simp at this; omega
    have t0 : w1.cell? ⟨w.heap.size + 1, 0, none⟩ = some (.bool false) := by rw [hc1 _ _ (by go_size)]; simp [go_sem]
    have t1 : w1.cell? ⟨w.heap.size + 1, 1, none⟩ = some (.int .i64 0) := by rw [hc1 _ _ (by go_size)]; simp [go_sem]
    have t2 : w1.cell? ⟨w.heap.size + 1, 2, none⟩ = some (.int .u64 0) := by rw [hc1 _ _ (by go_size)]; simp [go_sem]
    have tf : ∀ o, w1.frozen? ⟨w.heap.size + 1, o, none⟩ = false := by intro o; rw [hf1 _ _ (by go_size)]; simp [go_sem]
    go_wp2_with fail
    refine (forms_layout E F hE2 hF2 _).mono ?_
    rintro r w2 ⟨rfl, hb2⟩
    have hbw2 : Below w.heap.size w w2 := hbw1.trans (hb2.mono hbw1.size)
    have u0 := cell_keep hb2 t0
    have u1 := cell_keep hb2 t1
    have u2 := cell_keep hb2 t2
    have uf : ∀ o, w2.frozen? ⟨w.heap.size + 1, o, none⟩ = false := fun o => (hb2.frozen (p := ⟨w.heap.size + 1, o, none⟩) (show w.heap.size + 1 < w1.heap.size from cell_lt t0)).trans (tf o)
    have zu := cell_lt u0
    simp only at zu
    clear t0 t1 t2 tf hc1 hf1
    go_wp2
    have hL1 := Lay.new w2 E F
    have hbW : Below w.heap.size w (w2.alloc (.cells #[.int .i64 0, .int .i64 (F : Int), .int .i64 (F : Int), .int .i64 (E : Int), .int .i64 ((F : Int) + (E : Int)), .int .i64 1] 67)) := hbw2.alloc hbw2.size _
    have v0 : (w2.alloc (.cells #[.int .i64 0, .int .i64 (F : Int), .int .i64 (F : Int), .int .i64 (E : Int), .int .i64 ((F : Int) + (E : Int)), .int .i64 1] 67)).cell? ⟨w.heap.size + 1, 0, none⟩ = some (.bool false) := (World.cell?_alloc_lt _ _ _ zu).trans u0
    have v1 : (w2.alloc (.cells #[.int .i64 0, .int .i64 (F : Int), .int .i64 (F : Int), .int .i64 (E : Int), .int .i64 ((F : Int) + (E : Int)), .int .i64 1] 67)).cell? ⟨w.heap.size + 1, 1, none⟩ = some (.int .i64 0) := (World.cell?_alloc_lt _ _ _ zu).trans u1
    have v2 : (w2.alloc (.cells #[.int .i64 0, .int .i64 (F : Int), .int .i64 (F : Int), .int .i64 (E : Int), .int .i64 ((F : Int) + (E : Int)), .int .i64 1] 67)).cell? ⟨w.heap.size + 1, 2, none⟩ = some (.int .u64 0) := (World.cell?_alloc_lt _ _ _ zu).trans u2
    have vf : ∀ o, (w2.alloc (.cells #[.int .i64 0, .int .i64 (F : Int), .int .i64 (F : Int), .int .i64 (E : Int), .int .i64 ((F : Int) + (E : Int)), .int .i64 1] 67)).frozen? ⟨w.heap.size + 1, o, none⟩ = false := fun o => (World.frozen?_alloc_past _ _ _ zu).trans (uf o)
    clear u0 u1 u2 uf hb1 hb2 hbw1
    have zB : w2.heap.size < (w2.alloc (.cells #[.int .i64 0, .int .i64 (F : Int), .int .i64 (F : Int), .int .i64 (E : Int), .int .i64 ((F : Int) + (E : Int)), .int .i64 1] 67)).heap.size := by simp
    generalize (w2.alloc (.cells #[.int .i64 0, .int .i64 (F : Int), .int .i64 (F : Int), .int .i64 (E : Int), .int .i64 ((F : Int) + (E : Int)), .int .i64 1] 67)) = W at *
    have hne : w.heap.size + 1 ≠ w2.heap.size := by omega
    generalize w2.heap.size = Bk at *
    obtain ⟨l0, l1, l2, l3, l4, l5⟩ := hL1
    have hW0 : Below W.heap.size W W.drew := (Below.refl _ _).drew
    go_region_held3 (fun w' => w'.cell? ⟨Bk, 0, none⟩ = some (.int .i64 0) ∧ w'.cell? ⟨Bk, 1, none⟩ = some (.int .i64 (F : Int)) ∧ w'.cell? ⟨Bk, 2, none⟩ = some (.int .i64 (F : Int)) ∧ w'.cell? ⟨Bk, 3, none⟩ = some (.int .i64 (E : Int)) ∧ w'.cell? ⟨Bk, 4, none⟩ = some (.int .i64 ((F : Int) + (E : Int))) ∧ w'.cell? ⟨Bk, 5, none⟩ = some (.int .i64 1))
      (first | exact ⟨cellsB (by assumption) l0, cellsB (by assumption) l1, cellsB (by assumption) l2, cellsB (by assumption) l3, cellsB (by assumption) l4, cellsB (by assumption) l5⟩ | go_keep)
      (first
       | (go_at_call 52; with_reducible refine (take_abs (W0 := W) (by assumption) ((F : Int) + (E : Int)) 1 (b : Int) (F + E) 1 b N (by omega) rfl rfl (by omega) (by omega) hb64 HN.out).mono ?_; rintro r wa ⟨rfl, hba⟩; have a0 := cellsB hba v0; have a1 := cellsB hba v1; have a2 := cellsB hba v2; have af0 := frozenB hba (cell_lt v0) (vf 0); have af1 := frozenB hba (cell_lt v1) (vf 1); have af2 := frozenB hba (cell_lt v2) (vf 2))
       | (go_at_call 52; with_reducible refine (take_abs (W0 := W) (by assumption) (F : Int) (E : Int) (b : Int) F E b X rfl rfl rfl (by omega) (by omega) hb64 HX.out).mono ?_; rintro r wb ⟨rfl, hbb⟩; have a0 := cellsB hbb v0; have a1 := cellsB hbb v1; have a2 := cellsB hbb v2; have af0 := frozenB hbb (cell_lt v0) (vf 0); have af1 := frozenB hbb (cell_lt v1) (vf 1); have af2 := frozenB hbb (cell_lt v2) (vf 2))
       | (go_at_call 52; with_reducible refine (take_abs (W0 := W) (by assumption) 0 (F : Int) (b : Int) 0 F b Y rfl rfl rfl (by omega) (by omega) hb64 HY.out).mono ?_; rintro r wc ⟨rfl, hbc⟩; have a0 := cellsB hbc v0; have a1 := cellsB hbc v1; have a2 := cellsB hbc v2; have af0 := frozenB hbc (cell_lt v0) (vf 0); have af1 := frozenB hbc (cell_lt v1) (vf 1); have af2 := frozenB hbc (cell_lt v2) (vf 2)))
    all_goals (
      have hwX : IntKind.i64.wrap (X : Int) = (X : Int) := by rw [IntKind.wrap_i64]; omega
      have hbf : Below w.heap.size w wc := hbW.trans (hbc.mono hbW.size)
      go_wp2
      (try simp only [Exit.inBlock, Exit.then]); refine bodyPost_ret (by simp (maxDischargeDepth := 9) [results, Try.results13, go_sem, a0, a1, a2, hwX]; try rfl) rfl ?_
      exact ⟨rfl, ((hbf.setCell (by simp) _).setCell (by simp) _).setCell (by simp) _⟩)
  · have hfn : fitS e f b ≠ 0 := hc
    have hne : (fitS e f b != 0) = true := by rw [bne_iff_ne]; exact hc
    rw [show splitS e f b = ((false, 0, 0), fitS e f b) from by unfold splitS; rw [if_neg hc]]
    clear hc hfn
    go_enter Try.func13, Try.ntmps13
    go_wp2_with fail
    refine (forms_Fits _ _ _ b rfl hb64 _).mono ?_
    rintro r w1 ⟨rfl, hb1⟩
    obtain ⟨hc1, hf1⟩ := bcell hb1
    have hbw1 : Below w.heap.size w w1 := Below.trans (b := _) (by repeat' (first | (with_reducible assumption) | (with_reducible exact Below.refl _ _) | (with_reducible refine bdn ?_ _) | (with_reducible refine Below.drew ?_) | (with_reducible refine Below.setCell ?_ ?_ _) | (with_reducible refine Below.alloc ?_ ?_ _) | go_size)) (hb1.mono (by go_size))
    have hz1_0 : w.heap.size < w1.heap.size := by have := hb1.size; simp at this; omega
    have hz1_1 : w.heap.size + 1 < w1.heap.size := by have := hb1.size; simp at this; omega
    go_wp2
    (try simp only [Exit.inBlock, Exit.then]); refine bodyPost_ret (by simp (maxDischargeDepth := 9) [results, Try.results13, go_sem, hc1, hz1_0, hz1_1]; try rfl) rfl ?_
    exact ⟨rfl, (by repeat' (first | (with_reducible assumption) | (with_reducible exact Below.refl _ _) | (with_reducible refine bdn ?_ _) | (with_reducible refine Below.drew ?_) | (with_reducible refine Below.setCell ?_ ?_ _) | (with_reducible refine Below.alloc ?_ ?_ _) | go_size))⟩
end Go.Proofs.Ytmneicbagcimdaa
