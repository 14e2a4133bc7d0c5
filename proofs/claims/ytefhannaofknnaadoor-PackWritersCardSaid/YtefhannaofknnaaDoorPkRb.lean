/- Walk of the document's pack: piece. -/
import Derived.Test.YtefhannaofknnaaDoorPkRa
import Derived.Test.YtefhannaofknnaaDoorPkRp
import Derived.Test.YtefhannaofknnaaDoorPkSt
namespace Go.Proofs.YtefhannaofknnaaDoor
open Go.RowKit
set_option linter.unusedVariables false
set_option linter.unusedSimpArgs false
set_option maxHeartbeats 4000000
set_option maxRecDepth 100000

theorem own_new {w : World} {B : Nat} (hB : B ≤ w.heap.size) {k : IntKind} {l : List Nat} {cs : Array Value} (hc : cs = (ints k l).toArray) {t : TypeId} (n : Nat) (hn : n = l.length) (hl : l.length ≤ 1000000000000) : OwnR (w.alloc (.cells cs t)) B t k (.slice (some ⟨w.heap.size, 0, none⟩) n n) l := by
  subst hn
  exact (rowK_new hc rfl).own hB hl
theorem RdK.sub {k : IntKind} {w : World} {b off : Nat} {l : List Nat} (h : RdK k w (some ⟨b, off, none⟩) l) (a m : Nat) (hm : a + m ≤ l.length) : RdK k w (some ⟨b, off + a, none⟩) ((l.drop a).take m) := fun hn => by
  have hlen : ((l.drop a).take m).length = m := by rw [List.length_take, List.length_drop]; omega
  obtain ⟨b', off', e, hc⟩ := h (by omega)
  injection e with e
  injection e with e1 e2
  subst e1 e2
  refine ⟨b, off + a, rfl, fun j hj => ?_⟩
  rw [hlen] at hj
  rw [nth_tk hj, nth_drop, Nat.add_assoc]
  exact hc _ (by omega)
/-- What piece answers. -/
def PieceR (w : World) (r : List Nat × (Nat × Nat)) (en : Ending) (w' : World) : Prop :=
  ∃ v, en = .returned (.tuple #[v, .agg #[.int .i64 (r.2.1 : Int), .int .i64 (r.2.2 : Int)]]) ∧ OwnR w' w.heap.size 5 .u8 v r.1 ∧ Below w.heap.size w w'
/-- What is found of the 1s before place i. -/
def Found (x : List Nat) (i : Nat) (f t : Int) : Prop :=
  (f = -1 ∧ t = -1 ∧ ∀ j, j < i → nth x j = 0) ∨
  ∃ a b : Nat, f = (a : Int) ∧ t = (b : Int) ∧ a ≤ b ∧ b < i ∧ nth x a = 1 ∧ (∀ j, j < a → nth x j = 0) ∧ nth x b = 1 ∧ ∀ j, b < j → j < i → nth x j = 0
theorem ref_piece (A : Option Addr) (x : List Nat) (n c : Nat) (hn : n = x.length) (hcap : n ≤ c) (hx : Bs x) (hl : x.length ≤ 64) (wd : Nat × Nat) (hw : Win x.length wd) (w : World) (hrd : RdK .u8 w A x) :
    Calls Tryd.prog 48 #[.slice A n c, .agg #[.int .i64 (wd.1 : Int), .int .i64 (wd.2 : Int)]] w (PieceR w (pieceS x.length (wv x) wd)) := by
  subst hn
  go_enter Tryd.func48, Tryd.ntmps48
  go_wp2
  go_loopw [6, 7, 8] (fun v6 v7 v8 wx => ∃ (i : Nat) (f t : Int), i ≤ x.length ∧ v6 = .int .i64 f ∧ v7 = .int .i64 t ∧ v8 = .int .i64 (i : Int) ∧ Found x i f t ∧ wx = (w.alloc (.cells #[.int .i64 (wd.1 : Int), .int .i64 (wd.2 : Int)] 77)).alloc (.cells #[.int .i64 0, .int .i64 0] 77)) (fun _ _ v8 _ => x.length - (intOf v8).toNat)
  case atStart => exact ⟨0, -1, -1, Nat.zero_le _, rfl, rfl, rfl, .inl ⟨rfl, rfl, fun j hj => absurd hj (Nat.not_lt_zero _)⟩, rfl⟩
  case round =>
    obtain ⟨i, f, t, hi, rfl, rfl, rfl, hfd, rfl⟩ := hrel
    have hg0 : (((w.alloc (.cells #[.int .i64 (wd.1 : Int), .int .i64 (wd.2 : Int)] 77)).alloc (.cells #[.int .i64 0, .int .i64 0] 77))).heap.size = w.heap.size + 2 := by simp
    have hb0 : Below w.heap.size w ((w.alloc (.cells #[.int .i64 (wd.1 : Int), .int .i64 (wd.2 : Int)] 77)).alloc (.cells #[.int .i64 0, .int .i64 0] 77)) := ((Below.refl _ _).alloc (Nat.le_refl _) _).alloc (by simp) _
    have c0 : ((w.alloc (.cells #[.int .i64 (wd.1 : Int), .int .i64 (wd.2 : Int)] 77)).alloc (.cells #[.int .i64 0, .int .i64 0] 77)).cell? ⟨w.heap.size, 0, none⟩ = some (.int .i64 (wd.1 : Int)) := by simp
    have c1 : ((w.alloc (.cells #[.int .i64 (wd.1 : Int), .int .i64 (wd.2 : Int)] 77)).alloc (.cells #[.int .i64 0, .int .i64 0] 77)).cell? ⟨w.heap.size, 1, none⟩ = some (.int .i64 (wd.2 : Int)) := by simp
    have hk : Blk ((w.alloc (.cells #[.int .i64 (wd.1 : Int), .int .i64 (wd.2 : Int)] 77)).alloc (.cells #[.int .i64 0, .int .i64 0] 77)) (w.heap.size + 1) 77 #[.int .i64 0, .int .i64 0] := by
      have := Blk.new (w.alloc (.cells #[.int .i64 (wd.1 : Int), .int .i64 (wd.2 : Int)] 77)) 77 #[.int .i64 0, .int .i64 0]
      simpa using this
    generalize ((w.alloc (.cells #[.int .i64 (wd.1 : Int), .int .i64 (wd.2 : Int)] 77)).alloc (.cells #[.int .i64 0, .int .i64 0] 77)) = w2 at *
    by_cases hi1 : i < x.length
    · obtain ⟨b0, off, rfl, hcell⟩ := (hrd.below hb0) (by omega)
      have hx1 := hcell i hi1
      have hbx := hx.nth i
      have hg9 : decide (((i : Nat) : Int) < ((x.length : Nat) : Int)) = true := by simp; omega
      obtain ⟨b, hb⟩ : ∃ b, b = nth x i := ⟨_, rfl⟩
      rw [← hb] at hx1 hbx
      have HB := Lib.hid hb
      clear hcell hb
      rcases (show b = 0 ∨ b = 1 by omega) with rfl | rfl
      · go_wp2
        go_roundw
        case rel =>
          refine ⟨i + 1, f, t, hi1, by simp, by simp, vi (by omega), ?_, by simp⟩
          rcases hfd with ⟨h1, h2, h3⟩ | ⟨a, b, h1, h2, h3, h4, h5, h6, h7, h8⟩
          · refine .inl ⟨h1, h2, fun j hj => ?_⟩
            rcases Nat.lt_or_ge j i with g | g
            · exact h3 j g
            · obtain rfl : j = i := by omega
              exact HB.out.symm
          · refine .inr ⟨a, b, h1, h2, h3, by omega, h5, h6, h7, fun j hj1 hj2 => ?_⟩
            rcases Nat.lt_or_ge j i with g | g
            · exact h8 j hj1 g
            · obtain rfl : j = i := by omega
              exact HB.out.symm
        case measure => first | (simp [intOf]; done) | (simp [intOf]; omega)
      · rcases hfd with ⟨rfl, rfl, h3⟩ | ⟨a, b, rfl, rfl, h3, h4, h5, h6, h7, h8⟩
        · go_wp2
          go_roundw
          case rel =>
            refine ⟨i + 1, i, i, hi1, by simp, by simp, vi (by omega), ?_, by simp⟩
            exact .inr ⟨i, i, rfl, rfl, Nat.le_refl _, by omega, HB.out.symm, h3, HB.out.symm, fun j hj1 hj2 => by omega⟩
          case measure => first | (simp [intOf]; done) | (simp [intOf]; omega)
        · go_wp2
          go_roundw
          case rel =>
            refine ⟨i + 1, a, i, hi1, by simp, by simp, vi (by omega), ?_, by simp⟩
            exact .inr ⟨a, i, rfl, rfl, by omega, by omega, h5, h6, HB.out.symm, fun j hj1 hj2 => by omega⟩
          case measure => first | (simp [intOf]; done) | (simp [intOf]; omega)
    · obtain rfl : i = x.length := by omega
      have hg9 : decide (((x.length : Nat) : Int) < ((x.length : Nat) : Int)) = false := by simp
      rcases hfd with ⟨rfl, rfl, h3⟩ | ⟨a, b, rfl, rfl, h3, h4, h5, h6, h7, h8⟩
      · have HZ := Lib.hid (piece_zero (w := wd) h3)
        have hf0 := hk.frozen 0
        have hf1 := hk.frozen 1
        have k0 := hk.cell 0
        have k1 := hk.cell 1
        have hz0 : w.heap.size < w2.heap.size := by omega
        have hz1 : w.heap.size + 1 < w2.heap.size := by omega
        have HG := Lib.hid hg0
        clear h3 hg0
        go_wp2
        go_region_held3 (fun w' => w'.cell? ⟨w.heap.size, 0, none⟩ = some (.int .i64 (wd.1 : Int)) ∧ w'.cell? ⟨w.heap.size, 1, none⟩ = some (.int .i64 (wd.2 : Int)))
          (first | exact ⟨c0, c1⟩ | go_keep)
          (first
          | fail)
        have hk3 : Blk (((w2.setCell ⟨w.heap.size + 1, 0, none⟩ (.int .i64 (wd.1 : Int))).setCell ⟨w.heap.size + 1, 1, none⟩ (.int .i64 (wd.2 : Int))).alloc (.cells #[.int .u8 0] 5)).drew (w.heap.size + 1) 77 #[.int .i64 (wd.1 : Int), .int .i64 (wd.2 : Int)] := ((hk.set_ 0 (.int .i64 (wd.1 : Int))).set_ 1 (.int .i64 (wd.2 : Int))).alloc _
        have hb3 : Below w.heap.size w (((w2.setCell ⟨w.heap.size + 1, 0, none⟩ (.int .i64 (wd.1 : Int))).setCell ⟨w.heap.size + 1, 1, none⟩ (.int .i64 (wd.2 : Int))).alloc (.cells #[.int .u8 0] 5)).drew := (by repeat' (first | (with_reducible assumption) | (with_reducible exact Below.refl _ _) | (with_reducible refine bdn ?_ _) | (with_reducible refine Below.drew ?_) | (with_reducible refine Below.setCell ?_ ?_ _) | (with_reducible refine Below.alloc ?_ ?_ _) | go_size))
        have hown := own_new (w := (w2.setCell ⟨w.heap.size + 1, 0, none⟩ (.int .i64 (wd.1 : Int))).setCell ⟨w.heap.size + 1, 1, none⟩ (.int .i64 (wd.2 : Int))) (B := w.heap.size) (by simp; omega) (k := .u8) (l := [0]) (cs := #[.int .u8 0]) rfl (t := 5) 1 rfl (by decide)
        have hown3 : OwnR (((w2.setCell ⟨w.heap.size + 1, 0, none⟩ (.int .i64 (wd.1 : Int))).setCell ⟨w.heap.size + 1, 1, none⟩ (.int .i64 (wd.2 : Int))).alloc (.cells #[.int .u8 0] 5)).drew w.heap.size 5 .u8 (.slice (some ⟨w2.heap.size, 0, none⟩) 1 1) [0] := by simpa using hown.drew
        clear hown
        generalize (((w2.setCell ⟨w.heap.size + 1, 0, none⟩ (.int .i64 (wd.1 : Int))).setCell ⟨w.heap.size + 1, 1, none⟩ (.int .i64 (wd.2 : Int))).alloc (.cells #[.int .u8 0] 5)).drew = w3 at *
        have r0 : w3.cell? ⟨w.heap.size + 1, 0, none⟩ = some (.int .i64 (wd.1 : Int)) := hk3.cell 0
        have r1 : w3.cell? ⟨w.heap.size + 1, 1, none⟩ = some (.int .i64 (wd.2 : Int)) := hk3.cell 1
        go_wp2
        (try simp only [Exit.inBlock, Exit.then]); refine bodyPost_ret (by simp (maxDischargeDepth := 9) [results, Tryd.results48, go_sem, r0, r1]; try rfl) rfl ?_
        rw [HZ.out]
        exact ⟨_, rfl, hown3, hb3⟩
      · have ho : Ones x a b := ⟨h3, h4, h5, h6, h7, h8⟩
        have hwd : wd.1 + wd.2 ≤ 64 := by rcases hw with e | e; rw [e]; decide; omega
        have hlt : ((a : Int) < 0) = False := by simp
        obtain ⟨b0, off, rfl, _⟩ := hrd (by omega)
        have hr2 := hrd.below hb0
        have hf0 := hk.frozen 0
        have hf1 := hk.frozen 1
        have k0 := hk.cell 0
        have k1 := hk.cell 1
        have hz0 : w.heap.size < w2.heap.size := by omega
        have hz1 : w.heap.size + 1 < w2.heap.size := by omega
        have HG := Lib.hid hg0
        clear h5 h6 h7 h8 hlt
        by_cases hin : 0 < wd.2 ∧ wd.1 ≤ a ∧ b < wd.1 + wd.2
        · obtain ⟨hpi, hwl⟩ := piece_within hx hl ho hw hin
          have HZ := Lib.hid hpi
          obtain ⟨i1, i2, i3⟩ := hin
          have d1 : decide ((0 : Int) < (wd.2 : Int)) = true := by simp; omega
          have d2 : decide ((wd.1 : Int) ≤ (a : Int)) = true := by simp; omega
          have d3 : decide ((b : Int) < (wd.1 : Int) + (wd.2 : Int)) = true := by simp; omega
          have hm : ((wd.1 : Int) + (wd.2 : Int)).toNat - wd.1 = ((x.drop wd.1).take wd.2).length := by rw [List.length_take, List.length_drop]; omega
          have hcw : ¬ c = wd.1 := by omega
          have HM := Lib.hid hm
          have hsub := hr2.sub wd.1 wd.2 hwl
          have s0 : IntKind.i64.wrap ((wd.1 : Int) + (wd.2 : Int)) = (wd.1 : Int) + (wd.2 : Int) := IntWalk.i64_in _ (by omega)
          have s1 : (0 : Int) ≤ (wd.1 : Int) := by omega
          have s2 : (wd.1 : Int) ≤ (wd.1 : Int) + (wd.2 : Int) := by omega
          have s3 : (wd.1 : Int) + (wd.2 : Int) ≤ (c : Int) := by omega
          clear hg0 hpi hm
          go_wp2
          go_region_held3 (fun w' => w'.cell? ⟨w.heap.size, 0, none⟩ = some (.int .i64 (wd.1 : Int)) ∧ w'.cell? ⟨w.heap.size, 1, none⟩ = some (.int .i64 (wd.2 : Int)))
            (first | exact ⟨c0, c1⟩ | exact e01 | go_keep)
            (first
            | ((refine step_apps elem8 (by rfl) _ _ (by rfl) (own_new (B := w2.heap.size) (by simp) (k := .u8) (l := [1, 0]) rfl 2 rfl (by decide)) (by rfl) (some ⟨b0, off + wd.1, none⟩) ((x.drop wd.1).take wd.2) (((wd.1 : Int) + (wd.2 : Int)).toNat - wd.1) _ HM.out (by rfl) (fun h0 => (hsub.below (by repeat' (first | (with_reducible assumption) | (with_reducible exact Below.refl _ _) | (with_reducible refine bdn ?_ _) | (with_reducible refine Below.drew ?_) | (with_reducible refine Below.setCell ?_ ?_ _) | (with_reducible refine Below.alloc ?_ ?_ _) | go_size))) h0) (by rw [← HM.out]; simp only [List.length_cons, List.length_nil]; omega) (by simp) ?_; intro v1 w4 hown1 hgr1 hb4; have hb24 : Below w2.heap.size w2 w4 := (show Below w2.heap.size w2 _ from (by repeat' (first | (with_reducible assumption) | (with_reducible exact Below.refl _ _) | (with_reducible refine bdn ?_ _) | (with_reducible refine Below.drew ?_) | (with_reducible refine Below.setCell ?_ ?_ _) | (with_reducible refine Below.alloc ?_ ?_ _) | go_size))).trans hb4; have e01 := And.intro (cell_keep hb24 c0) (cell_keep hb24 c1); have hk4 := hk.below hb24 hz1; have q0 := hk4.frozen 0; have q1 := hk4.frozen 1; have q2 := hk4.cell 0; have q3 := hk4.cell 1; have q4 := hk4.lt))
            | fail)
          have hk5 : Blk ((w4.setCell ⟨w.heap.size + 1, 0, none⟩ (.int .i64 (wd.1 : Int))).setCell ⟨w.heap.size + 1, 1, none⟩ (.int .i64 (wd.2 : Int))) (w.heap.size + 1) 77 #[.int .i64 (wd.1 : Int), .int .i64 (wd.2 : Int)] := (hk4.set_ 0 (.int .i64 (wd.1 : Int))).set_ 1 (.int .i64 (wd.2 : Int))
          have hb4 := hb0.trans (hb24.mono (Nat.le_of_lt hz0))
          have hb5 : Below w.heap.size w ((w4.setCell ⟨w.heap.size + 1, 0, none⟩ (.int .i64 (wd.1 : Int))).setCell ⟨w.heap.size + 1, 1, none⟩ (.int .i64 (wd.2 : Int))) := (hb4.setCell (Nat.le_succ _) _).setCell (Nat.le_succ _) _
          have hown5 : OwnR ((w4.setCell ⟨w.heap.size + 1, 0, none⟩ (.int .i64 (wd.1 : Int))).setCell ⟨w.heap.size + 1, 1, none⟩ (.int .i64 (wd.2 : Int))) w.heap.size 5 .u8 v1 ([1, 0] ++ (x.drop wd.1).take wd.2) := by
            refine (hown1.same (fun g hg => ?_)).base (Nat.le_of_lt hz0)
            have := (hown1.lt g hg).1
            rw [Below.heap_setCell _ _ _ g (show g ≠ w.heap.size + 1 by omega), Below.heap_setCell _ _ _ g (show g ≠ w.heap.size + 1 by omega)]
          generalize ((w4.setCell ⟨w.heap.size + 1, 0, none⟩ (.int .i64 (wd.1 : Int))).setCell ⟨w.heap.size + 1, 1, none⟩ (.int .i64 (wd.2 : Int))) = w5 at *
          have r0 : w5.cell? ⟨w.heap.size + 1, 0, none⟩ = some (.int .i64 (wd.1 : Int)) := hk5.cell 0
          have r1 : w5.cell? ⟨w.heap.size + 1, 1, none⟩ = some (.int .i64 (wd.2 : Int)) := hk5.cell 1
          go_wp2
          (try simp only [Exit.inBlock, Exit.then]); refine bodyPost_ret (by simp (maxDischargeDepth := 9) [results, Tryd.results48, go_sem, r0, r1]; try rfl) rfl ?_
          rw [HZ.out]
          exact ⟨_, rfl, hown5, hb5⟩
        · have hpi := piece_anew hx hl ho hw hin
          obtain ⟨D, rfl⟩ : ∃ D, b = a + D := ⟨b - a, by omega⟩
          rw [show a + D - a = D by omega] at hpi
          have HZ := Lib.hid hpi
          have hdd : (¬ 0 < wd.2) ∨ (0 < wd.2 ∧ ¬ wd.1 ≤ a) ∨ (0 < wd.2 ∧ wd.1 ≤ a ∧ ¬ ((a : Int) + (D : Int) < (wd.1 : Int) + (wd.2 : Int)) ∧ (wd.1 : Int) + (wd.2 : Int) ≤ (a : Int) + (D : Int)) := by omega
          have hE0 : (a : Int) + (D : Int) - (a : Int) = (D : Int) := by omega
          have hn1 := fun W => ref_number a 6 (by omega) (by decide) (a : Int) 6 rfl rfl W
          have hn2 := fun W => ref_number D 6 (by omega) (by decide) (D : Int) 6 rfl rfl W
          have hsub := hr2.sub a (D + 1) (by omega)
          clear hg0 hpi hin ho
          rcases hdd with d1 | ⟨d1, d2⟩ | ⟨d1, d2, d3, d4⟩
          all_goals (
            go_wp2_with fail
            have e2 : Blk ((w2.alloc (.cells #[.int .i64 (a : Int), .int .i64 ((D : Int) + 1)] 77)).alloc (.cells #[.int .u8 1, .int .u8 1] 5)) w2.heap.size 77 #[.int .i64 (a : Int), .int .i64 ((D : Int) + 1)] := (Blk.new w2 _ _).alloc _
            have o1 : OwnR ((w2.alloc (.cells #[.int .i64 (a : Int), .int .i64 ((D : Int) + 1)] 77)).alloc (.cells #[.int .u8 1, .int .u8 1] 5)) (w2.heap.size + 1) 5 .u8 (.slice (some ⟨w2.heap.size + 1, 0, none⟩) 2 2) [1, 1] := by
              have := own_new (w := w2.alloc (.cells #[.int .i64 (a : Int), .int .i64 ((D : Int) + 1)] 77)) (B := w2.heap.size + 1) (by simp) (k := .u8) (l := [1, 1]) (cs := #[.int .u8 1, .int .u8 1]) rfl (t := 5) 2 rfl (by decide)
              simpa using this
            have hb3 : Below w2.heap.size w2 ((w2.alloc (.cells #[.int .i64 (a : Int), .int .i64 ((D : Int) + 1)] 77)).alloc (.cells #[.int .u8 1, .int .u8 1] 5)) := ((Below.refl _ _).alloc (Nat.le_refl _) _).alloc (by simp) _
            have z3 : w2.heap.size + 2 ≤ ((w2.alloc (.cells #[.int .i64 (a : Int), .int .i64 ((D : Int) + 1)] 77)).alloc (.cells #[.int .u8 1, .int .u8 1] 5)).heap.size := by simp
            generalize ((w2.alloc (.cells #[.int .i64 (a : Int), .int .i64 ((D : Int) + 1)] 77)).alloc (.cells #[.int .u8 1, .int .u8 1] 5)) = w3 at *
            refine (hn1 w3).mono ?_
            rintro r w4 ⟨v4, rfl, hown4, hb4⟩
            have hl4 : (nb a 6).length = 6 := nb_length _ _
            obtain ⟨l4, hle4⟩ : ∃ l4, l4 = nb a 6 := ⟨_, rfl⟩
            rw [← hle4] at hown4 hl4
            obtain ⟨A4, c4, rfl⟩ := hown4.len.2
            have hrd4 := hown4.rdK
            rw [hl4]
            have H4 := Lib.hid hl4
            have HE4 := Lib.hid hle4
            have o1' := o1.below hb4 (Nat.le_refl _)
            have e2' := e2.below hb4 e2.lt
            have hb24 := hb3.trans (hb4.mono hb3.size)
            have z4 := hb4.size
            clear hown4 hl4 hle4 e2 o1 hb3 hb4
            go_wp2_with (first
              | (at_builtin
                 refine wpList_apps elem8 rfl _ _ rfl o1' rfl A4 l4 6 c4 H4.out.symm rfl hrd4 (.inl (by rw [H4.out]; decide)) (by omega) (fun v5 w5 hown5 hgr5 hb5 => ?_)
                 have e5 : Blk w5 w2.heap.size 77 #[.int .i64 (a : Int), .int .i64 ((D : Int) + 1)] := e2'.below hb5 (Nat.lt_succ_self _)
                 have p0 := e5.cell 0
                 have p1 := e5.cell 1
                 have pz := e5.lt
                 have hb25 := hb24.trans (hb5.mono (Nat.le_succ _))
                 have z5 := hb5.size
                 clear o1' e2' hrd4 hgr5 hb5 hb24))
            refine (hn2 w5).mono ?_
            rintro r w6 ⟨v6, rfl, hown6, hb6⟩
            have hl6 : (nb D 6).length = 6 := nb_length _ _
            obtain ⟨l6, hle6⟩ : ∃ l6, l6 = nb D 6 := ⟨_, rfl⟩
            rw [← hle6] at hown6 hl6
            obtain ⟨A6, c6, rfl⟩ := hown6.len.2
            have hrd6 := hown6.rdK
            rw [hl6]
            have H6 := Lib.hid hl6
            have HE6 := Lib.hid hle6
            have o5' := hown5.below hb6 (Nat.le_refl _)
            have e5' := e5.below hb6 e5.lt
            have hb26 := hb25.trans (hb6.mono hb25.size)
            have z6 := hb6.size
            clear hown6 hl6 hle6 hown5 e5 p0 p1 pz hb25 hb6
            go_wp2_with (first
              | (at_builtin
                 refine wpList_apps elem8 rfl _ _ rfl o5' rfl A6 l6 6 c6 H6.out.symm rfl hrd6 (.inl (by rw [List.length_append, H4.out, H6.out]; decide)) (by omega) (fun v7 w7 hown7 hgr7 hb7 => ?_)
                 have e7 : Blk w7 w2.heap.size 77 #[.int .i64 (a : Int), .int .i64 ((D : Int) + 1)] := e5'.below hb7 (Nat.lt_succ_self _)
                 have p0 : w7.cell? ⟨w2.heap.size, 0, none⟩ = some (.int .i64 (a : Int)) := e7.cell 0
                 have p1 : w7.cell? ⟨w2.heap.size, 1, none⟩ = some (.int .i64 ((D : Int) + 1)) := e7.cell 1
                 have pz := e7.lt
                 have hb27 := hb26.trans (hb7.mono (Nat.le_succ _))
                 have z7 := hb7.size
                 clear o5' e5' hrd6 hgr7 hb7 hb26))
            have hm : ((a : Int) + (D : Int) + 1).toNat - a = ((x.drop a).take (D + 1)).length := by rw [List.length_take, List.length_drop]; omega
            have hca : ¬ c = a := by omega
            have HM := Lib.hid hm
            have hsub7 := hsub.below hb27
            have s0 : IntKind.i64.wrap ((a : Int) + (D : Int) + 1) = (a : Int) + (D : Int) + 1 := IntWalk.i64_in _ (by omega)
            have s1 : (0 : Int) ≤ (a : Int) := by omega
            have s2 : (a : Int) ≤ (a : Int) + (D : Int) + 1 := by omega
            have s3 : (a : Int) + (D : Int) + 1 ≤ (c : Int) := by omega
            clear hm
            go_region_held3 (fun w' => w'.cell? ⟨w2.heap.size, 0, none⟩ = some (.int .i64 (a : Int)) ∧ w'.cell? ⟨w2.heap.size, 1, none⟩ = some (.int .i64 ((D : Int) + 1)))
              (first | exact ⟨p0, p1⟩ | exact e01 | exact ⟨(World.cell?_setCell_far _ _ _ _ (by first | exact Nat.ne_of_gt hz1 | exact Nat.ne_of_lt hz1)).trans ((World.cell?_setCell_far _ _ _ _ (by first | exact Nat.ne_of_gt hz1 | exact Nat.ne_of_lt hz1)).trans e01.1), (World.cell?_setCell_far _ _ _ _ (by first | exact Nat.ne_of_gt hz1 | exact Nat.ne_of_lt hz1)).trans ((World.cell?_setCell_far _ _ _ _ (by first | exact Nat.ne_of_gt hz1 | exact Nat.ne_of_lt hz1)).trans e01.2)⟩ | go_keep)
              (first
              | ((refine step_apps elem8 (by rfl) _ _ (by rfl) hown7 (by rfl) (some ⟨b0, off + a, none⟩) ((x.drop a).take (D + 1)) (((a : Int) + (D : Int) + 1).toNat - a) _ HM.out (by rfl) (fun h0 => hsub7 h0) (by rw [← HM.out, List.length_append, List.length_append, H4.out, H6.out]; simp only [List.length_cons, List.length_nil]; omega) (show w2.heap.size + 1 ≤ w7.heap.size from pz) ?_; intro v8 w8 hown8 hgr8 hb8; have hb8' : Below (w2.heap.size + 1) w7 w8 := (Below.drew (Below.refl _ _)).trans hb8; have e8 := e7.below hb8' (Nat.lt_succ_self _); have e01 := And.intro (e8.cell 0) (e8.cell 1); have hb28 := hb27.trans (hb8'.mono (Nat.le_succ _)); have hk8 := hk.below hb28 hz1; have q0 := hk8.frozen 0; have q1 := hk8.frozen 1; have q2 := hk8.cell 0; have q3 := hk8.cell 1; have q4 := hk8.lt))
              | fail)
            have hk9 : Blk ((w8.setCell ⟨w.heap.size + 1, 0, none⟩ (.int .i64 (a : Int))).setCell ⟨w.heap.size + 1, 1, none⟩ (.int .i64 ((D : Int) + 1))) (w.heap.size + 1) 77 #[.int .i64 (a : Int), .int .i64 ((D : Int) + 1)] := (hk8.set_ 0 (.int .i64 (a : Int))).set_ 1 (.int .i64 ((D : Int) + 1))
            have hb8w := hb0.trans (hb28.mono (Nat.le_of_lt hz0))
            have hb9 : Below w.heap.size w ((w8.setCell ⟨w.heap.size + 1, 0, none⟩ (.int .i64 (a : Int))).setCell ⟨w.heap.size + 1, 1, none⟩ (.int .i64 ((D : Int) + 1))) := (hb8w.setCell (Nat.le_succ _) _).setCell (Nat.le_succ _) _
            have hown9 : OwnR ((w8.setCell ⟨w.heap.size + 1, 0, none⟩ (.int .i64 (a : Int))).setCell ⟨w.heap.size + 1, 1, none⟩ (.int .i64 ((D : Int) + 1))) w.heap.size 5 .u8 v8 ([1, 1] ++ l4 ++ l6 ++ (x.drop a).take (D + 1)) := by
              refine (hown8.same (fun g hg => ?_)).base (by omega)
              have := (hown8.lt g hg).1
              rw [Below.heap_setCell _ _ _ g (show g ≠ w.heap.size + 1 by omega), Below.heap_setCell _ _ _ g (show g ≠ w.heap.size + 1 by omega)]
            generalize ((w8.setCell ⟨w.heap.size + 1, 0, none⟩ (.int .i64 (a : Int))).setCell ⟨w.heap.size + 1, 1, none⟩ (.int .i64 ((D : Int) + 1))) = w9 at *
            have r0 : w9.cell? ⟨w.heap.size + 1, 0, none⟩ = some (.int .i64 (a : Int)) := hk9.cell 0
            have r1 : w9.cell? ⟨w.heap.size + 1, 1, none⟩ = some (.int .i64 ((D : Int) + 1)) := hk9.cell 1
            go_wp2
            (try simp only [Exit.inBlock, Exit.then]); refine bodyPost_ret (by simp (maxDischargeDepth := 9) [results, Tryd.results48, go_sem, r0, r1]; try rfl) rfl ?_
            rw [HZ.out]
            refine ⟨_, rfl, ?_, hb9⟩
            rw [← HE4.out, ← HE6.out]
            exact hown9)
end Go.Proofs.YtefhannaofknnaaDoor
