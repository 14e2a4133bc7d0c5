/- Walks: two numbers looked at; a list times a list. -/
import Derived.Test.YtenekbfnlbipiaaDoorF
namespace Go.Proofs.YtenekbfnlbipiaaDoor
open Go.RowKit
set_option linter.unusedVariables false
set_option linter.unusedSimpArgs false
set_option maxHeartbeats 4000000
set_option maxRecDepth 100000

theorem cell_keep {W w1 : World} {a : Addr} {v : Value} (hb : Below W.heap.size W w1) (h : W.cell? a = some v) : w1.cell? a = some v := by
  rw [hb.cell (cell_lt h)]; exact h

theorem Own.lt {w : World} {B c : Nat} {t : TypeId} {A : Option Addr} {l : List Nat} (h : Own w t B A c l) (a : Addr) (ha : A = some a) : a.block < w.heap.size := by
  rcases h.2.2 with ⟨rfl, _⟩ | ⟨g', cur, rfl, hB, hk, _⟩
  · cases ha
  · injection ha with ha; subst ha; exact hk.lt
theorem Own.setFar {w : World} {B c : Nat} {t : TypeId} {A : Option Addr} {l : List Nat} (h : Own w t B A c l) {p : Addr} (hp : ∀ a, A = some a → a.block ≠ p.block) (u : Value) : Own (w.setCell p u) t B A c l := by
  refine ⟨h.1, h.2.1, ?_⟩
  rcases h.2.2 with h | ⟨g', cur, e, hg, hk, r⟩
  · exact .inl h
  · exact .inr ⟨g', cur, e, hg, hk.far (hp _ e) u, r⟩
theorem nat_checks (g : Nat) (A B : Option Addr) (a b : List Nat) (n m c d : Nat) (hn : n = a.length) (hm : m = b.length) (w : World) (ha : Rd w A a) (hb : Rd w B b)
    (h0 : w.cell? ⟨g, 0, none⟩ = some (.slice A n c)) (h1 : w.cell? ⟨g, 1, none⟩ = some (.slice B m d)) :
    Calls Tryd.prog 80 #[.slice (some ⟨g, 0, none⟩) 2 2] w (Says w (.int .i64 (chk2 a b))) := by
  subst hn hm
  have hg := cell_lt h0
  simp only at hg
  go_enter Tryd.func80, Tryd.ntmps80
  go_wp2
  go_loopw [8] (fun i wr => ∃ k : Nat, k ≤ 2 ∧ i = .int .i64 (k : Int) ∧ (1 ≤ k → chk a = 0) ∧ (2 ≤ k → chk b = 0) ∧ Below w.heap.size w wr) (fun i _ => 2 - (intOf i).toNat)
  case atStart => exact ⟨0, by omega, rfl, fun h => by omega, fun h => by omega, Below.refl _ _⟩
  case round =>
    obtain ⟨k, hk, rfl, hka, hkb, hbl⟩ := hrel
    have HA := Lib.hid hka
    have HB := Lib.hid hkb
    have hsz := hbl.size
    have hc0 := cell_keep hbl h0
    have hc1 := cell_keep hbl h1
    clear hka hkb h0 h1
    have hcases : k = 0 ∨ k = 1 ∨ k = 2 := by omega
    rcases hcases with rfl | rfl | rfl
    · go_wp2_with fail
      refine (nat_Check A a _ c rfl _ ((ha.below hbl).alloc _)).mono ?_
      rintro e w1 ⟨rfl, hb1⟩
      have hbw : Below w.heap.size w w1 := (hbl.alloc hsz _).trans (hb1.mono (by simp; omega))
      by_cases hz : chk a = 0
      · rw [hz]
        have HZ := Lib.hid hz
        clear hz
        go_wp2
        go_roundw
        case rel => exact ⟨1, by omega, by go_num, fun _ => HZ.out, fun h => by omega, hbw⟩
        case measure => first | (simp [intOf]; done) | (simp [intOf]; omega)
      · have hne : (chk a != 0) = true := by rw [bne_iff_ne]; exact hz
        have e2 : chk2 a b = chk a := by unfold chk2; rw [if_neg hz]
        have E2 := Lib.hid e2
        clear hz e2
        go_wp2
        go_ret
        rw [E2.out]
        exact ⟨rfl, hbw⟩
    · go_wp2_with fail
      refine (nat_Check B b _ d rfl _ ((hb.below hbl).alloc _)).mono ?_
      rintro e w1 ⟨rfl, hb1⟩
      have hbw : Below w.heap.size w w1 := (hbl.alloc hsz _).trans (hb1.mono (by simp; omega))
      by_cases hz : chk b = 0
      · rw [hz]
        have HZ := Lib.hid hz
        clear hz
        go_wp2
        go_roundw
        case rel => exact ⟨2, by omega, by go_num, fun _ => HA.out (by omega), fun _ => HZ.out, hbw⟩
        case measure => first | (simp [intOf]; done) | (simp [intOf]; omega)
      · have hne : (chk b != 0) = true := by rw [bne_iff_ne]; exact hz
        have e2 : chk2 a b = chk b := by unfold chk2; rw [if_pos (HA.out (by omega))]
        have E2 := Lib.hid e2
        clear hz e2
        go_wp2
        go_ret
        rw [E2.out]
        exact ⟨rfl, hbw⟩
    · have e2 : chk2 a b = 0 := by unfold chk2; rw [if_pos (HA.out (by omega))]; exact HB.out (by omega)
      have E2 := Lib.hid e2
      clear e2
      go_wp2
      go_ret
      rw [E2.out]
      exact ⟨rfl, hbl⟩

theorem ref_two (A B : Option Addr) (a b : List Nat) (n m c d : Nat) (hn : n = a.length) (hm : m = b.length) (w : World) (ha : Rd w A a) (hb : Rd w B b) :
    Calls Tryd.prog 51 #[.agg #[.slice A n c], .agg #[.slice B m d]] w (Says w (.int .i64 (chk2 a b))) := by
  subst hn hm
  have ha2 := (ha.alloc (Obj.cells #[Value.slice A a.length c] 56)).alloc (Obj.cells #[Value.slice B b.length d] 56)
  have hb2 := (hb.alloc (Obj.cells #[Value.slice A a.length c] 56)).alloc (Obj.cells #[Value.slice B b.length d] 56)
  by_cases hz : chk a = 0
  · have e2 : chk2 a b = chk b := by unfold chk2; rw [if_pos hz]
    have HZ := Lib.hid hz
    clear hz
    rw [e2]
    go_enter Tryd.func51, Tryd.ntmps51
    go_wp2_with fail
    refine (ref_Check A a _ c rfl _ ha2).mono ?_
    rintro e w1 ⟨rfl, hb1⟩
    rw [HZ.out]
    obtain ⟨hc1, hf1⟩ := bcell hb1
    have hbw1 : Below w.heap.size w w1 := Below.trans (b := _) (by repeat' (first | (with_reducible assumption) | (with_reducible exact Below.refl _ _) | (with_reducible refine bdn ?_ _) | (with_reducible refine Below.drew ?_) | (with_reducible refine Below.setCell ?_ ?_ _) | (with_reducible refine Below.alloc ?_ ?_ _) | go_size)) (hb1.mono (by go_size))
    have hz1_0 : w.heap.size < w1.heap.size := by have := hb1.size; simp at this; omega
    have hz1_1 : w.heap.size + 1 < w1.heap.size := by have := hb1.size; simp at this; omega
    go_wp2_with fail
    refine (ref_Check B b _ d rfl _ (hb2.below hb1)).mono ?_
    rintro e w2 ⟨rfl, hbb2⟩
    go_wp2
    go_ret
    exact ⟨rfl, hbw1.trans (hbb2.mono (by omega))⟩
  · have e2 : chk2 a b = chk a := by unfold chk2; rw [if_neg hz]
    have hne : (chk a != 0) = true := by rw [bne_iff_ne]; exact hz
    clear hz
    rw [e2]
    go_enter Tryd.func51, Tryd.ntmps51
    go_wp2_with fail
    refine (ref_Check A a _ c rfl _ ha2).mono ?_
    rintro e w1 ⟨rfl, hb1⟩
    obtain ⟨hc1, hf1⟩ := bcell hb1
    have hbw1 : Below w.heap.size w w1 := Below.trans (b := _) (by repeat' (first | (with_reducible assumption) | (with_reducible exact Below.refl _ _) | (with_reducible refine bdn ?_ _) | (with_reducible refine Below.drew ?_) | (with_reducible refine Below.setCell ?_ ?_ _) | (with_reducible refine Below.alloc ?_ ?_ _) | go_size)) (hb1.mono (by go_size))
    have hz1_0 : w.heap.size < w1.heap.size := by have := hb1.size; simp at this; omega
    have hz1_1 : w.heap.size + 1 < w1.heap.size := by have := hb1.size; simp at this; omega
    go_wp2
    go_ret
    exact ⟨rfl, (by repeat' (first | (with_reducible assumption) | (with_reducible exact Below.refl _ _) | (with_reducible refine bdn ?_ _) | (with_reducible refine Below.drew ?_) | (with_reducible refine Below.setCell ?_ ?_ _) | (with_reducible refine Below.alloc ?_ ?_ _) | go_size))⟩
end Go.Proofs.YtenekbfnlbipiaaDoor
