/- Walks: lent, kept. -/
import Derived.Test.YtkepjhgafpbecaaSd
import Derived.Test.YtkepjhgafpbecaaOpen
namespace Go.Proofs.Ytkepjhgafpbecaa
open Go.RowKit
set_option linter.unusedVariables false
set_option linter.unusedSimpArgs false
set_option maxHeartbeats 4000000
set_option maxRecDepth 100000

/-- A number that was lent: its limbs, the marks behind. -/
def Lent (w : World) (B g cap : Nat) (l : List Nat) : Prop := Own w 28 B (some ⟨g, 0, none⟩) cap (l ++ [77, 78, 79]) ∧ l.length + 3 ≤ cap ∧ B ≤ g
theorem Lent.own {w : World} {B g cap : Nat} {l : List Nat} (h : Lent w B g cap l) : Own w 28 B (some ⟨g, 0, none⟩) cap l := by
  have := h.1.take l.length
  simpa using this
theorem Lent.below {w w' : World} {B g cap : Nat} {l : List Nat} (h : Lent w B g cap l) (hb : Below w.heap.size w w') : Lent w' B g cap l := ⟨h.1.below hb (Nat.le_refl _), h.2⟩
theorem Lent.left {w w' : World} {B B' g cap : Nat} {Fr : List Nat} {l : List Nat} (h : Lent w B g cap l) (hb : Left B' Fr w w') : Lent w' B g cap l := ⟨hb.own h.1, h.2⟩
theorem Lent.alloc {w : World} {B g cap : Nat} {l : List Nat} (h : Lent w B g cap l) (o : Obj) : Lent (w.alloc o) B g cap l := ⟨h.1.alloc o, h.2⟩

theorem marks (w : World) (t : TypeId) : ∀ j, j < [77, 78, 79].length → (w.alloc (.cells #[.int .u32 77, .int .u32 78, .int .u32 79] t)).cell? ⟨w.heap.size, 0 + j, none⟩ = some (.int .u32 ((nth [77, 78, 79] j : Nat) : Int)) := by
  intro j hj
  match j, hj with
  | 0, _ => simp [nth]
  | 1, _ => simp [nth]
  | 2, _ => simp [nth]
theorem lent_any (A : Option Addr) (l : List Nat) (n c : Nat) (hn : n = l.length) (hl : l.length * 4 ≤ 140737488351232) (w : World) (h : Rd w A l) :
    Calls Try.prog 24 #[.agg #[.slice A n c]] w fun e w' => ∃ g cap, e = .returned (.agg #[.slice (some ⟨g, 0, none⟩) l.length cap]) ∧ Lent w' w.heap.size g cap l ∧ Below w.heap.size w w' := by
  subst hn
  have h1 := (h.alloc (Obj.cells #[Value.slice A l.length c] 35)).alloc (Obj.cells #[Value.slice none 0 0] 35)
  go_enter Try.func24, Try.ntmps24
  go_wp2_with (first
    | (at_builtin
       refine wpList_apps elemU rfl _ _ rfl (OwnR.nil _ (w.heap.size + 2) _ _) rfl A l _ c rfl rfl (fun h0 => h1.open_ h0) (.inr ⟨rfl, bytesU, by simp; omega⟩) (by simp) (fun v1 w1 hown1 hgr1 hb1 => ?_)
       rw [List.nil_append] at hown1
       have hb1' : Below (w.heap.size + 2) ((w.alloc (Obj.cells #[Value.slice A l.length c] 35)).alloc (Obj.cells #[Value.slice none 0 0] 35)) w1 := hb1
       have s1 := hb1.size
       simp at s1
       have z0 : w.heap.size < w1.heap.size := by omega
       have z1 : w.heap.size + 1 < w1.heap.size := by omega
       have c0 : w1.cell? ⟨w.heap.size, 0, none⟩ = some (.slice A l.length c) := by rw [hb1'.cell (by simp)]; simp
       have c1 : w1.cell? ⟨w.heap.size + 1, 0, none⟩ = some (.slice none 0 0) := by rw [hb1'.cell (by simp)]; simp
       have f1 : w1.frozen? ⟨w.heap.size + 1, 0, none⟩ = false := by rw [hb1'.frozen (by simp)]; simp)
    | (at_builtin
       refine wpList_apps elemU rfl _ _ rfl (hown1.alloc _) rfl (some ⟨w1.heap.size, 0, none⟩) [77, 78, 79] 3 3 rfl rfl (fun _ => ⟨_, _, rfl, marks w1 _⟩) (.inr ⟨rfl, bytesU, by simp; omega⟩) (by simp; omega) (fun v2 w2 hown2 hgr2 hb2 => ?_)
       have hb2' : Below (w.heap.size + 2) w1 w2 := ((Below.refl _ _).alloc (by omega) _).trans hb2
       have s2 := hb2'.size
       have hso : Sm (l ++ [77, 78, 79]) := h.sm.append (by intro x hx; simp at hx; omega)
       have hlo : (l ++ [77, 78, 79]).length ≤ 35184372088960 := by simp; omega
       obtain ⟨A2, c2, rfl, hle2, o2⟩ := hown2.own hso hlo
       obtain ⟨g, rfl⟩ : ∃ g, A2 = some ⟨g, 0, none⟩ := by
         rcases o2.2.2 with ⟨_, e, _⟩ | ⟨g, _, e, _⟩
         · simp at e
         · exact ⟨g, e⟩
       have hgB := (o2.block (g := g) rfl).1
       have hl3 : l.length + 3 ≤ c2 := by simpa using hle2
       have z0' : w.heap.size < w2.heap.size := by omega
       have z1' : w.heap.size + 1 < w2.heap.size := by omega
       have c0' : w2.cell? ⟨w.heap.size, 0, none⟩ = some (.slice A l.length c) := by rw [hb2'.cell (by simp)]; exact c0
       have c1' : w2.cell? ⟨w.heap.size + 1, 0, none⟩ = some (.slice none 0 0) := by rw [hb2'.cell (by simp)]; exact c1
       have f1' : w2.frozen? ⟨w.heap.size + 1, 0, none⟩ = false := by rw [hb2'.frozen (by simp)]; exact f1
       have i1 : (l.length : Int) ≤ (c2 : Int) := by omega))
  have hbw : Below w.heap.size w w2 := (((Below.refl w.heap.size w).alloc (Nat.le_refl _) _).alloc (by simp) _).trans ((hb1'.mono (by omega)).trans (hb2'.mono (by omega)))
  (try simp only [Exit.inBlock, Exit.then]); refine bodyPost_ret (by simp (maxDischargeDepth := 9) [results, Try.results24, go_sem, c1']; try rfl) rfl ?_
  exact ⟨g, c2, rfl, ⟨(o2.setCell (by simp) _).mono (by omega), hl3, by omega⟩, hbw.setCell (by simp) _⟩

theorem kept_any (A : Option Addr) (l : List Nat) (n c n' cap g B : Nat) (hn : n = l.length) (hn' : n' = l.length) (hl : l.length * 4 ≤ 140737488351232) (w : World) (h : Rd w A l) (hk : Lent w B g cap l) :
    Calls Try.prog 29 #[.agg #[.slice (some ⟨g, 0, none⟩) n' cap], .agg #[.slice A n c]] w (Says w (.bool true)) := by
  subst hn hn'
  have h1 := (h.alloc (Obj.cells #[Value.slice (some ⟨g, 0, none⟩) l.length cap] 35)).alloc (Obj.cells #[Value.slice A l.length c] 35)
  have k1 := ((hk.alloc (Obj.cells #[Value.slice (some ⟨g, 0, none⟩) l.length cap] 35)).alloc (Obj.cells #[Value.slice A l.length c] 35)).1.g
  have hcap := hk.2.1
  have i1 : (l.length : Int) + 3 ≤ (cap : Int) := by omega
  obtain ⟨g0, gcur, e0, _, hgl, hg0, _, hgb⟩ := k1.cell2 (k := l.length) (by simp)
  obtain rfl : g0 = g := by injection e0 with e0; injection e0 with e0; exact e0.symm
  go_enter Try.func29, Try.ntmps29
  go_wp2
  generalize hW : ((w.alloc (Obj.cells #[Value.slice (some ⟨g0, 0, none⟩) l.length cap] 35)).alloc (Obj.cells #[Value.slice A l.length c] 35)) = W at *
  have c3 : W.cell? ⟨w.heap.size + 1, 0, none⟩ = some (.slice A l.length c) := by rw [← hW]; simp
  have c2 : W.cell? ⟨w.heap.size, 0, none⟩ = some (.slice (some ⟨g0, 0, none⟩) l.length cap) := by rw [← hW]; simp
  have bW : Below w.heap.size w W := by rw [← hW]; exact ((Below.refl w.heap.size w).alloc (Nat.le_refl _) _).alloc (by simp) _
  have sW : w.heap.size + 1 < W.heap.size := by rw [← hW]; simp
  clear hW
  go_loopw [7] (fun v wr => ∃ q : Nat, q ≤ l.length ∧ v = .int .i64 (q : Int) ∧ Below W.heap.size W wr) (fun v _ => l.length - (intOf v).toNat)
  case atStart => exact ⟨0, Nat.zero_le _, rfl, Below.refl _ _⟩
  case round =>
    obtain ⟨q, hq, rfl, hbq⟩ := hrel
    have d3 := (hbq.cell (p := ⟨w.heap.size + 1, 0, none⟩) sW).trans c3
    have d2 := (hbq.cell (p := ⟨w.heap.size, 0, none⟩) (by show w.heap.size < _; omega)).trans c2
    by_cases hq1 : q < l.length
    · obtain ⟨b, off, rfl, hca⟩ := rd_at h1 hbq (k := q) hq1
      obtain ⟨g1, e1, hl1, hc1⟩ := k1.cell (k := q) (by simp; omega)
      obtain rfl : g1 = g0 := by injection e1 with e1; injection e1 with e1; exact e1.symm
      rw [nth_append_left _ _ _ hq1] at hc1
      have hcg := (hbq.cell (p := ⟨g1, q, none⟩) hl1).trans hc1
      clear hc1
      go_wp2
      go_quiet (fail)
      go_wp2
      go_roundw
      case rel => exact ⟨q + 1, by omega, by go_num, (by repeat' (first | (with_reducible assumption) | (with_reducible exact Below.refl _ _) | (with_reducible refine bdn ?_ _) | (with_reducible refine Below.drew ?_) | (with_reducible refine Below.setCell ?_ ?_ _) | (with_reducible refine Below.alloc ?_ ?_ _) | go_size))⟩
      case measure => first | (simp [intOf]; done) | (simp [intOf]; omega)
    · have hqe : q = l.length := by omega
      subst hqe
      have m0 : wr.cell? ⟨g0, l.length, none⟩ = some (.int .u32 77) := by
        rw [hbq.cell (p := ⟨g0, l.length, none⟩) hgl, hg0, nth_append_right _ _ _ (Nat.le_refl _), Nat.sub_self]; rfl
      have m1 : wr.cell? ⟨g0, l.length + 1, none⟩ = some (.int .u32 78) := by
        obtain ⟨g1, e1, hl1, hc1⟩ := k1.cell (k := l.length + 1) (by simp)
        obtain rfl : g1 = g0 := by injection e1 with e1; injection e1 with e1; exact e1.symm
        rw [hbq.cell (p := ⟨g1, l.length + 1, none⟩) hl1, hc1, nth_append_right _ _ _ (by omega), Nat.add_sub_cancel_left]; rfl
      have m2 : wr.cell? ⟨g0, l.length + 2, none⟩ = some (.int .u32 79) := by
        obtain ⟨g1, e1, hl1, hc1⟩ := k1.cell (k := l.length + 2) (by simp)
        obtain rfl : g1 = g0 := by injection e1 with e1; injection e1 with e1; exact e1.symm
        rw [hbq.cell (p := ⟨g1, l.length + 2, none⟩) hl1, hc1, nth_append_right _ _ _ (by omega), Nat.add_sub_cancel_left]; rfl
      go_wp2
      go_ret
      exact ⟨rfl, bW.trans (hbq.mono (by omega))⟩
end Go.Proofs.Ytkepjhgafpbecaa
