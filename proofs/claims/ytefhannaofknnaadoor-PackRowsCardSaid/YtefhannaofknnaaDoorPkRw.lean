/- Walks: twin, PackRows. -/
import Derived.Test.YtefhannaofknnaaDoorPkRe
namespace Go.Proofs.YtefhannaofknnaaDoor
open Go.RowKit
set_option linter.unusedVariables false
set_option linter.unusedSimpArgs false
set_option maxHeartbeats 4000000
set_option maxRecDepth 100000

/-- What twin answers: the list, the mark behind. -/
def TwinAns (w : World) (l : List Nat) (en : Ending) (w' : World) : Prop :=
  ∃ g cap, en = .returned (.slice (some ⟨g, 0, none⟩) l.length cap) ∧ l.length + 1 ≤ cap ∧ OwnR w' w.heap.size 34 .u64 (.slice (some ⟨g, 0, none⟩) (l.length + 1) cap) (l ++ [77]) ∧ Below w.heap.size w w'
theorem law_twin (A : Option Addr) (l : List Nat) (n c : Nat) (hn : n = l.length) (hsh : l.length * 8 ≤ 140737488351232) (w : World) (hrd : RdK .u64 w A l) :
    Calls Tryd.prog 21 #[.slice A n c] w (TwinAns w l) := by
  subst hn
  have hi2 : ((l.length : Nat) : Int) ≤ 140737488351232 := by omega
  go_enter Tryd.func21, Tryd.ntmps21
  go_wp2_with (first
    | (at_builtin
       refine wpList_apps elem64 rfl _ _ rfl (OwnR.nil _ w.heap.size _ _) rfl A l l.length c rfl rfl hrd (.inl (by simp only [List.length_nil]; omega)) (Nat.le_refl _) (fun v1 w1 hown1 hgr1 hb1 => ?_)
       have hz1 := hb1.size
       have hd1 := hb1
       clear hgr1 hb1)
    | (at_builtin
       refine wpList_apps elem64 rfl _ _ rfl (hown1.alloc _) rfl (some ⟨w1.heap.size, 0, none⟩) [77] 1 1 rfl rfl (rd_new1 w1 _ 77) (.inl (by simp only [List.nil_append, List.length_cons, List.length_nil]; omega)) (by simp only [World.size_alloc]; omega) (fun v2 w2 hown2 hgr2 hb2 => ?_)
       have hb02 : Below w.heap.size w w2 := (hd1.alloc hz1 _).trans hb2
       rw [List.nil_append] at hown2
       have hlen2 : (l ++ [77]).length = l.length + 1 := by simp
       obtain ⟨g, cap, cur, rfl, hcap⟩ : ∃ g cap cur, v2 = .slice (some ⟨g, 0, none⟩) (l ++ [77]).length cap ∧ (l ++ [77]).length ≤ cap ∧ cur = 0 := by
         rcases hown2.form with ⟨_, h⟩ | ⟨g, cap, _, e, _, _, h, _⟩
         · simp at h
         · exact ⟨g, cap, 0, e, h, rfl⟩
       rw [hlen2] at hown2 hcap
       have hc1 : ((l.length : Nat) : Int) ≤ (cap : Int) := by omega
       clear hgr2 hb2 hown1))
  go_ret
  exact ⟨g, cap, rfl, hcap.1, hown2, hb02⟩
theorem rd_pre {k : IntKind} {w : World} {A : Option Addr} {l m : List Nat} (h : RdK k w A (l ++ m)) : RdK k w A l := fun hn => by
  obtain ⟨b, off, e, hc⟩ := h (by rw [List.length_append]; omega)
  exact ⟨b, off, e, fun j hj => by rw [← nth_append_lo l m j hj]; exact hc j (by rw [List.length_append]; omega)⟩
theorem rows_mid (e f : Int) (A : Option Addr) (l : List Nat) (c : Nat) (w : World) (hT : Tab w) (h1 : 3000 < l.length) (h2 : l.length ≤ 65536) :
    Calls Tryd.prog 4 #[.agg #[.int .i64 e, .int .i64 f], .slice A l.length c] w (Says w (.bool true)) := by
  have hg : decide ((3000 : Int) < ((l.length : Nat) : Int)) = true := by simp; omega
  have hg2 : decide (((l.length : Nat) : Int) ≤ (65536 : Int)) = true := by simp; omega
  clear h1
  go_enter Tryd.func4, Tryd.ntmps4
  go_wp2_with fail
  have hb0 : Below w.heap.size w (w.alloc (.cells #[.int .i64 e, .int .i64 f] 23)) := (Below.refl w.heap.size w).alloc (Nat.le_refl _) _
  refine (awake_any _ (hT.below hb0)).mono ?_
  rintro r w1 ⟨rfl, hb1⟩
  have hb01 := hb0.trans (hb1.mono (by simp))
  go_wp2
  go_ret
  exact ⟨rfl, hb01⟩
theorem rows_main (e f : Int) (A : Option Addr) (l : List Nat) (c : Nat) (w : World) (hl64 : ∀ v ∈ l, v < 18446744073709551616) (hrd : RdK .u64 w A l) (hsh : l.length * 8 ≤ 140737488351232) (hT : Tab w) (h1 : l.length ≤ 3000 ∨ 65536 < l.length) :
    Calls Tryd.prog 4 #[.agg #[.int .i64 e, .int .i64 f], .slice A l.length c] w (Says w (.bool true)) := by
  have hg : (decide ((3000 : Int) < ((l.length : Nat) : Int)) = false) ∨ (decide ((3000 : Int) < ((l.length : Nat) : Int)) = true ∧ decide (((l.length : Nat) : Int) ≤ (65536 : Int)) = false ∧ ¬ l.length ≤ 65536 ∧ 3000 < l.length) := by
    rcases h1 with h | h
    · left; simp; omega
    · right; refine ⟨by simp; omega, by simp; omega, by omega, by omega⟩
  have hTw := fun W hr => law_twin A l l.length c rfl hsh W hr
  have hP := fun W A' c' hr (h : Tab W) => pack_Pack e f A' l l.length c' rfl W hl64 hr h (cell_lt (h 0 (by decide)))
  have hZ := fun W A' c' hr (h : Tab W) => pack_Size e f A' l l.length c' rfl W hl64 hr h (cell_lt (h 0 (by decide)))
  have hRP := fun W hr => ref_Pack e f A l l.length c rfl W hl64 hr
  have hRZ := fun W hr => ref_Size e f A l l.length c rfl W hl64 hr
  have hSA := fun W A' c' hr hr2 => law_same A' A l l l.length l.length c' c rfl rfl (by omega) W hr hr2
  have hdl : decide (l = l) = true := by simp
  rw [hdl] at hSA
  generalize packS e f l = P at hP hRP
  generalize sizeS e f l = Z at hZ hRZ
  obtain ⟨S, g⟩ := P
  obtain ⟨N, h⟩ := Z
  simp only at hP hRP hZ hRZ
  have hlb : l.length ≤ 17592186043904 := by omega
  clear hdl h1
  rcases hg with d1 | ⟨d1, d2, d3, d4⟩
  all_goals (
    go_enter Tryd.func4, Tryd.ntmps4
    go_wp2_with fail
    have hb0 : Below w.heap.size w (w.alloc (.cells #[.int .i64 e, .int .i64 f] 23)) := (Below.refl w.heap.size w).alloc (Nat.le_refl _) _
    refine (awake_any _ (hT.below hb0)).mono ?_
    rintro r w1 ⟨rfl, hb1⟩
    have hb01 := hb0.trans (hb1.mono (by simp))
    have f0 : w1.cell? ⟨w.heap.size, 0, none⟩ = some (.int .i64 e) := by rw [hb1.cell (by simp)]; simp
    have f1 : w1.cell? ⟨w.heap.size, 1, none⟩ = some (.int .i64 f) := by rw [hb1.cell (by simp)]; simp
    clear hb0 hb1
    go_wp2_with fail
    refine (hTw _ (hrd.below hb01)).mono ?_
    rintro r w2 ⟨G, cap, rfl, hcap, hown, hb2⟩
    have hb02 := hb01.trans (hb2.mono hb01.size)
    have g0 := cell_keep hb2 f0
    have g1 := cell_keep hb2 f1
    have hrl := hown.rdK
    clear f0 f1 hb2 hb01 hTw hown
    go_wp2_with fail
    refine (hP _ _ _ (rd_pre hrl) (hT.below hb02)).mono ?_
    rintro r w3 ⟨rfl, hb3⟩
    have hb03 := hb02.trans (hb3.mono hb02.size)
    have f0 := cell_keep hb3 g0
    have f1 := cell_keep hb3 g1
    have hrl3 := hrl.below hb3
    clear g0 g1 hb3 hb02 hP hrl
    go_wp2_with fail
    refine (hRP _ (hrd.below hb03)).mono ?_
    rintro r w4 ⟨rfl, hb4⟩
    have hb04 := hb03.trans (hb4.mono hb03.size)
    have g0 := cell_keep hb4 f0
    have g1 := cell_keep hb4 f1
    have hrl := hrl3.below hb4
    clear f0 f1 hb4 hb03 hRP hrl3
    go_wp2_with fail
    refine (hZ _ _ _ (rd_pre hrl) (hT.below hb04)).mono ?_
    rintro r w5 ⟨rfl, hb5⟩
    have hb05 := hb04.trans (hb5.mono hb04.size)
    have f0 := cell_keep hb5 g0
    have f1 := cell_keep hb5 g1
    have hrl3 := hrl.below hb5
    clear g0 g1 hb5 hb04 hZ hrl
    go_wp2_with fail
    refine (hRZ _ (hrd.below hb05)).mono ?_
    rintro r w6 ⟨rfl, hb6⟩
    have hb06 := hb05.trans (hb6.mono hb05.size)
    have hrl := hrl3.below hb6
    clear f0 f1 hb6 hb05 hRZ hrl3
    go_wp2_with fail
    refine (hSA _ _ _ (rd_pre hrl) (hrd.below hb06)).mono ?_
    rintro r w7 ⟨rfl, hb7⟩
    have hb07 := hb06.trans (hb7.mono hb06.size)
    obtain ⟨b9, off9, e9, hc9⟩ := (hrl.below hb7) (by simp)
    injection e9 with e9
    injection e9 with e91 e92
    subst e91 e92
    have hx := hc9 l.length (by simp)
    have hn7 : nth (l ++ [77]) l.length = 77 := by rw [nth_append_hi _ _ _ (Nat.le_refl _), Nat.sub_self]; rfl
    rw [hn7, Nat.zero_add] at hx
    have hx' : w7.cell? ⟨G, l.length, none⟩ = some (.int .u64 77) := hx
    have i1 : ((l.length : Nat) : Int) + 1 ≤ (cap : Int) := by omega
    have i2 : (0 : Int) ≤ ((l.length : Nat) : Int) + 1 := by omega
    have i3 : ((l.length : Nat) : Int) < ((l.length : Nat) : Int) + 1 := by omega
    clear hc9 hx hn7 hb7 hrl hb06 hSA
    go_wp2
    go_ret
    exact ⟨rfl, hb07⟩)
theorem rows_walk (e f : Int) (A : Option Addr) (l : List Nat) (n c : Nat) (hn : n = l.length) (w : World) (hl64 : ∀ v ∈ l, v < 18446744073709551616) (hrd : RdK .u64 w A l) (hsh : l.length * 8 ≤ 140737488351232) (hT : Tab w) :
    Calls Tryd.prog 4 #[.agg #[.int .i64 e, .int .i64 f], .slice A n c] w (Says w (.bool true)) := by
  subst hn
  by_cases h1 : 3000 < l.length ∧ l.length ≤ 65536
  · exact rows_mid e f A l c w hT h1.1 h1.2
  · exact rows_main e f A l c w hl64 hrd hsh hT (by omega)
end Go.Proofs.YtefhannaofknnaaDoor
