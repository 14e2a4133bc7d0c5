/- Walks of the document's pack: asked, Bits, Size. -/
import Derived.Test.YtefhannaofknnaaDoorPkRb
namespace Go.Proofs.YtefhannaofknnaaDoor
open Go.RowKit
set_option linter.unusedVariables false
set_option linter.unusedSimpArgs false
set_option maxHeartbeats 4000000
set_option maxRecDepth 100000

/-- A list of one's own and a block of another type lie apart. -/
theorem OwnR.ne {w : World} {B : Nat} {e : TypeId} {k : IntKind} {v : Value} {l : List Nat} (h : OwnR w B e k v l) {g : Nat} {t : TypeId} {cs : Array Value} (hb : Blk w g t cs) (hne : e ≠ t) : ∀ g', v.ownBlock = some g' → g' ≠ g := by
  intro g' hg' e0
  subst e0
  rcases h.form with ⟨rfl, _⟩ | ⟨g1, cap, cur, rfl, _, hh, _⟩
  · cases hg'
  · cases hg'
    have := hh.symm.trans hb
    injection this with this
    injection this with _ h2
    exact hne h2
theorem OwnR.cap {w : World} {B : Nat} {e : TypeId} {k : IntKind} {v : Value} {l : List Nat} (h : OwnR w B e k v l) : ∃ A c, v = .slice A l.length c ∧ l.length ≤ c := by
  rcases h.form with ⟨rfl, rfl⟩ | ⟨g, cap, cur, rfl, _, _, hc, _⟩
  · exact ⟨_, _, rfl, Nat.le_refl _⟩
  · exact ⟨_, _, rfl, hc⟩
theorem Blk.grown {w w' : World} {g : Nat} {t : TypeId} {cs : Array Value} (h : Blk w g t cs) {row : Option Nat} (hg : w.grownBy w' row) (hne : some g ≠ row) : Blk w' g t cs := (hg.block g h.lt hne).trans h
theorem fitE_row {E F b : Nat} (hc : chkF (E : Int) (F : Int) = 0) (h : ¬ fitE (E : Int) (F : Int) b = 0) : fitE (E : Int) (F : Int) b = 6 := by
  unfold fitE at h ⊢
  rw [if_pos hc] at h ⊢
  unfold fitF at h ⊢
  split
  · rfl
  · rename_i h1; rw [if_neg h1] at h; exact absurd rfl h
theorem ref_asked (e f : Int) (A : Option Addr) (l : List Nat) (n c : Nat) (hn : n = l.length) (w : World) (hl64 : ∀ v ∈ l, v < 18446744073709551616) (hrd : RdK .u64 w A l) :
    Calls Tryd.prog 43 #[.agg #[.int .i64 e, .int .i64 f], .slice A n c] w (Says w (.int .i64 (rowErr e f l))) := by
  subst hn
  have hb0 : Below w.heap.size w (w.alloc (.cells #[.int .i64 e, .int .i64 f] 23)) := (Below.refl w.heap.size w).alloc (Nat.le_refl _) _
  by_cases hc : chkF e f = 0
  · obtain ⟨E, F, rfl, rfl, hE1, hE2, hF1, hF2⟩ := chk_ok hc
    have HC := Lib.hid hc
    by_cases hlong : 65536 < l.length
    · have hr : rowErr (E : Int) (F : Int) l = 4 := by unfold rowErr; rw [if_neg (by simpa using hc), if_pos hlong]
      rw [hr]
      have hg : decide ((65536 : Int) < ((l.length : Nat) : Int)) = true := by simp; omega
      clear hr hc hlong
      go_enter Tryd.func43, Tryd.ntmps43
      go_wp2_with fail
      refine (ref_Check _ _ _).mono ?_
      rintro r w1 ⟨rfl, hb1⟩
      rw [HC.out]
      have hb01 := hb0.trans (hb1.mono (by simp))
      go_wp2
      go_ret
      exact ⟨rfl, hb01⟩
    · have hg : decide ((65536 : Int) < ((l.length : Nat) : Int)) = false := by simp; omega
      have hl : l.length ≤ 65536 := by omega
      obtain ⟨R, hR⟩ : ∃ R, R = rowErr (E : Int) (F : Int) l := ⟨_, rfl⟩
      rw [← hR]
      have HR := Lib.hid (show R = if ∀ v ∈ l, v < 2 ^ (1 + E + F) then 0 else 6 by rw [hR]; unfold rowErr; rw [if_neg (by simpa using hc), if_neg (by omega), Int.toNat_natCast, Int.toNat_natCast])
      clear hlong hc hR
      go_enter Tryd.func43, Tryd.ntmps43
      go_wp2_with fail
      refine (ref_Check _ _ _).mono ?_
      rintro r w1 ⟨rfl, hb1⟩
      rw [HC.out]
      have hb01 := hb0.trans (hb1.mono (by simp))
      have f0 : w1.cell? ⟨w.heap.size, 0, none⟩ = some (.int .i64 (E : Int)) := by rw [hb1.cell (by simp)]; simp
      have f1 : w1.cell? ⟨w.heap.size, 1, none⟩ = some (.int .i64 (F : Int)) := by rw [hb1.cell (by simp)]; simp
      clear hb0 hb1
      go_wp2
      go_loopw [5] (fun v5 wr => ∃ i : Nat, i ≤ l.length ∧ v5 = .int .i64 (i : Int) ∧ (∀ j, j < i → nth l j < 2 ^ (1 + E + F)) ∧ Below w.heap.size w wr ∧ wr.cell? ⟨w.heap.size, 0, none⟩ = some (.int .i64 (E : Int)) ∧ wr.cell? ⟨w.heap.size, 1, none⟩ = some (.int .i64 (F : Int))) (fun v5 _ => l.length - (intOf v5).toNat)
      case atStart => exact ⟨0, Nat.zero_le _, rfl, fun j hj => absurd hj (Nat.not_lt_zero _), hb01, f0, f1⟩
      case round =>
        clear hb01 f0 f1
        obtain ⟨i, hi, rfl, hall, hbl, f0, f1⟩ := hrel
        by_cases hi1 : i < l.length
        · obtain ⟨b0, off, rfl, hcell⟩ := (hrd.below hbl) (by omega)
          have hx := hcell i hi1
          have h64 : nth l i < 18446744073709551616 := by rw [nth_lt _ hi1]; exact hl64 _ (List.getElem_mem hi1)
          have hg9 : decide (((i : Nat) : Int) < ((l.length : Nat) : Int)) = true := by simp; omega
          obtain ⟨b, hb⟩ : ∃ b, b = nth l i := ⟨_, rfl⟩
          rw [← hb] at hx h64
          have HB := Lib.hid hb
          have HA := Lib.hid hall
          have hF := ref_Fits (E : Int) (F : Int) (b : Int) b rfl h64
          clear hcell hb h64 hall
          by_cases hfit : fitE (E : Int) (F : Int) b = 0
          · rw [hfit] at hF
            have HF := Lib.hid ((fit_lt ⟨hE1, hE2⟩ ⟨hF1, hF2⟩).1 hfit)
            clear hfit
            go_wp2
            go_region_held3 (fun w' => w'.cell? ⟨w.heap.size, 0, none⟩ = some (.int .i64 (E : Int)) ∧ w'.cell? ⟨w.heap.size, 1, none⟩ = some (.int .i64 (F : Int)) ∧ w'.cell? ⟨b0, off + i, none⟩ = some (.int .u64 (b : Int)))
              (first | exact ⟨f0, f1, hx⟩ | exact ⟨cell_keep hb5 f0, cell_keep hb5 f1, cell_keep hb5 hx⟩ | go_keep)
              (first
              | (go_at_call 32; (with_reducible refine (hF _).mono ?_); rintro r w5 ⟨rfl, hb5⟩)
              | fail)
            all_goals (
              have hx5 : Below wr.heap.size wr w5 := (Below.drew (Below.refl _ _)).trans hb5
              have hbl5 := hbl.trans (hx5.mono hbl.size)
              have k0 := cell_keep hx5 f0
              have k1 := cell_keep hx5 f1
              clear hb5 f0 f1 hx
              go_wp2
              go_roundw
              case rel =>
                refine ⟨i + 1, hi1, vi (by omega), fun j hj => ?_, hbl5, k0, k1⟩
                rcases Nat.lt_or_ge j i with g | g
                · exact HA.out j g
                · obtain rfl : j = i := by omega
                  rw [← HB.out]; exact HF.out
              case measure => first | (simp [intOf]; done) | (simp [intOf]; omega))
          · have h6 : fitE (E : Int) (F : Int) b = 6 := fitE_row HC.out hfit
            rw [h6] at hF
            have HR6 := Lib.hid (show R = 6 by
              rw [HR.out, if_neg]
              intro hall
              exact hfit ((fit_lt ⟨hE1, hE2⟩ ⟨hF1, hF2⟩).2 (by rw [HB.out, nth_lt _ hi1]; exact hall _ (List.getElem_mem hi1))))
            clear hfit h6
            go_wp2
            go_region_held3 (fun w' => w'.cell? ⟨w.heap.size, 0, none⟩ = some (.int .i64 (E : Int)) ∧ w'.cell? ⟨w.heap.size, 1, none⟩ = some (.int .i64 (F : Int)) ∧ w'.cell? ⟨b0, off + i, none⟩ = some (.int .u64 (b : Int)))
              (first | exact ⟨f0, f1, hx⟩ | exact ⟨cell_keep hb5 f0, cell_keep hb5 f1, cell_keep hb5 hx⟩ | go_keep)
              (first
              | (go_at_call 32; (with_reducible refine (hF _).mono ?_); rintro r w5 ⟨rfl, hb5⟩)
              | fail)
            all_goals (
              have hx5 : Below wr.heap.size wr w5 := (Below.drew (Below.refl _ _)).trans hb5
              have hbl5 := hbl.trans (hx5.mono hbl.size)
              go_wp2
              go_ret
              exact ⟨ret_int HR6.out.symm, hbl5⟩)
        · obtain rfl : i = l.length := by omega
          have hg9 : decide (((l.length : Nat) : Int) < ((l.length : Nat) : Int)) = false := by simp
          have HR0 := Lib.hid (show R = 0 by
            rw [HR.out, if_pos]
            intro v hv
            obtain ⟨j, hj, rfl⟩ := List.mem_iff_getElem.1 hv
            have := hall j hj
            rwa [nth_lt _ hj] at this)
          clear hall
          go_wp2
          go_ret
          exact ⟨ret_int HR0.out.symm, hbl⟩
  · have hr : rowErr e f l = 5 := by unfold rowErr; rw [if_pos hc]
    rw [hr]
    have HC := Lib.hid (chk_no hc)
    clear hr hc
    go_enter Tryd.func43, Tryd.ntmps43
    go_wp2_with fail
    refine (ref_Check _ _ _).mono ?_
    rintro r w1 ⟨rfl, hb1⟩
    rw [HC.out]
    have hb01 := hb0.trans (hb1.mono (by simp))
    go_wp2
    go_ret
    exact ⟨rfl, hb01⟩
end Go.Proofs.YtefhannaofknnaaDoor
