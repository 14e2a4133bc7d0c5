/- Walks: row, Pack, Size. -/
import Derived.Test.YtefhannaofknnaaDoorPkL
namespace Go.Proofs.YtefhannaofknnaaDoor
open Go.RowKit
set_option linter.unusedVariables false
set_option linter.unusedSimpArgs false
set_option maxHeartbeats 4000000
set_option maxRecDepth 100000

/-- The error of a row; 0: it is packed. -/
def rowErr (e f : Int) (l : List Nat) : Int :=
  if chkF e f ≠ 0 then 5 else if 65536 < l.length then 4
  else if ∀ v ∈ l, v < 2 ^ (1 + e.toNat + f.toNat) then 0 else 6
/-- What row answers. -/
def RowAns (w : World) (e f : Int) (l : List Nat) (en : Ending) (w' : World) : Prop :=
  (rowErr e f l = 0 ∧ ∃ p, en = .returned (.tuple #[.pointer (some ⟨p, 0, none⟩), .int .i64 0]) ∧ Wr w' w.heap.size p e.toNat f.toNat l ∧ Below w.heap.size w w') ∨
  (rowErr e f l ≠ 0 ∧ en = .returned (.tuple #[.pointer none, .int .i64 (rowErr e f l)]) ∧ Below w.heap.size w w')
theorem OwnR.base {w : World} {B B' : Nat} {e : TypeId} {k : IntKind} {v : Value} {l : List Nat} (h : OwnR w B e k v l) (hB : B' ≤ B) : OwnR w B' e k v l := by
  refine ⟨h.1, ?_⟩
  rcases h.2 with hn | ⟨g, cap, cur, e0, hg, r⟩
  · exact .inl hn
  · exact .inr ⟨g, cap, cur, e0, Nat.le_trans hB hg, r⟩
theorem pack_row (e f : Int) (A : Option Addr) (l : List Nat) (n c : Nat) (hn : n = l.length) (w : World) (hl64 : ∀ v ∈ l, v < 18446744073709551616) (hrd : RdK .u64 w A l) (hT : Tab w) (hB0 : 0 < w.heap.size) :
    Calls Tryd.prog 30 #[.agg #[.int .i64 e, .int .i64 f], .slice A n c] w (RowAns w e f l) := by
  subst hn
  by_cases hc : chkF e f = 0
  · obtain ⟨E, F, rfl, rfl, hE1, hE2, hF1, hF2⟩ := chk_ok hc
    have HC := Lib.hid hc
    by_cases hlong : 65536 < l.length
    · have hr : rowErr (E : Int) (F : Int) l = 4 := by unfold rowErr; rw [if_neg (by simpa using hc), if_pos hlong]
      have hg : decide ((65536 : Int) < ((l.length : Nat) : Int)) = true := by simp; omega
      have HR := Lib.hid hr
      clear hr hlong hc
      go_enter Tryd.func30, Tryd.ntmps30
      go_wp2_with fail
      refine (pack_New _ _ _).mono ?_
      rintro r w1 hna
      unfold NewAns at hna
      rw [if_pos HC.out] at hna
      obtain ⟨p, rfl, hp, hwr, hb1⟩ := hna
      go_wp2
      go_ret2
      exact .inr ⟨by rw [HR.out]; decide, by rw [HR.out]; rfl, (((Below.refl _ _).alloc (Nat.le_refl _) _).trans (hb1.mono (by simp)))⟩
    · have hg : decide ((65536 : Int) < ((l.length : Nat) : Int)) = false := by simp; omega
      have hl : l.length ≤ 65536 := by omega
      have HR := Lib.hid (show rowErr (E : Int) (F : Int) l = if ∀ v ∈ l, v < 2 ^ (1 + E + F) then 0 else 6 by unfold rowErr; rw [if_neg (by simpa using hc), if_neg (by omega), Int.toNat_natCast, Int.toNat_natCast])
      clear hlong hc
      go_enter Tryd.func30, Tryd.ntmps30
      go_wp2_with fail
      refine (pack_New _ _ _).mono ?_
      rintro r w1 hna
      unfold NewAns at hna
      rw [if_pos HC.out, Int.toNat_natCast, Int.toNat_natCast] at hna
      obtain ⟨p, rfl, hp, hwr, hb1⟩ := hna
      have hz1 := hb1.size
      simp only [World.size_alloc] at hp hwr hb1 hz1
      have hbw1 : Below w.heap.size w w1 := ((Below.refl w.heap.size w).alloc (Nat.le_refl _) _).trans (hb1.mono (by simp))
      clear hb1
      go_wp2
      go_loopw [24] (fun v24 wr => ∃ i : Nat, i ≤ l.length ∧ v24 = .int .i64 (i : Int) ∧ Wr wr (w.heap.size + 1) p E F (l.take i) ∧ w.heap.size + 1 ≤ wr.heap.size ∧ Below w.heap.size w wr) (fun v24 _ => l.length - (intOf v24).toNat)
      case atStart => exact ⟨0, Nat.zero_le _, rfl, hwr, hz1, hbw1⟩
      case round =>
        clear hwr hbw1 hz1
        obtain ⟨i, hi, rfl, hwr, hz, hbl⟩ := hrel
        by_cases hi1 : i < l.length
        · obtain ⟨b0, off, rfl, hcell⟩ := (hrd.below hbl) (by omega)
          have hx := hcell i hi1
          have h64 : nth l i < 18446744073709551616 := by rw [nth_lt _ hi1]; exact hl64 _ (List.getElem_mem hi1)
          have HTK := Lib.hid (take_snoc l i hi1)
          have hti : (l.take i).length = i := by simp; omega
          have hput := writer_Put wr (w.heap.size + 1) p E F (l.take i) (nth l i) h64 hz hE1 hE2 hF1 hF2 (hT.below hbl) (by omega) hwr
          obtain ⟨b, hb⟩ : ∃ b, b = nth l i := ⟨_, rfl⟩
          rw [← hb] at hx hput h64 HTK
          by_cases hfit : fitE E F b = 0
          · have e : PutAns wr (w.heap.size + 1) p E F (l.take i) b = fun en w' => en = .returned (.int .i64 0) ∧ Wr w' (w.heap.size + 1) p E F (l.take i ++ [b]) ∧ Below (w.heap.size + 1) wr w' := by
              funext en w'; unfold PutAns; rw [if_pos ⟨hfit, by rw [hti]; omega⟩]
            rw [e] at hput
            clear e hcell hb hti hfit
            go_wp2_with fail
            refine hput.mono ?_
            rintro r w3 ⟨rfl, hwr3, hb3⟩
            rw [← HTK.out] at hwr3
            have hz3 := hb3.size
            have hbl3 := hbl.trans (hb3.mono (by omega))
            go_wp2
            go_roundw
            case rel => exact ⟨i + 1, hi1, vi (by omega), hwr3, by omega, hbl3⟩
            case measure => first | (simp [intOf]; done) | (simp [intOf]; omega)
          · have e : PutAns wr (w.heap.size + 1) p E F (l.take i) b = fun en w' => en = .returned (.int .i64 6) ∧ Below wr.heap.size wr w' := by
              funext en w'; unfold PutAns
              rw [if_neg (fun h => hfit h.1), if_neg hfit]
              have h6 : fitE (E : Int) (F : Int) b = 6 := by
                unfold fitE at hfit ⊢
                rw [if_pos HC.out] at hfit ⊢
                unfold fitF at hfit ⊢
                split
                · rfl
                · rename_i h; rw [if_neg h] at hfit; exact absurd rfl hfit
              rw [h6]
            rw [e] at hput
            have hr6 : rowErr (E : Int) (F : Int) l = 6 := by
              rw [HR.out, if_neg]
              intro hall
              have h1 := hall (nth l i) (by rw [nth_lt _ hi1]; exact List.getElem_mem hi1)
              rw [← hb] at h1
              exact hfit ((fit_lt ⟨hE1, hE2⟩ ⟨hF1, hF2⟩).2 h1)
            have HR6 := Lib.hid hr6
            clear e hcell hb hti hfit hr6
            go_wp2_with fail
            refine hput.mono ?_
            rintro r w3 ⟨rfl, hb3⟩
            have hbl3 := hbl.trans (hb3.mono (by omega))
            go_wp2
            go_ret2
            exact .inr ⟨by rw [HR6.out]; decide, by rw [HR6.out]; rfl, hbl3⟩
        · obtain rfl : i = l.length := by omega
          rw [List.take_length] at hwr
          have hg2 : decide (((l.length : Nat) : Int) < ((l.length : Nat) : Int)) = false := by simp
          have hr0 : rowErr (E : Int) (F : Int) l = 0 := by
            rw [HR.out, if_pos]
            obtain ⟨cv, _, _, _, hall, _⟩ := hwr
            exact hall
          have HR0 := Lib.hid hr0
          clear hr0
          go_wp2
          go_ret2
          obtain ⟨cv, k1, k2, k3, k4⟩ := hwr
          refine .inl ⟨HR0.out, p, rfl, ⟨cv, ?_, ?_, by omega, ?_⟩, hbl⟩
          · rw [Int.toNat_natCast, Int.toNat_natCast]; exact k1
          · rw [Int.toNat_natCast, Int.toNat_natCast]
            exact k2.base (by omega)
          · rw [Int.toNat_natCast, Int.toNat_natCast]; exact k4
  · have hr : rowErr e f l = 5 := by unfold rowErr; rw [if_pos hc]
    have HR := Lib.hid hr
    have HC := Lib.hid hc
    clear hr hc
    go_enter Tryd.func30, Tryd.ntmps30
    go_wp2_with fail
    refine (pack_New _ _ _).mono ?_
    rintro r w1 hna
    unfold NewAns at hna
    rw [if_neg HC.out] at hna
    obtain ⟨rfl, hb1⟩ := hna
    go_wp2
    go_ret2
    exact .inr ⟨by rw [HR.out]; decide, by rw [HR.out]; rfl, (((Below.refl _ _).alloc (Nat.le_refl _) _).trans (hb1.mono (by simp)))⟩
end Go.Proofs.YtefhannaofknnaaDoor
