/- Walks: a list times a power of two. -/
import Derived.Test.YtenekbfnlbipiaaDoorD
namespace Go.Proofs.YtenekbfnlbipiaaDoor
open Go.RowKit
set_option linter.unusedVariables false
set_option linter.unusedSimpArgs false
set_option maxHeartbeats 4000000
set_option maxRecDepth 100000

/-! ### a list times a power of two -/
theorem shl_or (x q r : Nat) (hx : x < 4294967296) (hr : r < 32) (hq : q < 2 ^ r) : bits BinOp.or IntKind.u64 (IntKind.u64.wrap ((x : Int) * 2 ^ r)) (q : Int) = ((x * 2 ^ r + q : Nat) : Int) := by
  have h1 : 2 ^ r ≤ 2 ^ 31 := Nat.pow_le_pow_right (by decide) (by omega)
  have h2 : x * 2 ^ r ≤ 4294967295 * 2 ^ 31 := Nat.mul_le_mul (by omega) h1
  have h3 : ((x : Int) * 2 ^ r) = ((x * 2 ^ r : Nat) : Int) := by push_cast; rfl
  have h4 : IntKind.u64.wrap ((x * 2 ^ r : Nat) : Int) = ((x * 2 ^ r : Nat) : Int) := by rw [IntKind.wrap_u64]; omega
  rw [h3, h4, u64_or_nat _ _ (by omega) (by omega)]
  have := Nat.two_pow_add_eq_or_of_lt (i := r) (b := q) hq x
  rw [Nat.mul_comm x, ← this]
theorem ref_up (A : Option Addr) (l : List Nat) (n c : Nat) (hn : n = l.length) (m : Nat) (hm : m ≤ 524288) (hl16 : l.length ≤ 1000000) (w : World) (h : Rd w A l) :
    Calls Tryd.prog 59 #[.slice A n c, .int .i64 (m : Int)] w fun e w' => ∃ A c, e = .returned (.slice A (limbs (val l * 2 ^ m)).length c) ∧ Own w' 90 w.heap.size A c (limbs (val l * 2 ^ m)) ∧ Below w.heap.size w w' := by
  subst hn
  by_cases h0 : 0 < l.length
  · have hmk := fun W => mk32 (m / 32) ((m : Int) / 32) (by omega) (by omega) W
    have h2 : ((l.length : Int) == 0) = false := by rw [beq_eq_false_iff_ne]; omega
    go_enter Tryd.func59, Tryd.ntmps59
    go_wp2
    go_loopw [5, 6, 7] (fun v cy i wr => ∃ (k : Nat) (o : List Nat) (q : Nat), k ≤ l.length ∧ i = .int .i64 (k : Int) ∧ cy = .int .u64 (q : Int) ∧ q < 2 ^ (m % 32) ∧ o.length = m / 32 + k ∧ Sm o ∧ val o + 4294967296 ^ (m / 32 + k) * q = 4294967296 ^ (m / 32) * (val (l.take k) * 2 ^ (m % 32)) ∧ OwnR wr w.heap.size 90 .u32 v o ∧ Below w.heap.size w wr) (fun _ _ i _ => l.length - (intOf i).toNat)
    case atStart =>
      refine ⟨0, List.replicate (m / 32) 0, 0, Nat.zero_le _, rfl, rfl, Nat.two_pow_pos _, by simp, Sm.replicate _, ?_, OwnR.made (Nat.le_refl _) (by omega), (by repeat' (first | (with_reducible assumption) | (with_reducible exact Below.refl _ _) | (with_reducible refine bdn ?_ _) | (with_reducible refine Below.drew ?_) | (with_reducible refine Below.setCell ?_ ?_ _) | (with_reducible refine Below.alloc ?_ ?_ _) | go_size))⟩
      rw [val_replicate]; simp [val]
    case round =>
      obtain ⟨k, o, q, hk, rfl, rfl, hq, hlen, hso, hv, hown, hbl⟩ := hrel
      have HV := Lib.hid hv
      have HLEN := Lib.hid hlen
      clear hv hlen
      by_cases hk1 : k < l.length
      · obtain ⟨b, off, rfl, hc1⟩ := rd_at h hbl hk1
        have hlt := h.sm.nth k
        have hY : (nth l k * 2 ^ (m % 32) + q) % 4294967296 < 4294967296 := Nat.mod_lt _ (by decide)
        go_wp2_with (at_builtin; refine wpList_app elem32 rfl _ _ rfl (hown.alloc _) rfl ⟨wr.heap.size, 0, none⟩ rfl ((nth l k * 2 ^ (m % 32) + q) % 4294967296) ?c1 ?c2 ?c3 (fun v' w' hown' hgr hbb => ?_))
        case c1 =>
          rw [shl_or _ _ _ hlt (by omega) hq]
          simp [go_sem]
        case c2 => have := HLEN.out; omega
        case c3 => have := hbl.size; simp; omega
        go_roundw
        case rel =>
          exact ⟨k + 1, _, _, by omega, by go_num, vi (by rw [shl_or _ _ _ hlt (by omega) hq]; rfl), up_bound hlt hq, by rw [List.length_append, HLEN.out]; rfl, hso.append (Sm.cons (Nat.mod_lt _ (by decide)) Sm.nil), up_step HLEN.out HV.out, hown', (hbl.alloc hbl.size _).trans hbb⟩
        case measure => first | (simp [intOf]; done) | (simp [intOf]; omega)
      · have hkl : k = l.length := by omega
        have hq31 : 2 ^ (m % 32) ≤ 2 ^ 31 := Nat.pow_le_pow_right (by decide) (by omega)
        have hq32 : q < 4294967296 := by omega
        have hfin : val (o ++ [q]) = val l * 2 ^ m := by
          have := HV.out
          rw [hkl, List.take_length, up_end] at this
          rw [val_append, HLEN.out, ← this, hkl]; rfl
        have hs2 : Sm (o ++ [q]) := hso.append (Sm.cons hq32 Sm.nil)
        have HF := Lib.hid hfin
        have HKL := Lib.hid hkl
        clear hfin hkl
        go_wp2_with (at_builtin; refine wpList_app elem32 rfl _ _ rfl (hown.alloc _) rfl ⟨wr.heap.size, 0, none⟩ rfl q ?c1 ?c2 ?c3 (fun v' w' hown' hgr hbb => ?_))
        case c1 => simp [go_sem]
        case c2 => have := HLEN.out; omega
        case c3 => have := hbl.size; simp; omega
        obtain ⟨A', c', rfl, hnc, ho⟩ := hown'.own hs2 (by have := HLEN.out; simp; omega)
        refine (ref_Trim _ _ _ _ rfl hnc _ ho.rd).mono ?_
        rintro e w1 ⟨rfl, rfl⟩
        go_wp2
        go_ret
        have ho2 := ho.trim
        rw [HF.out] at ho2
        exact ⟨_, _, by rw [← HF.out]; rfl, ho2, (hbl.alloc hbl.size _).trans hbb⟩
  · have hl0 : l = [] := List.eq_nil_of_length_eq_zero (by omega)
    subst hl0
    have e : limbs (val [] * 2 ^ m) = [] := by rw [show val [] = 0 from rfl, Nat.zero_mul]; rfl
    rw [e]
    go_enter Tryd.func59, Tryd.ntmps59
    go_wp2
    go_ret
    exact ⟨_, _, rfl, Own.nil _ _ _, Below.refl _ _⟩
end Go.Proofs.YtenekbfnlbipiaaDoor
