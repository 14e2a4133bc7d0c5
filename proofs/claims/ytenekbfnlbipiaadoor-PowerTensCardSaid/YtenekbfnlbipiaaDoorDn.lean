/- Walks: the document's down and both packages' Down. -/
import Derived.Test.YtenekbfnlbipiaaDoorShf
import Derived.Test.YtenekbfnlbipiaaDoorE
import Derived.Test.YtenekbfnlbipiaaDoorPl2
import Derived.Test.YtenekbfnlbipiaaDoorN
namespace Go.Proofs.YtenekbfnlbipiaaDoor
open Go.RowKit
set_option linter.unusedVariables false
set_option linter.unusedSimpArgs false
set_option maxHeartbeats 4000000
set_option maxRecDepth 100000

/-- A number over a power of two, or the fault. -/
def downS (l : List Nat) (n : Int) : List Nat × Int := if chk l = 0 then if n < 0 then ([], 2) else (limbs (val l / 2 ^ n.toNat), 0) else ([], chk l)
theorem down_split (v m j : Nat) : v / 2 ^ (m % 32) / 4294967296 ^ (m / 32 + j) = v / 2 ^ m / 4294967296 ^ j := by
  rw [Nat.pow_add, ← Nat.div_div_eq_div_mul]
  congr 1
  rw [Nat.div_div_eq_div_mul]
  congr 1
  have : 4294967296 ^ (m / 32) = 2 ^ (32 * (m / 32)) := by rw [Nat.pow_mul]
  rw [this, ← Nat.pow_add]
  congr 1
  omega
theorem down_zero {l : List Nat} (h : Sm l) {m : Nat} (hm : l.length ≤ m / 32) : val l / 2 ^ m = 0 := by
  refine Nat.div_eq_of_lt (Nat.lt_of_lt_of_le (val_lt h) ?_)
  rw [show 4294967296 = 2 ^ 32 from rfl, ← Nat.pow_mul]
  exact Nat.pow_le_pow_right (by decide) (by omega)
theorem down_lt {l : List Nat} (h : Sm l) {m : Nat} (hm : m / 32 ≤ l.length) : val l / 2 ^ m < 4294967296 ^ (l.length - m / 32) := by
  rw [Nat.div_lt_iff_lt_mul (Nat.two_pow_pos m)]
  refine Nat.lt_of_lt_of_le (val_lt h) ?_
  rw [show 4294967296 = 2 ^ 32 from rfl, ← Nat.pow_mul, ← Nat.pow_mul, ← Nat.pow_add]
  exact Nat.pow_le_pow_right (by decide) (by omega)

theorem ref_down (A : Option Addr) (l : List Nat) (n c : Nat) (hn : n = l.length) (m : Nat) (hm : m ≤ 9223372036854775807) (hl16 : l.length ≤ 1000000) (w : World) (h : Rd w A l) :
    Calls Tryd.prog 57 #[.slice A n c, .int .i64 (m : Int)] w (LimbsOne w (val l / 2 ^ m)) := by
  subst hn
  go_enter Tryd.func57, Tryd.ntmps57
  go_wp2
  go_loopw [5, 6] (fun v i wr => ∃ (k : Nat) (o : List Nat), (m / 32 + k ≤ l.length ∨ k = 0) ∧ i = .int .i64 (((m / 32 + k : Nat)) : Int) ∧ o.length = k ∧ Sm o ∧ (∀ j, j < k → nth o j = val l / 2 ^ m / 4294967296 ^ j % 4294967296) ∧ OwnR wr w.heap.size 90 .u32 v o ∧ Below w.heap.size w wr) (fun _ i _ => l.length - (intOf i).toNat)
  case atStart =>
    exact ⟨0, [], .inr rfl, vi (by omega), rfl, Sm.nil, fun j hj => by omega, OwnR.nil _ _ _ _, Below.refl _ _⟩
  case round =>
    obtain ⟨k, o, hk, rfl, hol, hos, hoj, hown, hbl⟩ := hrel
    have HOL := Lib.hid hol
    have HOJ := Lib.hid hoj
    have HK := Lib.hid hk
    clear hol hoj hk
    by_cases hlt : m / 32 + k < l.length
    · have hrd := h.below hbl
      have ha := h.sm.nth (m / 32 + k + 1)
      have hx := h.sm.nth (m / 32 + k)
      have hor : bits BinOp.or IntKind.u64 ((nth l (m / 32 + k) : Nat) : Int) (((nth l (m / 32 + k + 1) : Nat) : Int) * 4294967296) = ((nth l (m / 32 + k + 1) * 4294967296 + nth l (m / 32 + k) : Nat) : Int) := by
        have e : (((nth l (m / 32 + k + 1) : Nat) : Int) * 4294967296) = ((nth l (m / 32 + k + 1) * 4294967296 : Nat) : Int) := by omega
        rw [e, u64_or_nat _ _ (by omega) (by omega), Nat.or_comm]
        have := Nat.two_pow_add_eq_or_of_lt (i := 32) (b := nth l (m / 32 + k)) hx (nth l (m / 32 + k + 1))
        rw [show nth l (m / 32 + k + 1) * 4294967296 = 2 ^ 32 * nth l (m / 32 + k + 1) from by omega, ← this]
      obtain ⟨P, hP⟩ : ∃ P : Nat, P = nth l (m / 32 + k + 1) * 4294967296 + nth l (m / 32 + k) := ⟨_, rfl⟩
      rw [← hP] at hor
      have hPb : P < 18446744073709551616 := by omega
      have HP := Lib.hid hP
      clear hP
      obtain ⟨q, hq⟩ : ∃ q : Nat, q = m / 32 + k := ⟨_, rfl⟩
      rw [← hq] at hor ha hx hlt ⊢
      have HQ := Lib.hid hq
      clear hq
      go_wp2_with fail
      refine (ref_limb A l _ c rfl (q : Int) (by omega) _ hrd).mono ?_
      rintro e w1 ⟨rfl, rfl⟩
      rw [Int.toNat_natCast]
      go_wp2_with fail
      refine (ref_limb A l _ c rfl ((q : Int) + 1) (by omega) _ hrd).mono ?_
      rintro e w1 ⟨rfl, rfl⟩
      rw [show ((q : Int) + 1).toNat = q + 1 from by omega]
      go_wp2_with (at_builtin; refine wpList_app elem32 rfl _ _ rfl (hown.alloc _) rfl ⟨_, 0, none⟩ rfl (P / 2 ^ (m % 32) % 4294967296) ?c1 ?c2 ?c3 (fun v' w' hown' hgr hbb => ?_))
      case c1 =>
        rw [← cast_shr]
        simp [go_sem]
      case c2 => have := HOL.out; have := HQ.out; omega
      case c3 => have := hbl.size; simp; omega
      go_roundw
      case rel =>
        have st := low_step h.sm q (m % 32) (by omega)
        have hP := HP.out
        rw [← HQ.out] at hP
        rw [← hP, HQ.out, down_split] at st
        refine ⟨k + 1, o ++ [P / 2 ^ (m % 32) % 4294967296], .inl (by have := HQ.out; omega), vi (by have := HQ.out; omega), by simp [HOL.out], hos.append (Sm.cons (Nat.mod_lt _ (by decide)) Sm.nil), ?_, hown', (hbl.alloc hbl.size _).trans hbb⟩
        intro j hj
        by_cases hjk : j = k
        · subst hjk
          rw [nth_lt _ (by simp [HOL.out])]
          rw [List.getElem_append_right (by rw [HOL.out]; omega)]
          simp only [HOL.out, Nat.sub_self, List.getElem_cons_zero]
          exact st
        · rw [nth_lt _ (by simp [HOL.out]; omega), List.getElem_append_left (by rw [HOL.out]; omega), ← nth_lt]
          exact HOJ.out j (by omega)
      case measure => have := HQ.out; first | (simp [intOf]; done) | (simp [intOf]; omega)
    · have hv : val o = val l / 2 ^ m := by
        rcases HK.out with h1 | h1
        · refine val_of_nth hos ?_ fun j hj => HOJ.out j (by rw [← HOL.out]; exact hj)
          rw [HOL.out]
          have := down_lt h.sm (m := m) (by omega)
          rw [show k = l.length - m / 32 from by omega]; exact this
        · have : o = [] := List.eq_nil_of_length_eq_zero (by rw [HOL.out, h1])
          rw [this, down_zero h.sm (by omega)]; rfl
      have HV := Lib.hid hv
      clear hv
      obtain ⟨A', c', rfl, hnc, ho⟩ := hown.own hos (by rw [HOL.out]; have := HK.out; omega)
      go_wp2_with fail
      refine (ref_Trim _ _ _ _ rfl hnc _ ho.rd).mono ?_
      rintro e w1 ⟨rfl, rfl⟩
      go_wp2
      go_ret
      have ho2 := ho.trim
      have hle := limbs_length_le hos
      rw [HV.out] at ho2 hle
      exact ⟨_, _, by rw [← HV.out]; rfl, by omega, ho2, hbl⟩
end Go.Proofs.YtenekbfnlbipiaaDoor
