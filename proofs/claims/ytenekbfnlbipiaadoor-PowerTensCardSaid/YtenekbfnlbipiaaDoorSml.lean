/- Walk: a list over a small number, the program's. -/
import Derived.Test.YtenekbfnlbipiaaDoorD
import Derived.Test.YtenekbfnlbipiaaDoorBits
namespace Go.Proofs.YtenekbfnlbipiaaDoor
open Go.RowKit
set_option linter.unusedVariables false
set_option linter.unusedSimpArgs false
set_option maxHeartbeats 4000000
set_option maxRecDepth 100000

/-- What small answers. -/
def SmallPost (l : List Nat) (d : Nat) (w : World) (e : Ending) (w' : World) : Prop :=
  ∃ o g, o.length = l.length ∧ Sm o ∧ val o = val l / d ∧ e = .returned (.tuple #[.slice (some ⟨g, 0, none⟩) l.length l.length, .int .u32 ((val l % d : Nat) : Int)]) ∧ w.heap.size ≤ g ∧ Row w' 90 g o ∧ Below w.heap.size w w'

theorem nat_small (A : Option Addr) (l : List Nat) (n c : Nat) (hn : n = l.length) (hl16 : l.length ≤ 1000000) (d : Nat) (D : Int) (hD : D = (d : Int)) (hd0 : 0 < d) (hd : d < 4294967296) (w : World) (h : Rd w A l) :
    Calls Tryd.prog 82 #[.slice A n c, .int .u32 D] w (SmallPost l d w) := by
  subst hn hD
  have hmk := fun W => mk32 l.length (l.length : Int) rfl (by omega) W
  go_enter Tryd.func82, Tryd.ntmps82
  go_wp2
  go_loopw [7, 8] (fun r i wr => ∃ (k : Nat) (o : List Nat) (q : Nat), k ≤ l.length ∧ i = .int .i64 ((k : Int) - 1) ∧ r = .int .u32 (q : Int) ∧ q < d ∧ o.length = l.length ∧ Sm o ∧ val (l.drop k) = d * val (o.drop k) + q ∧ Row wr 90 w.heap.size o ∧ Below w.heap.size w wr) (fun _ i _ => (intOf i + 1).toNat)
  case atStart =>
    refine ⟨l.length, List.replicate l.length 0, 0, Nat.le_refl _, rfl, rfl, hd0, by simp, Sm.replicate _, ?_, row_new rfl rfl, (by repeat' (first | (with_reducible assumption) | (with_reducible exact Below.refl _ _) | (with_reducible refine bdn ?_ _) | (with_reducible refine Below.drew ?_) | (with_reducible refine Below.setCell ?_ ?_ _) | (with_reducible refine Below.alloc ?_ ?_ _) | go_size))⟩
    rw [List.drop_length, List.drop_of_length_le (by simp)]; rfl
  case round =>
    obtain ⟨wo, rfl⟩ : ∃ wo : World, wo = wr := ⟨_, rfl⟩
    obtain ⟨k, o, q, hk, rfl, rfl, hq, hlen, hso, hv, hrow, hbl⟩ := hrel
    have HV := Lib.hid hv
    have HLEN := Lib.hid hlen
    clear hv hlen
    by_cases hk0 : k = 0
    · subst hk0
      have E := Lib.hid (over_div HV.out hq)
      go_wp2
      go_ret2
      exact ⟨o, _, HLEN.out, hso, E.out.1, by rw [← E.out.2]; rfl, Nat.le_refl _, hrow, hbl⟩
    · obtain ⟨k, rfl⟩ : ∃ j, k = j + 1 := ⟨k - 1, by omega⟩
      obtain ⟨b, off, rfl, hc1⟩ := rd_at h hbl (k := k) (by omega)
      have hlt := h.sm.nth k
      have hcw := hrow.cell k (by rw [HLEN.out]; omega)
      have hfz := hrow.frozen k
      go_wp2_with fail
      refine (bits_Div32 _ _ _ q (nth l k) d rfl rfl rfl hq hlt hd _).mono ?_
      rintro e w1 ⟨rfl, hb1⟩
      have hrow1 := hrow.below hb1 hrow.lt
      have hbw1 := hbl.trans (hb1.mono hbl.size)
      have hcw1 := hrow1.cell k (by rw [HLEN.out]; omega)
      have hfz1 := hrow1.frozen k
      go_wp2
      go_roundw
      case rel => 
        refine ⟨k, o.set k ((q * 4294967296 + nth l k) / d), (q * 4294967296 + nth l k) % d, by omega, by go_num, rfl, Nat.mod_lt _ hd0, by simp [HLEN.out], hso.set _ _ (by rw [Nat.div_lt_iff_lt_mul hd0, Nat.mul_comm]; have := Nat.mul_le_mul_left 4294967296 (show q + 1 ≤ d from hq); omega), ?_, hrow1.setE _ _ rfl, (by repeat' (first | (with_reducible assumption) | (with_reducible exact Below.refl _ _) | (with_reducible refine bdn ?_ _) | (with_reducible refine Below.drew ?_) | (with_reducible refine Below.setCell ?_ ?_ _) | (with_reducible refine Below.alloc ?_ ?_ _) | go_size))⟩
        exact over_step (by rw [HLEN.out]; omega) hd0 HV.out
      case measure => first | (simp [intOf]; done) | (simp [intOf]; omega)

end Go.Proofs.YtenekbfnlbipiaaDoor
