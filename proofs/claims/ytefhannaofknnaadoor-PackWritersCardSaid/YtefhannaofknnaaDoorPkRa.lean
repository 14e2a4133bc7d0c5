/- Walks of the document's pack: number, worth, width. -/
import Derived.Test.YtefhannaofknnaaDoorPkTA
namespace Go.Proofs.YtefhannaofknnaaDoor
open Go.RowKit
set_option linter.unusedVariables false
set_option linter.unusedSimpArgs false
set_option maxHeartbeats 4000000
set_option maxRecDepth 100000

theorem make8 (n : Nat) (hn : n ≤ 35184372088832) (w : World) :
    (Instr.makeSlice 53 (.int .i64 (n : Int)) (.int .i64 (n : Int))).run Tryd.prog w = .ok (.slice (some ⟨w.heap.size, 0, none⟩) n n) (w.alloc (.cells (ints .u8 (List.replicate n 0)).toArray 5)) := by
  obtain ⟨i, hi, hz, hs, hb⟩ := infoP (P := Tryd.prog) (e := 5) (z := some (.int .u8 0)) (s := 1) (b := 1) (by kernel_rfl)
  exact run_makeK (P := Tryd.prog) 53 5 .u8 i (by kernel_rfl) hi hz hs (by omega) n (n : Int) rfl hn w
/-- A row of one's own as a slice. -/
theorem RowK.own {w : World} {t : TypeId} {k : IntKind} {g B : Nat} {l : List Nat} (h : RowK w t k g l) (hB : B ≤ g) (hl : l.length ≤ 1000000000000) : OwnR w B t k (.slice (some ⟨g, 0, none⟩) l.length l.length) l := by
  refine ⟨by simp, .inr ⟨g, l.length, (ints k l).toArray, rfl, hB, h, Nat.le_refl _, by unfold maxLen; omega, by simp, ?_⟩⟩
  show ((ints k l).toArray.toList).take (l.length * 1) = ints k l
  rw [Nat.mul_one]
  exact List.take_of_length_le (by simp)
theorem set_bit (n q k : Nat) : (List.replicate (q + 1) 0 ++ nb n k).set q (n / 2 ^ k % 2) = List.replicate q 0 ++ nb n (k + 1) := by
  rw [List.replicate_succ', List.append_assoc, Nat.add_comm k 1, nb_add]
  simp [nb, List.set_append]
/-- What a function answers that makes a list of bits. -/
def BitsAns (w : World) (l : List Nat) (en : Ending) (w' : World) : Prop :=
  ∃ v, en = .returned v ∧ OwnR w' w.heap.size 5 .u8 v l ∧ Below w.heap.size w w'
theorem ref_number (n size : Nat) (h64 : n < 18446744073709551616) (hs : size ≤ 64) (N S : Int) (hN : N = (n : Int)) (hS : S = (size : Int)) (w : World) :
    Calls Tryd.prog 46 #[.int .u64 N, .int .i64 S] w (BitsAns w (nb n size)) := by
  subst hN hS
  have hmk := make8 size (by omega) w
  go_enter Tryd.func46, Tryd.ntmps46
  go_wp2_with (simp only [hmk])
  have hr0 : RowK (w.alloc (.cells (ints .u8 (List.replicate size 0)).toArray 5)) 5 .u8 w.heap.size (List.replicate size 0) := rowK_new rfl rfl
  have hb0 : Below w.heap.size w (w.alloc (.cells (ints .u8 (List.replicate size 0)).toArray 5)) := (Below.refl _ _).alloc (Nat.le_refl _) _
  have hz0 : w.heap.size < (w.alloc (.cells (ints .u8 (List.replicate size 0)).toArray 5)).heap.size := by simp
  generalize w.alloc (.cells (ints .u8 (List.replicate size 0)).toArray 5) = w1 at *
  clear hmk
  go_loopw [0, 6] (fun v0 v6 wr => ∃ i k : Nat, i + k = size ∧ v0 = .int .u64 ((n / 2 ^ k : Nat) : Int) ∧ v6 = .int .i64 ((i : Int) - 1) ∧ RowK wr 5 .u8 w.heap.size (List.replicate i 0 ++ nb n k) ∧ Below w.heap.size w wr ∧ w.heap.size < wr.heap.size) (fun _ v6 _ => (intOf v6 + 1).toNat)
  case atStart => exact ⟨size, 0, rfl, by simp, by simp, by simpa [nb] using hr0, hb0, hz0⟩
  case round =>
    clear hr0 hb0 hz0
    obtain ⟨i, k, hik, rfl, rfl, hr, hbl, hz⟩ := hrel
    rcases Nat.eq_zero_or_pos i with rfl | hip
    · obtain rfl : k = size := by omega
      go_wp2
      go_ret
      have ho := hr.own (Nat.le_refl _) (by simp; omega)
      simp only [List.replicate_zero, List.nil_append, nb_length] at ho
      exact ⟨_, rfl, ho, hbl⟩
    · obtain ⟨q, rfl⟩ : ∃ q, i = q + 1 := ⟨i - 1, by omega⟩
      have hx := hr.frozen q
      have hlen : (List.replicate (q + 1) 0 ++ nb n k).length = size := by simp; omega
      have hc := hr.cell q (by omega)
      have hq : ((q + 1 : Nat) : Int) - 1 = (q : Int) := by omega
      rw [hq]
      have hq1 : (0 : Int) ≤ (q : Int) := by omega
      have hq2 : (q : Int) < (size : Int) := by omega
      have hset := set_bit n q k
      have hd : n / 2 ^ (k + 1) = n / 2 ^ k / 2 := by rw [Nat.pow_succ, Nat.div_div_eq_div_mul]
      have hn64 : n / 2 ^ k < 18446744073709551616 := Nat.lt_of_le_of_lt (Nat.div_le_self _ _) h64
      generalize n / 2 ^ k = m at hset hd hn64
      have HS := Lib.hid hset
      have HD := Lib.hid hd
      have hm : IntKind.u8.wrap ((m : Int) % 2) = ((m % 2 : Nat) : Int) := by rw [IntKind.wrap_u8]; omega
      clear hlen hset hd hq hip
      go_wp2
      go_roundw
      case rel =>
        refine ⟨q, k + 1, by omega, vi (by rw [HD.out]; omega), by simp, ?_, hbl.setCell (Nat.le_refl _) _, by simpa using hz⟩
        rw [← HS.out]
        exact hr.setE q (m % 2) (by omega)
      case measure => exact meas_down q
theorem ref_width (e f : Int) (W : Nat) (he : 0 ≤ e ∧ e ≤ 100) (hf : 0 ≤ f ∧ f ≤ 100) (hW : (W : Int) = 1 + e + f) (w : World) :
    Calls Tryd.prog 47 #[.agg #[.int .i64 e, .int .i64 f]] w (Says w (.int .i64 (W : Int))) := by
  rw [hW]
  clear hW
  obtain ⟨h1, h2⟩ := he
  obtain ⟨h3, h4⟩ := hf
  go_enter Tryd.func47, Tryd.ntmps47
  go_wp2
  go_ret
  exact ⟨rfl, (Below.refl _ _).alloc (Nat.le_refl _) _⟩
theorem ref_worth (A : Option Addr) (l : List Nat) (n c : Nat) (hn : n = l.length) (hb : Bs l) (hl : l.length ≤ 64) (w : World) (hrd : RdK .u8 w A l) :
    Calls Tryd.prog 45 #[.slice A n c] w (Says w (.int .u64 ((wv l : Nat) : Int))) := by
  subst hn
  go_enter Tryd.func45, Tryd.ntmps45
  go_wp2
  go_loopw [3, 4] (fun v3 v4 wx => ∃ i : Nat, i ≤ l.length ∧ v3 = .int .u64 ((wv (l.take i) : Nat) : Int) ∧ v4 = .int .i64 (i : Int) ∧ wx = w) (fun _ v4 _ => l.length - (intOf v4).toNat)
  case atStart => exact ⟨0, Nat.zero_le _, rfl, rfl, rfl⟩
  case round =>
    obtain ⟨i, hi, rfl, rfl, rfl⟩ := hrel
    by_cases hi1 : i < l.length
    · obtain ⟨b0, off, rfl, hcell⟩ := hrd (by omega)
      have hx := hcell i hi1
      have hbx := hb.nth i
      have hlt := wv_lt (hb.take (i + 1))
      have hsn : wv (l.take (i + 1)) = 2 * wv (l.take i) + nth l i := by rw [take_snoc l i hi1, wv_snoc]
      have hp : 2 ^ (l.take (i + 1)).length ≤ 18446744073709551616 := Nat.pow_le_pow_right (n := 2) (j := 64) (by decide) (by rw [List.length_take]; omega)
      have hlt2 : 2 * wv (l.take i) + nth l i < 18446744073709551616 := by rw [← hsn]; omega
      have HS := Lib.hid hsn
      generalize wv (l.take i) = v at hlt2 HS
      generalize nth l i = b at hx hbx hlt2 HS
      have hg9 : decide (((i : Nat) : Int) < ((l.length : Nat) : Int)) = true := by simp; omega
      have hw1 : IntKind.u64.wrap (b : Int) = (b : Int) := by rw [IntKind.wrap_u64]; omega
      have hw2 : IntKind.u64.wrap ((v : Int) * 2) = (v : Int) * 2 := by rw [IntKind.wrap_u64]; omega
      have hw3 : IntKind.u64.wrap ((v : Int) * 2 + (b : Int)) = (v : Int) * 2 + (b : Int) := by rw [IntKind.wrap_u64]; omega
      clear hcell hlt hp hsn
      go_wp2
      go_roundw
      case rel => exact ⟨i + 1, hi1, by rw [HS.out]; simp only [Value.int.injEq, true_and]; omega, vi (by omega), by simp⟩
      case measure => first | (simp [intOf]; done) | (simp [intOf]; omega)
    · obtain rfl : i = l.length := by omega
      rw [List.take_length]
      go_wp2
      go_ret
      exact ⟨rfl, Below.refl _ _⟩
end Go.Proofs.YtefhannaofknnaaDoor
