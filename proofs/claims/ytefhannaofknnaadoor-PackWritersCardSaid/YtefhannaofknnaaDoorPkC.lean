/- Walk: take: bits out of a sheet. -/
import Derived.Test.YtefhannaofknnaaDoorPkA
namespace Go.Proofs.YtefhannaofknnaaDoor
open Go.RowKit
set_option linter.unusedVariables false
set_option linter.unusedSimpArgs false
set_option maxHeartbeats 4000000
set_option maxRecDepth 100000

theorem or_last : ∀ (a b : Nat), a < 9223372036854775808 → b < 2 → bits BinOp.or IntKind.u64 ((2 * a : Nat) : Int) (b : Int) = ((2 * a + b : Nat) : Int) := by
  intro a b ha hb
  rw [u64_or_nat _ _ (by omega) (by omega)]
  congr 1
  have := Nat.two_pow_add_eq_or_of_lt (i := 1) (b := b) (by simpa using hb) a
  simpa using this.symm
theorem shr_byte (P : Program) (x r : Nat) (hr : r < 8) (W : World) : (Op.shift BinOp.shr IntKind.u8 (x : Int) IntKind.i64 (IntKind.i64.wrap (IntKind.i64.wrap 7 - (r : Int)))).run P W = .ok (.int .u8 ((x / 2 ^ (7 - r) : Nat) : Int)) W := by
  have key : ∀ n : Nat, ((x : Int)).fdiv (2 ^ n) = ((x / 2 ^ n : Nat) : Int) := by
    intro n
    rw [Int.fdiv_eq_ediv_of_nonneg _ (Int.pow_nonneg (by decide))]
    simp
  rcases (show r = 0 ∨ r = 1 ∨ r = 2 ∨ r = 3 ∨ r = 4 ∨ r = 5 ∨ r = 6 ∨ r = 7 by omega) with rfl | rfl | rfl | rfl | rfl | rfl | rfl | rfl <;> (rw [← key]; rfl)
theorem and_byte (x : Nat) (h : x < 256) : bits BinOp.and IntKind.u8 (x : Int) 1 = ((x % 2 : Nat) : Int) := by
  have : ∀ y : Fin 256, bits BinOp.and IntKind.u8 (y.val : Int) 1 = ((y.val % 2 : Nat) : Int) := by decide +kernel
  exact this ⟨x, h⟩
/-- Bytes that hold the bits Bt. -/
def Holds8 (s Bt : List Nat) : Prop := ∀ i, i < Bt.length → i / 8 < s.length ∧ bt s i = nth Bt i
theorem take_snoc (l : List Nat) (j : Nat) (h : j < l.length) : l.take (j + 1) = l.take j ++ [nth l j] := by
  rw [nth_lt _ h]; exact (List.take_append_getElem h).symm
theorem sheet_takeQ (p k : Nat) (t : TypeId) (cs : Array Value) (A : Option Addr) (c : Nat) (s Bt : List Nat) (a count : Nat) (w : World) (hblk : Blk w p t cs) (h0 : cs[k]? = some (.slice A s.length c)) (h1 : cs[k + 1]? = some (.int .i64 8)) (hrd : RdK .u8 w A s)
    (hs : ∀ x ∈ s, x < 256) (hb : Bs Bt) (hh : Holds8 s Bt) (hle : a + count ≤ Bt.length) (hc : count ≤ 64) (hlen : Bt.length ≤ 8000000000000) :
    Calls Tryd.prog 40 #[.pointer (some ⟨p, k, none⟩), .int .i64 (a : Int), .int .i64 (count : Int)] w fun e w' => e = .returned (.int .u64 ((wv ((Bt.drop a).take count) : Nat) : Int)) ∧ ∃ z, w' = w.drewN z := by
  have d0 := (hblk.cell k).trans h0
  have d1 := (hblk.cell (k + 1)).trans h1
  have hlb : Bs (Bt.drop a) := hb.drop a
  have hll : (Bt.drop a).length = Bt.length - a := List.length_drop
  have HLL := Lib.hid hll
  have HLE := Lib.hid hle
  clear hll h0 h1
  go_enter Tryd.func40, Tryd.ntmps40
  go_wp2
  go_loopw [7, 10] (fun v7 v10 wr => ∃ j : Nat, j ≤ count ∧ v10 = .int .i64 (j : Int) ∧ v7 = .int .u64 ((wv ((Bt.drop a).take j) : Nat) : Int) ∧ ∃ z, wr = w.drewN z) (fun _ v10 _ => count - (intOf v10).toNat)
  case atStart => exact ⟨0, Nat.zero_le _, rfl, rfl, 0, rfl⟩
  case round =>
    obtain ⟨j, hj, rfl, rfl, z, rfl⟩ := hrel
    by_cases hj1 : j < count
    · have hjl : j < (Bt.drop a).length := by have := HLL.out; omega
      obtain ⟨hq8, hbt⟩ := hh (a + j) (by omega)
      have hnj : nth (Bt.drop a) j = nth Bt (a + j) := by
        rw [nth_lt _ hjl, nth_lt _ (by omega), List.getElem_drop]
      have HST := Lib.hid (show wv ((Bt.drop a).take (j + 1)) = 2 * wv ((Bt.drop a).take j) + nth (Bt.drop a) j by rw [take_snoc _ _ hjl, wv_snoc])
      have hN : wv ((Bt.drop a).take j) < 9223372036854775808 := by
        have h2 := wv_lt (hlb.take j)
        have h3 : ((Bt.drop a).take j).length = j := by rw [List.length_take]; omega
        rw [h3] at h2
        exact Nat.lt_of_lt_of_le h2 (Nat.pow_le_pow_right (n := 2) (j := 63) (by decide) (by omega))
      obtain ⟨b0, off, rfl, hcell⟩ := hrd (by omega)
      obtain ⟨q, hq⟩ : ∃ q, q = (a + j) / 8 := ⟨_, rfl⟩
      obtain ⟨r, hr⟩ : ∃ r, r = (a + j) % 8 := ⟨_, rfl⟩
      have hr8 : r < 8 := by omega
      have hx1 := hcell q (by omega)
      have hx0 : nth s q < 256 := by rw [nth_lt _ (by omega)]; exact hs _ (List.getElem_mem _)
      unfold bt at hbt
      rw [← hq, ← hr] at hbt
      rw [← hq] at hq8
      obtain ⟨x, hx⟩ : ∃ x, x = nth s q := ⟨_, rfl⟩
      rw [← hx] at hx1 hx0 hbt
      obtain ⟨b, hbe⟩ : ∃ b, b = nth Bt (a + j) := ⟨_, rfl⟩
      rw [← hbe] at hbt hnj
      rw [hnj] at HST
      have hb2 : b < 2 := by rw [← hbt]; omega
      obtain ⟨N, hNe⟩ : ∃ N, N = wv ((Bt.drop a).take j) := ⟨_, rfl⟩
      rw [← hNe] at hN HST ⊢
      have hor := or_last N b hN hb2
      have hand : bits BinOp.and IntKind.u8 ((x : Int) / 2 ^ (7 - r)) 1 = (b : Int) := by
        have h1 : ((x : Int) / 2 ^ (7 - r)) = ((x / 2 ^ (7 - r) : Nat) : Int) := by simp
        rw [h1, and_byte _ (Nat.lt_of_le_of_lt (Nat.div_le_self _ _) hx0), hbt]
      have hwb : IntKind.u64.wrap (b : Int) = (b : Int) := by rw [IntKind.wrap_u64]; omega
      obtain ⟨M, hM⟩ : ∃ M, M = 2 * N := ⟨_, rfl⟩
      obtain ⟨R, hR⟩ : ∃ R, R = M + b := ⟨_, rfl⟩
      rw [← hM, ← hR] at hor
      have hMI : (2 : Int) * (N : Int) = (M : Int) := by omega
      have hMI2 : (N : Int) * 2 = (M : Int) := by omega
      have HRR := Lib.hid (show R = 2 * N + b by omega)
      have hI1 : ((a : Int) + (j : Int)).tdiv 8 = (q : Int) := by rw [Int.tdiv_eq_ediv_of_nonneg (by omega)]; omega
      have hI2 : ((a : Int) + (j : Int)).tmod 8 = (r : Int) := by rw [Int.tmod_eq_emod_of_nonneg (by omega)]; omega
      have hMb : M < 18446744073709551616 := by omega
      have haj : a + j ≤ 8000000000000 := by omega
      have hqb : q ≤ 1000000000000 := by omega
      have HAND := Lib.hid hand
      have HWB := Lib.hid hwb
      have HOR := Lib.hid hor
      clear hcell hq hr hx hbe hNe hM hR hbt hnj hand hwb hor
      go_wp2
      go_quiet (fail)
      rw [HAND.out, HWB.out, HOR.out]
      clear hI1 hI2 hMI hMI2
      go_wp2
      go_roundw
      case rel =>
        refine ⟨j + 1, hj1, vi (by omega), vi (by have := HRR.out; have := HST.out; omega), z + nq, ?_⟩
        simp [World.drewN, Nat.add_assoc]
      case measure => first | (simp [intOf]; done) | (simp [intOf]; omega)
    · obtain rfl : j = count := by omega
      go_wp2
      go_ret
      exact ⟨rfl, _, rfl⟩
theorem sheet_take (p k : Nat) (t : TypeId) (cs : Array Value) (A : Option Addr) (c : Nat) (s Bt : List Nat) (a count : Nat) (w : World) (hblk : Blk w p t cs) (h0 : cs[k]? = some (.slice A s.length c)) (h1 : cs[k + 1]? = some (.int .i64 8)) (hrd : RdK .u8 w A s)
    (hs : ∀ x ∈ s, x < 256) (hb : Bs Bt) (hh : Holds8 s Bt) (hle : a + count ≤ Bt.length) (hc : count ≤ 64) (hlen : Bt.length ≤ 8000000000000) :
    Calls Tryd.prog 40 #[.pointer (some ⟨p, k, none⟩), .int .i64 (a : Int), .int .i64 (count : Int)] w (Says w (.int .u64 ((wv ((Bt.drop a).take count) : Nat) : Int))) := by
  exact (sheet_takeQ p k t cs A c s Bt a count w hblk h0 h1 hrd hs hb hh hle hc hlen).mono fun e w' h => ⟨h.1, by obtain ⟨_, z, rfl⟩ := h; exact bdn (Below.refl _ _) _⟩
/-- The same, after draws. -/
theorem sheet_takeN (p k : Nat) (t : TypeId) (cs : Array Value) (A : Option Addr) (c : Nat) (s Bt : List Nat) (a count v : Nat) (w : World) (m : Nat) (hblk : Blk w p t cs) (h0 : cs[k]? = some (.slice A s.length c)) (h1 : cs[k + 1]? = some (.int .i64 8)) (hrd : RdK .u8 w A s)
    (hs : ∀ x ∈ s, x < 256) (hb : Bs Bt) (hh : Holds8 s Bt) (hle : a + count ≤ Bt.length) (hc : count ≤ 64) (hlen : Bt.length ≤ 8000000000000) (hv : v = wv ((Bt.drop a).take count)) :
    Calls Tryd.prog 40 #[.pointer (some ⟨p, k, none⟩), .int .i64 (a : Int), .int .i64 (count : Int)] (w.drewN m) fun e w'' => e = .returned (.int .u64 (v : Int)) ∧ ∃ z, w'' = w.drewN z := by
  subst hv
  refine (sheet_takeQ p k t cs A c s Bt a count (w.drewN m) (hblk.drewN _) h0 h1 (hrd.below (bdn (Below.refl _ _) _)) hs hb hh hle hc hlen).mono ?_
  rintro e w' ⟨rfl, z, rfl⟩
  exact ⟨rfl, m + z, by simp⟩
end Go.Proofs.YtefhannaofknnaaDoor
