/- Walks of numeralbig: how many bits, noughts at the end, the greatest common divisor (one of two a power of two), small things. -/
import Derived.Test.YtenekbfnlbipiaaGreatDoorBgC
import Derived.Laws.MathBits
import Derived.Test.YtenekbfnlbipiaaGreatDoorPlain
import Derived.Test.YtenekbfnlbipiaaGreatDoorMem
import Derived.Below
namespace Go.Proofs.YtenekbfnlbipiaaGreatDoor
open Go.RowKit
set_option linter.unusedVariables false
set_option linter.unusedSimpArgs false
set_option maxHeartbeats 4000000
set_option maxRecDepth 100000
namespace Bg

theorem big_bitLen (A : Option Addr) (l : List Nat) (n c : Nat) (hn : n = l.length) (hl16 : l.length ≤ 1000000) (w : World) (h : Rd w A l) (hlast : l.getLast? ≠ some 0) :
    Calls Tryz.prog 159 #[.slice A n c] w fun e w' => e = .returned (.int .i64 ((bitLen (val l) : Nat) : Int)) ∧ w = w' := by
  subst hn
  by_cases h0 : 0 < l.length
  · obtain ⟨b, off, rfl, hc⟩ := h.open_ h0
    have hc2 := hc (l.length - 1) (by omega)
    have hne : nth l (l.length - 1) ≠ 0 := by
      rw [last_nth (by intro e; rw [e] at h0; simp at h0)] at hlast; simpa using hlast
    have E := Lib.hid (bitLen_val h.sm h0 hne)
    have h2 : ((l.length : Int) == 0) = false := by rw [beq_eq_false_iff_ne]; omega
    have hlt := h.sm.nth (l.length - 1)
    have hbl : bitLen (nth l (l.length - 1)) ≤ 32 := bitLen_le hlt
    have i1 : (0 : Int) ≤ (l.length : Int) - 1 := by omega
    have i2 : (l.length : Int) - 1 < (l.length : Int) := by omega
    have ecell : w.cell? ⟨b, off + ((l.length : Int) - 1).toNat, none⟩ = some (.int .u32 ((nth l (l.length - 1) : Nat) : Int)) := by
      rw [show ((l.length : Int) - 1).toNat = l.length - 1 by omega]; exact hc2
    obtain ⟨X, hX⟩ : ∃ X, X = nth l (l.length - 1) := ⟨_, rfl⟩
    rw [← hX] at hc2 hlt hbl E ecell
    clear hlast hne hc hX
    go_enter Tryz.func159, Tryz.ntmps159
    go_wp2_with fail
    refine (bits_Len32 (X : Int) _ (by omega) (by omega)).mono ?_
    rintro e w1 ⟨rfl, rfl⟩
    rw [Int.toNat_natCast]
    go_wp2
    go_ret
    exact ⟨ret_int (by rw [E.out]; omega), rfl⟩
  · obtain rfl : l = [] := List.eq_nil_of_length_eq_zero (by omega)
    go_enter Tryz.func159, Tryz.ntmps159
    go_wp2
    go_ret
    exact ⟨rfl, rfl⟩

def Tz (w : World) : Prop := ∀ j, j < Lib.deBruijn32tab.length → w.cell? ⟨5, j, none⟩ = some (.int .u8 ((Lib.deBruijn32tab.getD j 0 : Nat) : Int))
theorem Tz.below {w w' : World} (h : Tz w) (hb : Below w.heap.size w w') : Tz w' := fun j hj => (hb.cell (cell_lt (h j hj))).trans (h j hj)
theorem tz_key (x a : Nat) (hx : x < 4294967296) (hx0 : x ≠ 0) (hlow : x &&& (4294967296 - x) = a) :
    bits BinOp.and IntKind.u32 (x : Int) (-(x : Int) % 4294967296) * 125613361 % 4294967296 / 134217728 = ((a * 125613361 % 4294967296 / 134217728 : Nat) : Int) := by
  have e1 : -(x : Int) % 4294967296 = ((4294967296 - x : Nat) : Int) := by omega
  rw [e1, u32_and_nat x _ hx (by omega), hlow]
  omega
theorem tz_core (x k idx : Nat) (w : World) (hx0 : ((x : Int) == 0) = false)
    (key : bits BinOp.and IntKind.u32 (x : Int) (-(x : Int) % 4294967296) * 125613361 % 4294967296 / 134217728 = (idx : Int))
    (hi : idx < 32) (hk : k < 32) (hcell : w.cell? ⟨5, idx, none⟩ = some (.int .u8 (k : Int))) :
    Calls Tryz.prog 229 #[.int .u32 (x : Int)] w fun e w' => e = .returned (.int .i64 (k : Int)) ∧ w' = w := by
  go_enter Tryz.func229, Tryz.ntmps229
  go_wp2_with (simp only [key])
  go_ret
  exact ⟨rfl, rfl⟩
theorem bits_tz (x : Nat) (hx : x < 4294967296) (hx0 : x ≠ 0) (w : World) (hT : Tz w) :
    Calls Tryz.prog 229 #[.int .u32 (x : Int)] w fun e w' => e = .returned (.int .i64 ((Lib.ctz 32 x : Nat) : Int)) ∧ w' = w := by
  obtain ⟨hlow, hk⟩ := Lib.lowest_bit 32 x hx0 hx
  obtain ⟨hi, htab⟩ := Lib.deBruijn32_at _ hk
  have hcell := hT _ hi
  rw [htab] at hcell
  exact tz_core x _ _ w (by simp; omega) (tz_key x _ hx hx0 hlow) hi hk hcell
theorem take_zeros (l : List Nat) (k : Nat) (hz : ∀ j, j < k → nth l j = 0) : val (l.take k) = 0 := by
  induction k with
  | zero => simp [val]
  | succ k ih => rw [val_take_succ', ih (fun j hj => hz j (by omega)), hz k (by omega), Nat.mul_zero]
theorem tz_words {l : List Nat} (k : Nat) (hk : k < l.length) (hs : Sm l) (hz : ∀ j, j < k → nth l j = 0) (h : nth l k ≠ 0) : tz (val l) = 32 * k + Lib.ctz 32 (nth l k) := by
  have hlt := hs.nth k
  have e1 : val l = 4294967296 ^ k * val (l.drop k) := by
    rw [val_split l k (by omega), take_zeros l k hz, Nat.zero_add]
  rw [val_drop_nth] at e1
  obtain ⟨m, hm, hc⟩ := Lib.ctzFrom_spec 32 (nth l k) (by omega) hlt
  have hctz : Lib.ctz 32 (nth l k) = Lib.ctzFrom 32 (nth l k) := by unfold Lib.ctz; rw [if_neg h]
  rw [hctz]
  generalize Lib.ctzFrom 32 (nth l k) = j at *
  obtain ⟨d, hd⟩ : ∃ d, 31 = j + d := ⟨31 - j, by omega⟩
  refine tz_of (m := m + 2 ^ d * val (l.drop (k + 1))) ?_
  rw [e1, show (4294967296 : Nat) ^ k = 2 ^ (32 * k) by rw [Nat.pow_mul], Nat.pow_add, Nat.mul_assoc]
  congr 1
  have e2 : (4294967296 : Nat) = 2 ^ j * (2 * 2 ^ d) := by
    rw [Nat.mul_left_comm, ← Nat.pow_add, ← hd]
  conv => lhs; rw [hm, e2]
  rw [Nat.mul_assoc (2 ^ j), ← Nat.mul_add]
  congr 1
  rw [Nat.mul_add, Nat.mul_assoc]
  omega
theorem big_zeros (A : Option Addr) (l : List Nat) (n c : Nat) (hn : n = l.length) (hl16 : l.length ≤ 1000000) (w : World) (h : Rd w A l) (hlast : l.getLast? ≠ some 0) (hT : Tz w) :
    Calls Tryz.prog 198 #[.slice A n c] w fun e w' => e = .returned (.int .i64 ((tz (val l) : Nat) : Int)) ∧ w = w' := by
  subst hn
  by_cases h0 : l.length = 0
  · obtain rfl : l = [] := List.eq_nil_of_length_eq_zero h0
    go_enter Tryz.func198, Tryz.ntmps198
    go_wp2
    go_loop [3] (fun i => i = .int .i64 0) (fun i => 0)
    case atStart => rfl
    case round =>
      subst hrel
      go_wp2
      go_ret
      exact ⟨rfl, rfl⟩
  · have HLAST : Hid (nth l (l.length - 1) ≠ 0) := by
      show _ ≠ _
      rw [last_nth (by intro e; rw [e] at h0; simp at h0)] at hlast; simpa using hlast
    clear hlast h0
    have HT := Lib.hid hT
    clear hT
    go_enter Tryz.func198, Tryz.ntmps198
    go_wp2
    go_loop [3] (fun i => ∃ k : Nat, k < l.length ∧ i = .int .i64 (k : Int) ∧ (∀ j, j < k → nth l j = 0)) (fun i => l.length - (intOf i).toNat)
    case atStart =>
      refine ⟨0, ?_, rfl, fun j hj => by omega⟩
      rcases Nat.eq_zero_or_pos l.length with h1 | h1
      · exfalso; exact HLAST.out (nth_ge _ (by omega))
      · exact h1
    case round =>
      obtain ⟨k, hk, rfl, hz⟩ := hrel
      have HZ := Lib.hid hz
      clear hz
      obtain ⟨b, o, rfl, hc1⟩ := h.open_ (by omega)
      have hc2 := hc1 k hk
      clear hc1
      by_cases h3 : nth l k = 0
      · have hkl : k + 1 < l.length := by
          apply Nat.lt_of_not_le
          intro hc
          exact HLAST.out (by rw [show l.length - 1 = k by omega]; exact h3)
        rw [h3] at hc2
        have E : Hid (∀ j, j < k + 1 → nth l j = 0) := fun j hj => by
          rcases Nat.lt_or_ge j k with h4 | h4
          · exact HZ.out j h4
          · have : j = k := by omega
            rw [this]; exact h3
        clear h3
        go_wp2
        go_round
        case rel => exact ⟨k + 1, hkl, by go_num, E.out⟩
        case measure => first | (simp [intOf]; done) | (simp [intOf]; omega)
      · have E := Lib.hid (tz_words k hk h.sm HZ.out h3)
        have hlt := h.sm.nth k
        have hct : Lib.ctz 32 (nth l k) < 32 := (Lib.lowest_bit 32 _ h3 hlt).2
        have h3' : (((nth l k : Nat) : Int) == 0) = false := by simp; exact h3
        have hkl2 : ((k : Int) == (l.length : Int)) = false := by simp; omega
        have HB := fun W hT => bits_tz (nth l k) hlt h3 W hT
        clear h3
        go_wp2_with fail
        refine (HB _ HT.out).mono ?_
        rintro e w1 ⟨rfl, rfl⟩
        clear HB
        go_wp2
        go_ret
        exact ⟨ret_int (by rw [E.out]; omega), rfl⟩
theorem big_one (A : Option Addr) (l : List Nat) (n c : Nat) (hn : n = l.length) (w : World) (h : Rd w A l) :
    Calls Tryz.prog 202 #[.slice A n c] w fun e w' => e = .returned (.bool (decide (l = [1]))) ∧ w = w' := by
  subst hn
  have hl := h.len
  by_cases h1 : l.length = 1
  · obtain ⟨b, o, rfl, hc⟩ := h.open_ (by omega)
    have hc0 := hc 0 (by omega)
    rw [Nat.add_zero] at hc0
    clear hc
    obtain ⟨x, rfl⟩ : ∃ x, l = [x] := by
      match l, h1 with
      | [x], _ => exact ⟨x, rfl⟩
    rw [show nth [x] 0 = x from rfl] at hc0
    by_cases hx : x = 1
    · subst hx
      go_enter Tryz.func202, Tryz.ntmps202
      go_wp2
      go_ret
      exact ⟨rfl, rfl⟩
    · have hx2 : ((x : Int) == 1) = false := by simp; omega
      have e : decide ([x] = [1]) = false := by simp; exact hx
      rw [e]
      clear hx
      go_enter Tryz.func202, Tryz.ntmps202
      go_wp2
      go_ret
      exact ⟨rfl, rfl⟩
  · have e : decide (l = [1]) = false := by
      rw [decide_eq_false_iff_not]; rintro rfl; exact h1 rfl
    have hg : ((l.length : Int) == 1) = false := by simp; omega
    rw [e]
    clear h1
    go_enter Tryz.func202, Tryz.ntmps202
    go_wp2
    go_ret
    exact ⟨rfl, rfl⟩
end Bg

theorem limbs_mono {x y : Nat} (h : x ≤ y) : (limbs x).length ≤ (limbs y).length := by
  rw [length_limbs_le]
  have := val_lt (sm_limbs y)
  rw [val_limbs] at this
  omega
theorem limbs_low {x : Nat} (h : x ≠ 0) : 4294967296 ^ ((limbs x).length - 1) ≤ x := by
  have := val_pos_of_last (l := limbs x) (by rw [ne_eq, limbs_eq_nil]; exact h) (last_limbs x)
  rw [val_limbs] at this; exact this
theorem limbs_pos {x : Nat} (h : x ≠ 0) : 0 < (limbs x).length := List.length_pos_iff.2 (by rw [ne_eq, limbs_eq_nil]; exact h)
theorem limbs_mul_len {x y : Nat} (hx : x ≠ 0) (hy : y ≠ 0) : (limbs x).length + (limbs y).length ≤ (limbs (x * y)).length + 1 := by
  have h1 := limbs_low hx
  have h2 := limbs_low hy
  have p1 := limbs_pos hx
  have p2 := limbs_pos hy
  have h3 := Nat.mul_le_mul h1 h2
  rw [← Nat.pow_add] at h3
  rcases Nat.lt_or_ge ((limbs (x * y)).length + 1) ((limbs x).length + (limbs y).length) with h | h
  · exfalso
    have h4 : (limbs (x * y)).length ≤ (limbs x).length - 1 + ((limbs y).length - 1) := by omega
    rw [length_limbs_le] at h4
    omega
  · exact h
theorem limbs_mul_le (x y : Nat) : (limbs (x * y)).length ≤ (limbs x).length + (limbs y).length := by
  rw [length_limbs_le, Nat.pow_add]
  have h1 := val_lt (sm_limbs x)
  have h2 := val_lt (sm_limbs y)
  rw [val_limbs] at h1 h2
  exact Nat.mul_lt_mul'' h1 h2
theorem mulS_limbs {x y : Nat} (hx : (limbs x).length ≤ 16384) (hy : (limbs y).length ≤ 16384) : mulS (limbs x) (limbs y) = fitS (x * y) := by
  unfold mulS
  have h1 : chk2 (limbs x) (limbs y) = 0 := by unfold chk2; rw [if_pos (chk_limbs_of hx)]; exact chk_limbs_of hy
  rw [if_pos h1, val_limbs, val_limbs]
  by_cases h2 : 16385 < (limbs x).length + (limbs y).length
  · rw [if_pos h2]
    have hx0 : x ≠ 0 := by rintro rfl; simp [limbs_zero] at h2; omega
    have hy0 : y ≠ 0 := by rintro rfl; simp [limbs_zero] at h2; omega
    have := limbs_mul_len hx0 hy0
    unfold fitS
    rw [if_pos (by omega)]
  · rw [if_neg h2]
theorem fitS_ok {x : Nat} (h : (limbs x).length ≤ 16384) : fitS x = (limbs x, 0) := by unfold fitS; rw [if_neg (by omega)]
namespace Bg

theorem tz_le {x N : Nat} (h : (limbs x).length ≤ N) : tz x ≤ 32 * N := by
  by_cases h0 : x = 0
  · subst h0; exact Nat.zero_le _
  · obtain ⟨m, hm⟩ := tz_spec h0
    have h1 : x < 4294967296 ^ N := (length_limbs_le x N).1 h
    have h2 : 2 ^ tz x ≤ x := by
      conv => rhs; rw [hm]
      exact Nat.le_mul_of_pos_right _ (by omega)
    have h3 : 2 ^ tz x < 2 ^ (32 * N) := by
      rw [Nat.pow_mul]
      exact Nat.lt_of_le_of_lt h2 h1
    have := (Nat.pow_lt_pow_iff_right (by decide)).1 h3
    omega
theorem bl_le {x N : Nat} (h : (limbs x).length ≤ N) : bitLen x ≤ 32 * N := by
  have h1 : x < 4294967296 ^ N := (length_limbs_le x N).1 h
  have e : 4294967296 ^ N = 2 ^ (32 * N) := by rw [Nat.pow_mul]
  rw [e] at h1
  exact bitLen_le h1
theorem big_common (A B : Option Addr) (u v : Nat) (c d : Nat) (hu : u ≠ 0) (hv : v ≠ 0) (h2 : u = 2 ^ tz u ∨ v = 2 ^ tz v) (hlu : (limbs u).length ≤ 20000) (hlv : (limbs v).length ≤ 20000) (w : World) (ha : Rd w A (limbs u)) (hb : Rd w B (limbs v)) (hT : Tz w) :
    Calls Tryz.prog 147 #[.slice A (limbs u).length c, .slice B (limbs v).length d] w (LimbsOne w (Nat.gcd u v)) := by
  have hZu := fun W h hT => big_zeros A (limbs u) _ c rfl (by omega) W h (last_limbs u) hT
  have hZv := fun W h hT => big_zeros B (limbs v) _ d rfl (by omega) W h (last_limbs v) hT
  have hLu := fun W h => big_bitLen A (limbs u) _ c rfl (by omega) W h (last_limbs u)
  have hLv := fun W h => big_bitLen B (limbs v) _ d rfl (by omega) W h (last_limbs v)
  rw [val_limbs] at hZu hZv hLu hLv
  have tu := tz_le hlu
  have tv := tz_le hlv
  have bu := bl_le hlu
  have bv := bl_le hlv
  have lu : 0 < (limbs u).length := limbs_pos hu
  have lv : 0 < (limbs v).length := limbs_pos hv
  have pu := pow2_iff hu
  have pv := pow2_iff hv
  by_cases hlt : u < v
  · by_cases hp : u = 2 ^ tz u
    · have hg1 : (((tz u : Nat) : Int) + 1 == ((bitLen u : Nat) : Int)) = true := by have := pu.2 hp; simp; omega
      rw [Nat.gcd_comm, gcd_two hv hp]
      clear pu pv hp h2
      have hcmp : cmpL (limbs u) (limbs v) = -1 := by rw [cmpL_canon (sm_limbs u) (sm_limbs v) (last_limbs u) (last_limbs v), val_limbs, val_limbs]; unfold cmpV; rw [if_pos hlt]
      go_enter Tryz.func147, Tryz.ntmps147
      go_wp2_with fail
      refine (big_cmp A B (limbs u) (limbs v) _ _ c d rfl rfl _ ha hb).mono ?_
      rintro e w1 ⟨rfl, hb1⟩
      rw [hcmp]
      clear hcmp
      have ha1 := ha.below hb1
      have hb2 := hb.below hb1
      have hT1 := hT.below hb1
      go_wp2_with fail
      refine (hZu _ ha1 hT1).mono ?_
      rintro e w2 ⟨rfl, rfl⟩
      go_wp2_with fail
      refine (hLu _ ha1).mono ?_
      rintro e w2 ⟨rfl, rfl⟩
      go_wp2_with fail
      have hal : Below w1.heap.size w1 (w1.alloc (.cells #[.int .u32 1] 153)) := (Below.refl _ _).alloc (Nat.le_refl _) _
      have hR : Rd (w1.alloc (.cells #[.int .u32 1] 153)) (some ⟨w1.heap.size, 0, none⟩) [1] := (row_new (l := [1]) rfl rfl : Row _ 153 w1.heap.size [1]).rd0 (by intro x hx; simp at hx; omega) (by simp)
      refine (hZv _ (hb2.below hal) (hT1.below hal)).mono ?_
      rintro e w2 ⟨rfl, rfl⟩
      go_wp2_with fail
      refine (hZu _ (ha1.below hal) (hT1.below hal)).mono ?_
      rintro e w2 ⟨rfl, rfl⟩
      have hal2 := hb1.trans (hal.mono hb1.size)
      go_wp2_with fail
      · have hm : min (tz v) (tz u) = tz u := by omega
        have hU := big_up (some ⟨w1.heap.size, 0, none⟩) [1] 1 1 rfl (tz u) (by omega) (by simp) _ hR
        rw [show val [1] * 2 ^ tz u = 2 ^ tz u by simp [val]] at hU
        refine hU.mono ?_
        rintro e w3 ⟨A3, c3, rfl, r1, r2, hb3⟩
        go_wp2
        go_ret
        show LimbsOne w _ _ _
        first | rw [hm] | rw [Nat.min_comm, hm]
        exact ⟨_, _, rfl, r1, r2.mono hal2.size, hal2.trans (hb3.mono hal2.size)⟩
      · have hm : min (tz v) (tz u) = tz v := by omega
        have hU := big_up (some ⟨w1.heap.size, 0, none⟩) [1] 1 1 rfl (tz v) (by omega) (by simp) _ hR
        rw [show val [1] * 2 ^ tz v = 2 ^ tz v by simp [val]] at hU
        refine hU.mono ?_
        rintro e w3 ⟨A3, c3, rfl, r1, r2, hb3⟩
        go_wp2
        go_ret
        show LimbsOne w _ _ _
        first | rw [hm] | rw [Nat.min_comm, hm]
        exact ⟨_, _, rfl, r1, r2.mono hal2.size, hal2.trans (hb3.mono hal2.size)⟩
    · have hp2 : v = 2 ^ tz v := h2.resolve_left hp
      have hg1 : (((tz u : Nat) : Int) + 1 == ((bitLen u : Nat) : Int)) = false := by
        have : ¬ tz u + 1 = bitLen u := fun h => hp (pu.1 h)
        simp; omega
      have hg2 : (((tz v : Nat) : Int) + 1 == ((bitLen v : Nat) : Int)) = true := by have := pv.2 hp2; simp; omega
      rw [gcd_two hu hp2]
      clear pu pv hp h2 hp2
      have hcmp : cmpL (limbs u) (limbs v) = -1 := by rw [cmpL_canon (sm_limbs u) (sm_limbs v) (last_limbs u) (last_limbs v), val_limbs, val_limbs]; unfold cmpV; rw [if_pos hlt]
      go_enter Tryz.func147, Tryz.ntmps147
      go_wp2_with fail
      refine (big_cmp A B (limbs u) (limbs v) _ _ c d rfl rfl _ ha hb).mono ?_
      rintro e w1 ⟨rfl, hb1⟩
      rw [hcmp]
      clear hcmp
      have ha1 := ha.below hb1
      have hb2 := hb.below hb1
      have hT1 := hT.below hb1
      go_wp2_with fail
      refine (hZu _ ha1 hT1).mono ?_
      rintro e w2 ⟨rfl, rfl⟩
      go_wp2_with fail
      refine (hLu _ ha1).mono ?_
      rintro e w2 ⟨rfl, rfl⟩
      go_wp2_with fail
      refine (hZv _ hb2 hT1).mono ?_
      rintro e w2 ⟨rfl, rfl⟩
      go_wp2_with fail
      refine (hLv _ hb2).mono ?_
      rintro e w2 ⟨rfl, rfl⟩
      go_wp2_with fail
      have hal : Below w1.heap.size w1 (w1.alloc (.cells #[.int .u32 1] 153)) := (Below.refl _ _).alloc (Nat.le_refl _) _
      have hR : Rd (w1.alloc (.cells #[.int .u32 1] 153)) (some ⟨w1.heap.size, 0, none⟩) [1] := (row_new (l := [1]) rfl rfl : Row _ 153 w1.heap.size [1]).rd0 (by intro x hx; simp at hx; omega) (by simp)
      refine (hZv _ (hb2.below hal) (hT1.below hal)).mono ?_
      rintro e w2 ⟨rfl, rfl⟩
      go_wp2_with fail
      refine (hZu _ (ha1.below hal) (hT1.below hal)).mono ?_
      rintro e w2 ⟨rfl, rfl⟩
      have hal2 := hb1.trans (hal.mono hb1.size)
      go_wp2_with fail
      · have hm : min (tz v) (tz u) = tz u := by omega
        have hU := big_up (some ⟨w1.heap.size, 0, none⟩) [1] 1 1 rfl (tz u) (by omega) (by simp) _ hR
        rw [show val [1] * 2 ^ tz u = 2 ^ tz u by simp [val]] at hU
        refine hU.mono ?_
        rintro e w3 ⟨A3, c3, rfl, r1, r2, hb3⟩
        go_wp2
        go_ret
        show LimbsOne w _ _ _
        first | rw [hm] | rw [Nat.min_comm, hm]
        exact ⟨_, _, rfl, r1, r2.mono hal2.size, hal2.trans (hb3.mono hal2.size)⟩
      · have hm : min (tz v) (tz u) = tz v := by omega
        have hU := big_up (some ⟨w1.heap.size, 0, none⟩) [1] 1 1 rfl (tz v) (by omega) (by simp) _ hR
        rw [show val [1] * 2 ^ tz v = 2 ^ tz v by simp [val]] at hU
        refine hU.mono ?_
        rintro e w3 ⟨A3, c3, rfl, r1, r2, hb3⟩
        go_wp2
        go_ret
        show LimbsOne w _ _ _
        first | rw [hm] | rw [Nat.min_comm, hm]
        exact ⟨_, _, rfl, r1, r2.mono hal2.size, hal2.trans (hb3.mono hal2.size)⟩
  · have hcv : cmpL (limbs u) (limbs v) = cmpV u v := by rw [cmpL_canon (sm_limbs u) (sm_limbs v) (last_limbs u) (last_limbs v), val_limbs, val_limbs]
    obtain ⟨CV, hCV⟩ : ∃ CV, CV = cmpV u v := ⟨_, rfl⟩
    have hcv0 : 0 ≤ CV := by rw [hCV]; unfold cmpV; rw [if_neg hlt]; split <;> decide
    have hcv1 : CV ≤ 1 := by rw [hCV]; unfold cmpV; rw [if_neg hlt]; split <;> decide
    rw [← hCV] at hcv
    clear hCV hlt
    by_cases hp : v = 2 ^ tz v
    · have hg1 : (((tz v : Nat) : Int) + 1 == ((bitLen v : Nat) : Int)) = true := by have := pv.2 hp; simp; omega
      rw [gcd_two hu hp]
      clear pu pv hp h2
      have hcmp : cmpL (limbs u) (limbs v) = CV := hcv
      go_enter Tryz.func147, Tryz.ntmps147
      go_wp2_with fail
      refine (big_cmp A B (limbs u) (limbs v) _ _ c d rfl rfl _ ha hb).mono ?_
      rintro e w1 ⟨rfl, hb1⟩
      rw [hcmp]
      clear hcmp
      have ha1 := ha.below hb1
      have hb2 := hb.below hb1
      have hT1 := hT.below hb1
      go_wp2_with fail
      refine (hZv _ hb2 hT1).mono ?_
      rintro e w2 ⟨rfl, rfl⟩
      go_wp2_with fail
      refine (hLv _ hb2).mono ?_
      rintro e w2 ⟨rfl, rfl⟩
      go_wp2_with fail
      have hal : Below w1.heap.size w1 (w1.alloc (.cells #[.int .u32 1] 153)) := (Below.refl _ _).alloc (Nat.le_refl _) _
      have hR : Rd (w1.alloc (.cells #[.int .u32 1] 153)) (some ⟨w1.heap.size, 0, none⟩) [1] := (row_new (l := [1]) rfl rfl : Row _ 153 w1.heap.size [1]).rd0 (by intro x hx; simp at hx; omega) (by simp)
      refine (hZu _ (ha1.below hal) (hT1.below hal)).mono ?_
      rintro e w2 ⟨rfl, rfl⟩
      go_wp2_with fail
      refine (hZv _ (hb2.below hal) (hT1.below hal)).mono ?_
      rintro e w2 ⟨rfl, rfl⟩
      have hal2 := hb1.trans (hal.mono hb1.size)
      go_wp2_with fail
      · have hm : min (tz u) (tz v) = tz v := by omega
        have hU := big_up (some ⟨w1.heap.size, 0, none⟩) [1] 1 1 rfl (tz v) (by omega) (by simp) _ hR
        rw [show val [1] * 2 ^ tz v = 2 ^ tz v by simp [val]] at hU
        refine hU.mono ?_
        rintro e w3 ⟨A3, c3, rfl, r1, r2, hb3⟩
        go_wp2
        go_ret
        show LimbsOne w _ _ _
        first | rw [hm] | rw [Nat.min_comm, hm]
        exact ⟨_, _, rfl, r1, r2.mono hal2.size, hal2.trans (hb3.mono hal2.size)⟩
      · have hm : min (tz u) (tz v) = tz u := by omega
        have hU := big_up (some ⟨w1.heap.size, 0, none⟩) [1] 1 1 rfl (tz u) (by omega) (by simp) _ hR
        rw [show val [1] * 2 ^ tz u = 2 ^ tz u by simp [val]] at hU
        refine hU.mono ?_
        rintro e w3 ⟨A3, c3, rfl, r1, r2, hb3⟩
        go_wp2
        go_ret
        show LimbsOne w _ _ _
        first | rw [hm] | rw [Nat.min_comm, hm]
        exact ⟨_, _, rfl, r1, r2.mono hal2.size, hal2.trans (hb3.mono hal2.size)⟩
    · have hp2 : u = 2 ^ tz u := h2.resolve_right hp
      have hg1 : (((tz v : Nat) : Int) + 1 == ((bitLen v : Nat) : Int)) = false := by
        have : ¬ tz v + 1 = bitLen v := fun h => hp (pv.1 h)
        simp; omega
      have hg2 : (((tz u : Nat) : Int) + 1 == ((bitLen u : Nat) : Int)) = true := by have := pu.2 hp2; simp; omega
      rw [Nat.gcd_comm, gcd_two hv hp2]
      clear pu pv hp h2 hp2
      have hcmp : cmpL (limbs u) (limbs v) = CV := hcv
      go_enter Tryz.func147, Tryz.ntmps147
      go_wp2_with fail
      refine (big_cmp A B (limbs u) (limbs v) _ _ c d rfl rfl _ ha hb).mono ?_
      rintro e w1 ⟨rfl, hb1⟩
      rw [hcmp]
      clear hcmp
      have ha1 := ha.below hb1
      have hb2 := hb.below hb1
      have hT1 := hT.below hb1
      go_wp2_with fail
      refine (hZv _ hb2 hT1).mono ?_
      rintro e w2 ⟨rfl, rfl⟩
      go_wp2_with fail
      refine (hLv _ hb2).mono ?_
      rintro e w2 ⟨rfl, rfl⟩
      go_wp2_with fail
      refine (hZu _ ha1 hT1).mono ?_
      rintro e w2 ⟨rfl, rfl⟩
      go_wp2_with fail
      refine (hLu _ ha1).mono ?_
      rintro e w2 ⟨rfl, rfl⟩
      go_wp2_with fail
      have hal : Below w1.heap.size w1 (w1.alloc (.cells #[.int .u32 1] 153)) := (Below.refl _ _).alloc (Nat.le_refl _) _
      have hR : Rd (w1.alloc (.cells #[.int .u32 1] 153)) (some ⟨w1.heap.size, 0, none⟩) [1] := (row_new (l := [1]) rfl rfl : Row _ 153 w1.heap.size [1]).rd0 (by intro x hx; simp at hx; omega) (by simp)
      refine (hZu _ (ha1.below hal) (hT1.below hal)).mono ?_
      rintro e w2 ⟨rfl, rfl⟩
      go_wp2_with fail
      refine (hZv _ (hb2.below hal) (hT1.below hal)).mono ?_
      rintro e w2 ⟨rfl, rfl⟩
      have hal2 := hb1.trans (hal.mono hb1.size)
      go_wp2_with fail
      · have hm : min (tz u) (tz v) = tz v := by omega
        have hU := big_up (some ⟨w1.heap.size, 0, none⟩) [1] 1 1 rfl (tz v) (by omega) (by simp) _ hR
        rw [show val [1] * 2 ^ tz v = 2 ^ tz v by simp [val]] at hU
        refine hU.mono ?_
        rintro e w3 ⟨A3, c3, rfl, r1, r2, hb3⟩
        go_wp2
        go_ret
        show LimbsOne w _ _ _
        first | rw [hm] | rw [Nat.min_comm, hm]
        exact ⟨_, _, rfl, r1, r2.mono hal2.size, hal2.trans (hb3.mono hal2.size)⟩
      · have hm : min (tz u) (tz v) = tz u := by omega
        have hU := big_up (some ⟨w1.heap.size, 0, none⟩) [1] 1 1 rfl (tz u) (by omega) (by simp) _ hR
        rw [show val [1] * 2 ^ tz u = 2 ^ tz u by simp [val]] at hU
        refine hU.mono ?_
        rintro e w3 ⟨A3, c3, rfl, r1, r2, hb3⟩
        go_wp2
        go_ret
        show LimbsOne w _ _ _
        first | rw [hm] | rw [Nat.min_comm, hm]
        exact ⟨_, _, rfl, r1, r2.mono hal2.size, hal2.trans (hb3.mono hal2.size)⟩
end Bg
end Go.Proofs.YtenekbfnlbipiaaGreatDoor
namespace Go.Proofs.YtenekbfnlbipiaaGreatDoor
open Go.RowKit
set_option linter.unusedVariables false
set_option linter.unusedSimpArgs false
structure Hole (z : Nat) (w w' : World) : Prop where
  os : w'.os = w.os
  tape : w'.tape = w.tape
  output : w'.output = w.output
  size : w.heap.size ≤ w'.heap.size
  block : ∀ k, k < w.heap.size → k ≠ z → w'.heap[k]? = w.heap[k]?
namespace Hole
variable {z : Nat} {w w' w'' : World}
theorem refl (z : Nat) (w : World) : Hole z w w := ⟨rfl, rfl, rfl, Nat.le_refl _, fun _ _ _ => rfl⟩
theorem trans (h : Hole z w w') (k : Hole z w' w'') : Hole z w w'' :=
  ⟨k.os.trans h.os, k.tape.trans h.tape, k.output.trans h.output, Nat.le_trans h.size k.size, fun i hi hz => (k.block i (Nat.lt_of_lt_of_le hi h.size) hz).trans (h.block i hi hz)⟩
theorem of_below (z : Nat) (h : Below w.heap.size w w') : Hole z w w' := ⟨h.os, h.tape, h.output, h.size, fun k hk _ => h.block k hk⟩
theorem then_ (h : Hole z w w') (k : Below w'.heap.size w' w'') : Hole z w w'' := h.trans (of_below z k)
theorem drew (h : Hole z w w') : Hole z w w'.drew := h.trans ⟨rfl, rfl, rfl, Nat.le_refl _, fun _ _ _ => rfl⟩
theorem drewN (h : Hole z w w') (n : Nat) : Hole z w (w'.drewN n) := h.trans ⟨rfl, rfl, rfl, Nat.le_refl _, fun _ _ _ => rfl⟩
theorem setCell (h : Hole z w w') {p : Addr} (hp : p.block = z) (u : Value) : Hole z w (w'.setCell p u) :=
  h.trans ⟨rfl, rfl, rfl, by simp [World.setCell], fun k _ hk => Below.heap_setCell w' p u k (by rw [hp]; exact hk)⟩
theorem alloc (h : Hole z w w') (o : Obj) : Hole z w (w'.alloc o) := h.then_ ((Below.refl _ _).alloc (Nat.le_refl _) o)
theorem cell (h : Hole z w w') {p : Addr} (hp : p.block < w.heap.size) (hz : p.block ≠ z) : w'.cell? p = w.cell? p := by
  unfold World.cell?
  rw [h.block _ hp hz]
theorem frozen (h : Hole z w w') {p : Addr} (hp : p.block < w.heap.size) (hz : p.block ≠ z) : w'.frozen? p = w.frozen? p := by
  unfold World.frozen?
  rw [h.block _ hp hz]
theorem keep (h : Hole z w w') {a : Addr} {v : Value} (hc : w.cell? a = some v) (hz : a.block ≠ z) : w'.cell? a = some v := (h.cell (cell_lt hc) hz).trans hc
theorem blk {g : Nat} {t : TypeId} {cs : Array Value} (h : Hole z w w') (hk : Blk w g t cs) (hz : g ≠ z) : Blk w' g t cs := (h.block g hk.lt hz).trans hk
theorem row {g : Nat} {t : TypeId} {l : List Nat} (h : Hole z w w') (hk : Row w t g l) (hz : g ≠ z) : Row w' t g l := h.blk hk hz
theorem below {B : Nat} {w0 : World} (h0 : Below B w0 w) (h : Hole z w w') (hz : B ≤ z) (hB : B ≤ w.heap.size) : Below B w0 w' :=
  h0.trans ⟨h.os, h.tape, h.output, h.size, fun k hk => h.block k (by omega) (by omega)⟩
theorem rd {A : Option Addr} {l : List Nat} (h : Hole z w w') (hr : Rd w A l) (hz : ∀ a, A = some a → l ≠ [] → a.block ≠ z) : Rd w' A l :=
  ⟨hr.1, hr.2.1, fun hn => by
    obtain ⟨b, off, e, hc⟩ := hr.2.2 hn
    exact ⟨b, off, e, fun j hj => h.keep (hc j hj) (show b ≠ z from hz ⟨b, off, none⟩ e (by intro h0; rw [h0] at hn; simp at hn))⟩⟩
end Hole
end Go.Proofs.YtenekbfnlbipiaaGreatDoor
