/- Walk: the document's quotient. -/
import Derived.Test.YtenekbfnlbipiaaDoorDn
namespace Go.Proofs.YtenekbfnlbipiaaDoor
open Go.RowKit
set_option linter.unusedVariables false
set_option linter.unusedSimpArgs false
set_option maxHeartbeats 4000000
set_option maxRecDepth 100000

theorem nth_valS {l : List Nat} (h : Sm l) (k : Nat) : nth l k = val l / 4294967296 ^ k % 4294967296 := getD_val l h k
theorem div_up (a b i : Nat) (hb : b ≠ 0) : a / 2 ^ i = b * (2 * (a / 2 ^ (i + 1) / b)) + (2 * (a / 2 ^ (i + 1) % b) + a / 2 ^ i % 2) := by
  have h1 : a / 2 ^ (i + 1) = a / 2 ^ i / 2 := by rw [Nat.pow_succ, Nat.div_div_eq_div_mul]
  have h2 := Nat.div_add_mod (a / 2 ^ i / 2) b
  rw [h1]
  have h3 : b * (2 * (a / 2 ^ i / 2 / b)) = 2 * (b * (a / 2 ^ i / 2 / b)) := by rw [Nat.mul_left_comm]
  rw [h3]
  omega
theorem div_t {a b i t : Nat} (hb : b ≠ 0) (ht : a / 2 ^ i = b * (2 * (a / 2 ^ (i + 1) / b)) + t) (h2 : t < 2 * b) :
    (b ≤ t → a / 2 ^ i % b = t - b ∧ a / 2 ^ i / b * 2 ^ i = a / 2 ^ (i + 1) / b * 2 ^ (i + 1) + 2 ^ i) ∧ (t < b → a / 2 ^ i % b = t ∧ a / 2 ^ i / b * 2 ^ i = a / 2 ^ (i + 1) / b * 2 ^ (i + 1)) := by
  have hbp : 0 < b := by omega
  obtain ⟨q, hq⟩ : ∃ q, q = a / 2 ^ (i + 1) / b := ⟨_, rfl⟩
  rw [← hq] at ht ⊢
  have e2 : 2 ^ (i + 1) = 2 * 2 ^ i := by rw [Nat.pow_succ]; omega
  constructor
  · intro h
    have hd : a / 2 ^ i / b = 2 * q + 1 := by
      rw [ht]
      rw [show b * (2 * q) + t = (t - b) + b * (2 * q + 1) by rw [Nat.mul_add]; omega, Nat.add_mul_div_left _ _ hbp, Nat.div_eq_of_lt (by omega)]
      omega
    have hm : a / 2 ^ i % b = t - b := by
      rw [ht]
      rw [show b * (2 * q) + t = (t - b) + b * (2 * q + 1) by rw [Nat.mul_add]; omega, Nat.add_mul_mod_self_left, Nat.mod_eq_of_lt (by omega)]
    exact ⟨hm, by rw [hd, e2, Nat.add_mul, Nat.one_mul, Nat.mul_comm 2 q, Nat.mul_assoc]⟩
  · intro h
    have hd : a / 2 ^ i / b = 2 * q := by
      rw [ht]
      rw [Nat.add_comm, Nat.add_mul_div_left _ _ hbp, Nat.div_eq_of_lt h]; omega
    have hm : a / 2 ^ i % b = t := by
      rw [ht]
      rw [Nat.add_comm, Nat.add_mul_mod_self_left, Nat.mod_eq_of_lt h]
    exact ⟨hm, by rw [hd, e2, Nat.mul_comm 2 q, Nat.mul_assoc]⟩
/-- A limb's low bits, of a number that a power of two divides. -/
theorem low_zero {qs : List Nat} {Q i : Nat} (hs : Sm qs) (hv : val qs = Q * 2 ^ (i + 1)) (hi : i / 32 < qs.length) : nth qs (i / 32) % 2 ^ (i % 32 + 1) = 0 := by
  rw [nth_valS hs]
  have e1 : 4294967296 ^ (i / 32) = 2 ^ (32 * (i / 32)) := by rw [Nat.pow_mul]
  have e2 : 2 ^ (i + 1) = 2 ^ (32 * (i / 32)) * 2 ^ (i % 32 + 1) := by rw [← Nat.pow_add]; congr 1; omega
  rw [hv, e1, e2, Nat.mul_left_comm, Nat.mul_div_cancel_left _ (Nat.two_pow_pos _)]
  have e3 : (4294967296 : Nat) = 2 ^ (i % 32 + 1) * 2 ^ (31 - i % 32) := by rw [← Nat.pow_add, show i % 32 + 1 + (31 - i % 32) = 32 by omega]
  rw [e3, Nat.mod_mul_right_mod, Nat.mul_mod_left]
theorem or_pow {x r : Nat} (hr : r < 32) (hx : x < 4294967296) (h : x % 2 ^ (r + 1) = 0) : bits BinOp.or IntKind.u32 (x : Int) ((2 ^ r : Nat) : Int) = ((x + 2 ^ r : Nat) : Int) ∧ x + 2 ^ r < 4294967296 := by
  have hp : 2 ^ r ≤ 2 ^ 31 := Nat.pow_le_pow_right (by decide) (by omega)
  rw [u32_or_nat _ _ hx (by omega)]
  have h1 := Nat.two_pow_add_eq_or_of_lt (i := r + 1) (b := 2 ^ r) (Nat.pow_lt_pow_right (by decide) (by omega)) (x / 2 ^ (r + 1))
  have h2 : 2 ^ (r + 1) * (x / 2 ^ (r + 1)) = x := by have := Nat.div_add_mod x (2 ^ (r + 1)); omega
  rw [h2] at h1
  refine ⟨by rw [← h1], ?_⟩
  have e3 : (4294967296 : Nat) = 2 ^ (r + 1) * 2 ^ (31 - r) := by rw [← Nat.pow_add, show r + 1 + (31 - r) = 32 by omega]
  rw [← h2] at hx ⊢
  have h4 : x / 2 ^ (r + 1) < 2 ^ (31 - r) := by
    rw [e3] at hx
    exact Nat.lt_of_mul_lt_mul_left hx
  have h5 : 2 ^ (r + 1) * (x / 2 ^ (r + 1) + 1) ≤ 2 ^ (r + 1) * 2 ^ (31 - r) := Nat.mul_le_mul_left _ h4
  rw [Nat.mul_add, Nat.mul_one] at h5
  have h6 : 2 ^ (r + 1) = 2 * 2 ^ r := by rw [Nat.pow_succ]; omega
  have := Nat.two_pow_pos r
  rw [e3]
  omega
theorem bit_at {a : List Nat} (hs : Sm a) (i : Nat) : nth a (i / 32) / 2 ^ (i % 32) % 2 = val a / 2 ^ i % 2 := by
  rw [nth_valS hs]
  have e1 : 4294967296 ^ (i / 32) = 2 ^ (32 * (i / 32)) := by rw [Nat.pow_mul]
  have e2 : 2 ^ i = 2 ^ (32 * (i / 32)) * 2 ^ (i % 32) := by rw [← Nat.pow_add]; congr 1; omega
  rw [e1, e2, ← Nat.div_div_eq_div_mul]
  generalize val a / 2 ^ (32 * (i / 32)) = V
  have e3 : (4294967296 : Nat) = 2 ^ (i % 32) * (2 * 2 ^ (31 - i % 32)) := by rw [← Nat.pow_succ', ← Nat.pow_add, show i % 32 + (31 - i % 32 + 1) = 32 by omega]
  rw [e3, Nat.mod_mul_right_div_self, Nat.mod_mul_right_mod]
end Go.Proofs.YtenekbfnlbipiaaDoor
namespace Go.Proofs.YtenekbfnlbipiaaDoor
open Go.RowKit
set_option linter.unusedVariables false
set_option linter.unusedSimpArgs false
set_option maxHeartbeats 4000000
set_option maxRecDepth 100000

theorem bits_diff {a b N : Nat} (hb : b ≠ 0) (hx : bitLen a = bitLen b + N) : a / 2 ^ (N + 1) / b = 0 ∧ a / 2 ^ N < 2 * b := by
  have h1 : a < 2 ^ (bitLen a) := by
    unfold bitLen
    by_cases h0 : a = 0
    · rw [if_pos h0, h0]; decide
    · rw [if_neg h0]; exact Nat.lt_log2_self
  have h2 : 2 ^ (bitLen b - 1) ≤ b := by
    unfold bitLen
    rw [if_neg hb, Nat.add_sub_cancel]
    exact Nat.log2_self_le hb
  have h3 : 1 ≤ bitLen b := by unfold bitLen; rw [if_neg hb]; omega
  have h4 : 2 ^ bitLen b = 2 * 2 ^ (bitLen b - 1) := by
    rw [← Nat.pow_succ', show (bitLen b - 1).succ = bitLen b by omega]
  rw [hx, Nat.pow_add] at h1
  have h5 : a / 2 ^ N < 2 ^ bitLen b := by rw [Nat.div_lt_iff_lt_mul (Nat.two_pow_pos _)]; exact h1
  refine ⟨Nat.div_eq_of_lt ?_, by omega⟩
  rw [Nat.pow_succ, ← Nat.div_div_eq_div_mul]
  omega
/-- What quotient answers. -/
def QuoAns (w : World) (x y : Nat) (e : Ending) (w' : World) : Prop :=
  ∃ V1 V2, e = .returned (.tuple #[V1, V2]) ∧ OwnR w' w.heap.size 90 .u32 V1 (limbs x) ∧ OwnR w' w.heap.size 90 .u32 V2 (limbs y) ∧ Below w.heap.size w w'
theorem ref_quotient (A B : Option Addr) (a b : List Nat) (n m c d : Nat) (hn : n = a.length) (hm : m = b.length) (hla : a.length ≤ 20000) (hlb : b.length ≤ 20000) (hca : a.getLast? ≠ some 0) (hcb : b.getLast? ≠ some 0) (hb0 : val b ≠ 0) (N : Nat) (hN : bitLen (val a) = bitLen (val b) + N) (w : World) (ha : Rd w A a) (hb : Rd w B b) :
    Calls Tryd.prog 86 #[.slice A n c, .slice B m d] w (QuoAns w (val a / val b) (val a % val b)) := by
  subst hn hm
  obtain ⟨hd1, hd2⟩ := bits_diff hb0 hN
  have hN20 : N ≤ 32 * a.length ∧ bitLen (val b) ≤ 32 * b.length := by
    have h1 : ∀ l : List Nat, Sm l → bitLen (val l) ≤ 32 * l.length := fun l hl => by
      have := val_lt hl
      rw [show 4294967296 = 2 ^ 32 from rfl, ← Nat.pow_mul] at this
      unfold bitLen
      split
      · omega
      · rename_i h; have := (Nat.log2_lt h).2 this; omega
    have := h1 a ha.sm
    have := h1 b hb.sm
    omega
  obtain ⟨x, hx⟩ : ∃ x, x = bitLen (val a) := ⟨_, rfl⟩
  obtain ⟨y, hy⟩ : ∃ y, y = bitLen (val b) := ⟨_, rfl⟩
  have hsa := fun W h => ref_size A a a.length c rfl (by omega) W h hca
  have hsb := fun W h => ref_size B b b.length d rfl (by omega) W h hcb
  rw [← hx] at hsa hN
  rw [← hy] at hsb hN hN20
  have hxy : (x : Int) - (y : Int) = (N : Int) := by omega
  have hN0 : 0 ≤ (N : Int) := by omega
  have hNb : N ≤ 640000 := by omega
  have hxb : x ≤ 2000000 := by omega
  have hyb : y ≤ 2000000 := by omega
  have hmk := fun W => mk32 (N / 32 + 1) ((N : Int) / 32 + 1) (by omega) (by omega) W
  have hdn := fun W h => ref_downF A a a.length c rfl N (by omega) (by omega) W h
  have HXY := Lib.hid hN
  have hNa := hN20.1
  clear hx hy hN hN20
  go_enter Tryd.func86, Tryd.ntmps86
  go_wp2_with fail
  refine (hsa _ ha).mono ?_
  rintro e w1 ⟨rfl, rfl⟩
  go_wp2_with fail
  refine (hsb _ hb).mono ?_
  rintro e w1 ⟨rfl, rfl⟩
  go_wp2_with fail
  clear hxy
  have hwa : Below w.heap.size w (w.alloc (.cells (c32 (List.replicate (N / 32 + 1) 0)) 90)) := (Below.refl _ _).alloc (Nat.le_refl _) _
  have hq0 : Row (w.alloc (.cells (c32 (List.replicate (N / 32 + 1) 0)) 90)) 90 w.heap.size (List.replicate (N / 32 + 1) 0) := row_new rfl rfl
  have hzz : w.heap.size < (w.alloc (.cells (c32 (List.replicate (N / 32 + 1) 0)) 90)).heap.size := by simp
  refine (hdn _ (ha.below hwa)).mono ?_
  rintro e w3 ⟨V3, rfl, hr3, hb3⟩
  have hr3' : OwnR w3 (w.heap.size + 1) 90 .u32 V3 (limbs (val a / 2 ^ N)) := by simpa using hr3
  have hq3 := hq0.below hb3 hzz
  have hbl3 := hwa.trans (hb3.mono (Nat.le_of_lt hzz))
  have hl0 : (List.replicate (N / 32 + 1) 0).length = N / 32 + 1 := by simp
  have hv0 : val (List.replicate (N / 32 + 1) 0) = val a / 2 ^ (N + 1) / val b * 2 ^ (N + 1) := by rw [val_replicate, hd1, Nat.zero_mul]
  have hs0 : Sm (List.replicate (N / 32 + 1) 0) := Sm.replicate _
  generalize List.replicate (N / 32 + 1) 0 = q0 at hq3 hl0 hv0 hs0 ⊢
  clear hr3 hq0 hzz hwa hb3 hmk hdn hsa hsb
  go_wp2
  go_loopw [9, 10] (fun v9 v10 wr => ∃ (j : Nat) (qs : List Nat), j ≤ N + 1 ∧ v10 = .int .i64 ((j : Int) - 1) ∧ OwnR wr (w.heap.size + 1) 90 .u32 v9 (limbs (if j = N + 1 then val a / 2 ^ N else val a / 2 ^ j % val b)) ∧ Row wr 90 w.heap.size qs ∧ Sm qs ∧ qs.length = N / 32 + 1 ∧ val qs = val a / 2 ^ j / val b * 2 ^ j ∧ Below w.heap.size w wr) (fun _ v10 _ => (intOf v10 + 1).toNat)
  case atStart =>
    refine ⟨N + 1, q0, Nat.le_refl _, vi (by omega), ?_, hq3, hs0, hl0, hv0, hbl3⟩
    rw [if_pos rfl]; exact hr3'
  case round =>
    clear hr3' hq3 hl0 hv0 hs0 hbl3
    obtain ⟨j, qs, hj, rfl, hr, hq, hqs, hql, hqv, hbl⟩ := hrel
    have hzr := hq.lt
    by_cases hj0 : 0 < j
    · obtain ⟨i, rfl⟩ : ∃ i, j = i + 1 := ⟨j - 1, by omega⟩
      rw [show ((i + 1 : Nat) : Int) - 1 = (i : Int) by omega]
      have hup := div_up (val a) (val b) i hb0
      by_cases hi : i < N
      · rw [if_neg (show ¬ i + 1 = N + 1 by omega)] at hr
        obtain ⟨bb, off, rfl, hcell⟩ := (ha.below hbl).open_ (by omega)
        have hx := hcell (i / 32) (by omega)
        have hbt := bit_at ha.sm i
        have hxs := ha.sm.nth (i / 32)
        obtain ⟨x0, hx0⟩ : ∃ x0, x0 = nth a (i / 32) := ⟨_, rfl⟩
        rw [← hx0] at hx hbt hxs
        rw [← hbt] at hup
        obtain ⟨bit, hbit⟩ : ∃ bit, bit = x0 / 2 ^ (i % 32) % 2 := ⟨_, rfl⟩
        rw [← hbit] at hup
        have hb2 : bit < 2 := by omega
        have hand : bits BinOp.and IntKind.u32 ((x0 : Int) / 2 ^ (i % 32)) 1 = (bit : Int) := by
          have e1 : (x0 : Int) / 2 ^ (i % 32) = ((x0 / 2 ^ (i % 32) : Nat) : Int) := by simp
          rw [e1, show (1 : Int) = ((1 : Nat) : Int) from rfl, u32_and_nat _ _ (Nat.lt_of_le_of_lt (Nat.div_le_self _ _) hxs) (by decide), Nat.and_one_is_mod, hbit]
        obtain ⟨R, hR⟩ : ∃ R, R = val a / 2 ^ (i + 1) % val b := ⟨_, rfl⟩
        rw [← hR] at hr hup
        obtain ⟨V, c9, e9⟩ := hr.len.2
        subst e9
        have hRb : R < val b := by rw [hR]; exact Nat.mod_lt _ (by omega)
        have HUP := Lib.hid hup
        have HQV := Lib.hid hqv
        have HQL := Lib.hid hql
        clear hup hqv hql hbt hx0 hbit hR hcell
        have hbn : (limbs R).length ≤ 1000000 := Nat.le_trans (limbs_mono (Nat.le_of_lt hRb)) (Nat.le_trans (limbs_length_le hb.sm) (by omega))
        go_wp2_with fail
        refine (ref_double _ (limbs R) bit (w.heap.size + 1) hb2 hbn (sm_limbs R) (last_limbs R) _ hzr hr).mono ?_
        rw [val_limbs]
        rintro e w5 ⟨V5, rfl, hr5, hb5⟩
        have hq5 := hq.below hb5 (Nat.lt_succ_self _)
        have hbl5 := hbl.trans (hb5.mono (Nat.le_succ _))
        have hz5 := hb5.size
        obtain ⟨t, ht⟩ : ∃ t, t = 2 * R + bit := ⟨_, rfl⟩
        rw [← ht] at hr5
        have hup := HUP.out
        rw [← ht] at hup
        have HT := Lib.hid (div_t hb0 hup (by omega))
        have ht2 : t < 2 * val b := by omega
        clear hup HUP ht hr hb5 hq hbl hand hx
        obtain ⟨V6, c6, e6⟩ := hr5.len.2
        subst e6
        have hcv := cmpL_canon (sm_limbs t) hb.sm (last_limbs t) hcb
        rw [val_limbs] at hcv
        have htl : (limbs t).length ≤ b.length + 1 := by
          have h1 := limbs_mono (x := t) (y := 2 * val b) (by omega)
          have h2 := limbs_mul_le 2 (val b)
          have h3 := limbs_length_le hb.sm
          have h4 : (limbs 2).length = 1 := by rw [limbs_small (by decide) (by decide)]; rfl
          omega
        have hrd5 : Rd w5 V6 (limbs t) := ⟨sm_limbs t, by omega, hr5.rdK⟩
        have hcp := fun w1 h1 h2 => ref_cmp V6 B (limbs t) b (limbs t).length b.length c6 d rfl rfl w1 h1 h2
        rw [hcv] at hcp
        by_cases hlt : t < val b
        · have hC : cmpV t (val b) = -1 := by unfold cmpV; rw [if_pos hlt]
          rw [hC] at hcp
          clear hC hcv
          go_wp2_with fail
          refine (hcp _ hrd5 (hb.below hbl5)).mono ?_
          rintro e w6 ⟨rfl, hb6⟩
          have hr6 := hr5.below hb6 (Nat.le_refl _)
          have hq6 := hq5.below hb6 hq5.lt
          have hbl6 := hbl5.trans (hb6.mono hbl5.size)
          clear hr5 hq5 hbl5 hb6 hcp hrd5
          go_wp2
          go_roundw
          case rel =>
            refine ⟨i, qs, by omega, rfl, ?_, hq6, hqs, HQL.out, ?_, hbl6⟩
            · rw [if_neg (by omega), (HT.out.2 hlt).1]; exact hr6
            · rw [(HT.out.2 hlt).2]; exact HQV.out
          case measure => first | (simp [intOf]; done) | (simp [intOf]; omega)
        · have hge : val b ≤ t := by omega
          obtain ⟨C, hCe⟩ : ∃ C, C = cmpV t (val b) := ⟨_, rfl⟩
          have hC : decide ((0 : Int) ≤ C) = true := by
            rw [hCe]; unfold cmpV; rw [if_neg hlt]
            split <;> decide
          rw [← hCe] at hcp
          have hlen : b.length ≤ (limbs t).length := by
            have h1 := limbs_of hb.sm hcb
            rw [← h1]; exact limbs_mono hge
          have hls := fun w1 h1 h2 => ref_lessF V6 B (limbs t) b (limbs t).length b.length c6 d rfl rfl (by omega) (by rw [val_limbs]; exact hge) hlen w1 h1 h2
          rw [val_limbs] at hls
          clear hCe hcv
          go_wp2_with fail
          refine (hcp _ hrd5 (hb.below hbl5)).mono ?_
          rintro e w6 ⟨rfl, hb6⟩
          have hrd6 := hrd5.below hb6
          have hq6 := hq5.below hb6 hq5.lt
          have hbl6 := hbl5.trans (hb6.mono hbl5.size)
          have hz6 := hb6.size
          clear hr5 hq5 hbl5 hb6 hcp hrd5
          go_wp2_with fail
          refine (hls _ hrd6 (hb.below hbl6)).mono ?_
          rintro e w7 ⟨V7, rfl, hr7, hb7⟩
          have hq7 := hq6.below hb7 hq6.lt
          have hbl7 := hbl6.trans (hb7.mono hbl6.size)
          have hzq := hq7.lt
          have hr7' := hr7.baseT (B' := w.heap.size + 1) (by have := hq6.lt; omega)
          have hil : i / 32 < qs.length := by rw [HQL.out]; omega
          have hx1 := hq7.cell (i / 32) hil
          have hxf := hq7.frozen (i / 32)
          have hlz := low_zero hqs HQV.out hil
          have hxs1 := hqs.nth (i / 32)
          obtain ⟨x1, hx1e⟩ : ∃ x1, x1 = nth qs (i / 32) := ⟨_, rfl⟩
          rw [← hx1e] at hx1 hlz hxs1
          have HX1 := Lib.hid hx1e
          obtain ⟨hor, hor2⟩ := or_pow (Nat.mod_lt i (by decide)) hxs1 hlz
          obtain ⟨Y, hY⟩ : ∃ Y, Y = x1 + 2 ^ (i % 32) := ⟨_, rfl⟩
          rw [← hY] at hor hor2
          have HY := Lib.hid hY
          have hq8 := hq7.setE (i / 32) Y (E := (Y : Int)) rfl
          have hr8 := hr7'.sameT (w' := w7.setCell ⟨w.heap.size, i / 32, none⟩ (.int .u32 (Y : Int))) (fun g hg => by
            have := (hr7'.lt g hg).1
            rw [Below.heap_setCell _ _ _ g (show g ≠ w.heap.size by omega)])
          have hbl8 := hbl7.setCell (p := ⟨w.heap.size, i / 32, none⟩) (Nat.le_refl _) (.int .u32 (Y : Int))
          have hpw : IntKind.u32.wrap ((2 : Int) ^ (i % 32)) = ((2 ^ (i % 32) : Nat) : Int) := by
            have : 2 ^ (i % 32) ≤ 2 ^ 31 := Nat.pow_le_pow_right (by decide) (by omega)
            rw [show ((2 : Int) ^ (i % 32)) = ((2 ^ (i % 32) : Nat) : Int) by simp, IntKind.wrap_u32]
            omega
          have hor3 : bits BinOp.or IntKind.u32 (x1 : Int) ((2 : Int) ^ (i % 32) % 4294967296) = (Y : Int) := by
            rw [IntKind.wrap_u32] at hpw
            rw [hpw]; exact hor
          have hil2 : i / 32 < N / 32 + 1 := by omega
          clear hq6 hbl6 hr7 hr7' hb7 hq7 hbl7 hls hrd6 hx1e hlz hY hor hpw
          go_wp2
          go_roundw
          case rel =>
            refine ⟨i, qs.set (i / 32) Y, by omega, rfl, ?_, hq8, hqs.set _ _ hor2, by rw [List.length_set]; exact HQL.out, ?_, hbl8⟩
            · rw [if_neg (by omega), (HT.out.1 hge).1]; exact hr8
            · have h1 := val_set qs (i / 32) Y hil
              rw [← HX1.out, HY.out, Nat.mul_add, HQV.out] at h1
              rw [(HT.out.1 hge).2, HY.out]
              have h2 : 4294967296 ^ (i / 32) * 2 ^ (i % 32) = 2 ^ i := by
                rw [show 4294967296 = 2 ^ 32 from rfl, ← Nat.pow_mul, ← Nat.pow_add]; congr 1; omega
              rw [h2] at h1
              omega
          case measure => first | (simp [intOf]; done) | (simp [intOf]; omega)
      · obtain rfl : i = N := by omega
        rw [if_pos rfl] at hr
        have HQV := Lib.hid hqv
        have HQL := Lib.hid hql
        obtain ⟨t, ht⟩ : ∃ t, t = val a / 2 ^ i := ⟨_, rfl⟩
        have HT := Lib.hid (div_t (a := val a) (i := i) (t := t) hb0 (by rw [hd1, Nat.mul_zero, Nat.zero_add, ht]) (by rw [ht]; exact hd2))
        have ht2 : t < 2 * val b := by rw [ht]; exact hd2
        rw [← ht] at hr
        have hr5 := hr
        have hq5 := hq
        have hbl5 := hbl
        clear hup hqv hql ht hr hq hbl
        obtain ⟨V6, c6, e6⟩ := hr5.len.2
        subst e6
        have hcv := cmpL_canon (sm_limbs t) hb.sm (last_limbs t) hcb
        rw [val_limbs] at hcv
        have htl : (limbs t).length ≤ b.length + 1 := by
          have h1 := limbs_mono (x := t) (y := 2 * val b) (by omega)
          have h2 := limbs_mul_le 2 (val b)
          have h3 := limbs_length_le hb.sm
          have h4 : (limbs 2).length = 1 := by rw [limbs_small (by decide) (by decide)]; rfl
          omega
        have hrd5 : Rd wr V6 (limbs t) := ⟨sm_limbs t, by omega, hr5.rdK⟩
        have hcp := fun w1 h1 h2 => ref_cmp V6 B (limbs t) b (limbs t).length b.length c6 d rfl rfl w1 h1 h2
        rw [hcv] at hcp
        by_cases hlt : t < val b
        · have hC : cmpV t (val b) = -1 := by unfold cmpV; rw [if_pos hlt]
          rw [hC] at hcp
          clear hC hcv
          go_wp2_with fail
          refine (hcp _ hrd5 (hb.below hbl5)).mono ?_
          rintro e w6 ⟨rfl, hb6⟩
          have hr6 := hr5.below hb6 (Nat.le_refl _)
          have hq6 := hq5.below hb6 hq5.lt
          have hbl6 := hbl5.trans (hb6.mono hbl5.size)
          clear hr5 hq5 hbl5 hb6 hcp hrd5
          go_wp2
          go_roundw
          case rel =>
            refine ⟨i, qs, by omega, rfl, ?_, hq6, hqs, HQL.out, ?_, hbl6⟩
            · rw [if_neg (by omega), (HT.out.2 hlt).1]; exact hr6
            · rw [(HT.out.2 hlt).2]; exact HQV.out
          case measure => first | (simp [intOf]; done) | (simp [intOf]; omega)
        · have hge : val b ≤ t := by omega
          obtain ⟨C, hCe⟩ : ∃ C, C = cmpV t (val b) := ⟨_, rfl⟩
          have hC : decide ((0 : Int) ≤ C) = true := by
            rw [hCe]; unfold cmpV; rw [if_neg hlt]
            split <;> decide
          rw [← hCe] at hcp
          have hlen : b.length ≤ (limbs t).length := by
            have h1 := limbs_of hb.sm hcb
            rw [← h1]; exact limbs_mono hge
          have hls := fun w1 h1 h2 => ref_lessF V6 B (limbs t) b (limbs t).length b.length c6 d rfl rfl (by omega) (by rw [val_limbs]; exact hge) hlen w1 h1 h2
          rw [val_limbs] at hls
          clear hCe hcv
          go_wp2_with fail
          refine (hcp _ hrd5 (hb.below hbl5)).mono ?_
          rintro e w6 ⟨rfl, hb6⟩
          have hrd6 := hrd5.below hb6
          have hq6 := hq5.below hb6 hq5.lt
          have hbl6 := hbl5.trans (hb6.mono hbl5.size)
          have hz6 := hb6.size
          clear hr5 hq5 hbl5 hb6 hcp hrd5
          go_wp2_with fail
          refine (hls _ hrd6 (hb.below hbl6)).mono ?_
          rintro e w7 ⟨V7, rfl, hr7, hb7⟩
          have hq7 := hq6.below hb7 hq6.lt
          have hbl7 := hbl6.trans (hb7.mono hbl6.size)
          have hzq := hq7.lt
          have hr7' := hr7.baseT (B' := w.heap.size + 1) (by have := hq6.lt; omega)
          have hil : i / 32 < qs.length := by rw [HQL.out]; omega
          have hx1 := hq7.cell (i / 32) hil
          have hxf := hq7.frozen (i / 32)
          have hlz := low_zero hqs HQV.out hil
          have hxs1 := hqs.nth (i / 32)
          obtain ⟨x1, hx1e⟩ : ∃ x1, x1 = nth qs (i / 32) := ⟨_, rfl⟩
          rw [← hx1e] at hx1 hlz hxs1
          have HX1 := Lib.hid hx1e
          obtain ⟨hor, hor2⟩ := or_pow (Nat.mod_lt i (by decide)) hxs1 hlz
          obtain ⟨Y, hY⟩ : ∃ Y, Y = x1 + 2 ^ (i % 32) := ⟨_, rfl⟩
          rw [← hY] at hor hor2
          have HY := Lib.hid hY
          have hq8 := hq7.setE (i / 32) Y (E := (Y : Int)) rfl
          have hr8 := hr7'.sameT (w' := w7.setCell ⟨w.heap.size, i / 32, none⟩ (.int .u32 (Y : Int))) (fun g hg => by
            have := (hr7'.lt g hg).1
            rw [Below.heap_setCell _ _ _ g (show g ≠ w.heap.size by omega)])
          have hbl8 := hbl7.setCell (p := ⟨w.heap.size, i / 32, none⟩) (Nat.le_refl _) (.int .u32 (Y : Int))
          have hpw : IntKind.u32.wrap ((2 : Int) ^ (i % 32)) = ((2 ^ (i % 32) : Nat) : Int) := by
            have : 2 ^ (i % 32) ≤ 2 ^ 31 := Nat.pow_le_pow_right (by decide) (by omega)
            rw [show ((2 : Int) ^ (i % 32)) = ((2 ^ (i % 32) : Nat) : Int) by simp, IntKind.wrap_u32]
            omega
          have hor3 : bits BinOp.or IntKind.u32 (x1 : Int) ((2 : Int) ^ (i % 32) % 4294967296) = (Y : Int) := by
            rw [IntKind.wrap_u32] at hpw
            rw [hpw]; exact hor
          have hil2 : i / 32 < i / 32 + 1 := by omega
          clear hq6 hbl6 hr7 hr7' hb7 hq7 hbl7 hls hrd6 hx1e hlz hY hor hpw
          go_wp2
          go_roundw
          case rel =>
            refine ⟨i, qs.set (i / 32) Y, by omega, rfl, ?_, hq8, hqs.set _ _ hor2, by rw [List.length_set]; exact HQL.out, ?_, hbl8⟩
            · rw [if_neg (by omega), (HT.out.1 hge).1]; exact hr8
            · have h1 := val_set qs (i / 32) Y hil
              rw [← HX1.out, HY.out, Nat.mul_add, HQV.out] at h1
              rw [(HT.out.1 hge).2, HY.out]
              have h2 : 4294967296 ^ (i / 32) * 2 ^ (i % 32) = 2 ^ i := by
                rw [show 4294967296 = 2 ^ 32 from rfl, ← Nat.pow_mul, ← Nat.pow_add]; congr 1; omega
              rw [h2] at h1
              omega
          case measure => first | (simp [intOf]; done) | (simp [intOf]; omega)
    · obtain rfl : j = 0 := by omega
      have hgj : decide ((0 : Int) ≤ ((0 : Nat) : Int) - 1) = false := rfl
      rw [if_neg (by omega), Nat.pow_zero, Nat.div_one] at hr
      rw [Nat.pow_zero, Nat.div_one, Nat.mul_one] at hqv
      have hqd : Rd wr (some ⟨w.heap.size, 0, none⟩) qs := hq.rd0 hqs (by omega)
      have hqo : OwnR wr w.heap.size 90 .u32 (.slice (some ⟨w.heap.size, 0, none⟩) qs.length qs.length) qs := hq.ownT (Nat.le_refl _) (by omega)
      have htr := fun W h => ref_Trim (some ⟨w.heap.size, 0, none⟩) qs qs.length qs.length rfl (Nat.le_refl _) W h
      have hq9 := hqo.trimR hqs
      have hr9 := hr.baseT (B' := w.heap.size) (Nat.le_succ _)
      rw [hqv] at htr hq9
      rw [hql] at htr hq9
      clear hqo hr hq hqv
      go_wp2_with fail
      refine (htr _ hqd).mono ?_
      rintro e w5 ⟨rfl, rfl⟩
      go_wp2
      go_ret2
      exact ⟨_, _, rfl, hq9, hr9, hbl⟩
end Go.Proofs.YtenekbfnlbipiaaDoor
