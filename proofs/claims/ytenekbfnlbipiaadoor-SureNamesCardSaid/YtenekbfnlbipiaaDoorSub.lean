/- Walks: Sub. -/
import Derived.Test.YtenekbfnlbipiaaDoorE
import Derived.Test.YtenekbfnlbipiaaDoorBits
namespace Go.Proofs.YtenekbfnlbipiaaDoor
open Go.RowKit
set_option linter.unusedVariables false
set_option linter.unusedSimpArgs false
set_option maxHeartbeats 4000000
set_option maxRecDepth 100000

def subS (a b : List Nat) : List Nat × Bool × Int := if chk2 a b = 0 then if val a < val b then ([], false, 0) else (limbs (val a - val b), true, 0) else ([], false, chk2 a b)
/-- What a difference answers. -/
def NatSub (w : World) (r : List Nat × Bool × Int) (e : Ending) (w' : World) : Prop :=
  ∃ A c, e = .returned (.tuple #[.agg #[.slice A r.1.length c], .bool r.2.1, .int .i64 r.2.2]) ∧ Own w' 90 w.heap.size A c r.1 ∧ Below w.heap.size w w'
theorem cmp_neg {a b : List Nat} (hz : chk2 a b = 0) (ha : Sm a) (hb : Sm b) : cmpL a b < 0 ↔ val a < val b := by
  rw [cmpL_canon ha hb (chk_zero (chk2_zero hz).1).2 (chk_zero (chk2_zero hz).2).2]
  unfold cmpV
  split
  · constructor
    · intro _; assumption
    · intro _; decide
  · split <;> constructor <;> intro h <;> first | omega | (exact absurd h (by decide))
theorem len_le_of_val {a b : List Nat} (ha : Sm a) (hb : b.getLast? ≠ some 0) (hsb : Sm b) (h : val b ≤ val a) : b.length ≤ a.length := by
  have h1 := limbs_of hsb hb
  have h2 := (length_limbs_le (val b) a.length).2 (Nat.lt_of_le_of_lt h (val_lt ha))
  rwa [h1] at h2
theorem sub_core (x y c : Nat) (hx : x < 4294967296) (hy : y < 4294967296) (hc : c ≤ 1) : (x + 4294967296 - y - c) % 4294967296 + y + c = x + 4294967296 * (1 - (x + 4294967296 - y - c) / 4294967296) := by omega
theorem sub_alg {M x y c t l vo va vb : Nat} (h : t + y + c = x + 4294967296 * l) (hv : vo + vb = va + M * c) : vo + M * t + (vb + M * y) = va + M * x + M * 4294967296 * l := by
  have h1 : M * t + M * y + M * c = M * x + M * 4294967296 * l := by
    rw [← Nat.mul_add, ← Nat.mul_add, h, Nat.mul_add, Nat.mul_assoc]
  omega
theorem sub_end {o a b : List Nat} {c : Nat} (ho : val o < 4294967296 ^ a.length) (h : val o + val b = val a + 4294967296 ^ a.length * c) (hc : c ≤ 1) (hle : val b ≤ val a) : val o = val a - val b := by
  have : c = 0 ∨ c = 1 := by omega
  rcases this with rfl | rfl
  · rw [Nat.mul_zero] at h; omega
  · rw [Nat.mul_one] at h; omega

theorem ref_less (A B : Option Addr) (a b : List Nat) (n m c d : Nat) (hn : n = a.length) (hm : m = b.length) (hbig : a.length ≤ 1000000) (hle : val b ≤ val a) (hlen : b.length ≤ a.length) (w : World) (ha : Rd w A a) (hb : Rd w B b) :
    Calls Tryd.prog 88 #[.slice A n c, .slice B m d] w fun e w' => ∃ A c, e = .returned (.slice A (limbs (val a - val b)).length c) ∧ (limbs (val a - val b)).length ≤ c ∧ Own w' 90 w.heap.size A c (limbs (val a - val b)) ∧ Below w.heap.size w w' := by
  subst hn hm
  go_enter Tryd.func88, Tryd.ntmps88
  go_wp2
  go_loopw [5, 6, 7] (fun v5 v6 v7 wr => ∃ (k cy : Nat) (o : List Nat), k ≤ a.length ∧ v7 = .int .i64 (k : Int) ∧ v6 = .int .u64 (cy : Int) ∧ cy ≤ 1 ∧ o.length = k ∧ Sm o ∧ val o + val (b.take k) = val (a.take k) + 4294967296 ^ k * cy ∧ OwnR wr w.heap.size 90 .u32 v5 o ∧ Below w.heap.size w wr) (fun _ _ i _ => a.length - (intOf i).toNat)
  case atStart => exact ⟨0, 0, [], Nat.zero_le _, rfl, rfl, by decide, rfl, Sm.nil, by simp [val], OwnR.nil _ _ _ _, Below.refl _ _⟩
  case round =>
    obtain ⟨k, cy, o, hk, rfl, rfl, hcy, hol, hos, hv, hown, hbl⟩ := hrel
    have HOL := Lib.hid hol
    have HV := Lib.hid hv
    clear hol hv
    have hsa := ha.sm.nth k
    have hsb := hb.sm.nth k
    by_cases hk1 : k < a.length
    · go_wp2_with fail
      refine (ref_limb A a _ c rfl (k : Int) (by omega) _ (ha.below hbl)).mono ?_
      rintro e w1 ⟨rfl, rfl⟩
      rw [Int.toNat_natCast]
      go_wp2_with fail
      refine (ref_limb B b _ d rfl (k : Int) (by omega) _ (hb.below hbl)).mono ?_
      rintro e w1 ⟨rfl, rfl⟩
      rw [Int.toNat_natCast]
      obtain ⟨s1, hs1⟩ : ∃ s1 : Nat, s1 = nth a k + 4294967296 := ⟨_, rfl⟩
      obtain ⟨s2, hs2⟩ : ∃ s2 : Nat, s2 = s1 - nth b k := ⟨_, rfl⟩
      obtain ⟨s3, hs3⟩ : ∃ s3 : Nat, s3 = s2 - cy := ⟨_, rfl⟩
      have e1 : ((nth a k : Nat) : Int) + 4294967296 = (s1 : Int) := by omega
      have e2 : (s1 : Int) - ((nth b k : Nat) : Int) = (s2 : Int) := by omega
      have e3 : (s2 : Int) - (cy : Int) = (s3 : Int) := by omega
      have b1 : s1 < 8589934592 := by omega
      have b2 : s2 < 8589934592 := by omega
      have b3 : s3 < 8589934592 := by omega
      have b4 : s3 / 4294967296 ≤ 1 := by omega
      have w1 : IntKind.u64.wrap (s1 : Int) = (s1 : Int) := by rw [IntKind.wrap_u64]; omega
      have w2 : IntKind.u64.wrap (s2 : Int) = (s2 : Int) := by rw [IntKind.wrap_u64]; omega
      have w3 : IntKind.u64.wrap (s3 : Int) = (s3 : Int) := by rw [IntKind.wrap_u64]; omega
      have w4 : IntKind.u64.wrap (1 - (s3 : Int) / 4294967296) = ((1 - s3 / 4294967296 : Nat) : Int) := by rw [IntKind.wrap_u64]; omega
      have w5 : IntKind.u32.wrap (s3 : Int) = ((s3 % 4294967296 : Nat) : Int) := by rw [IntKind.wrap_u32]; omega
      have H3 : Hid (s3 = nth a k + 4294967296 - nth b k - cy) := by show s3 = _; omega
      clear hs1 hs2 hs3 hsa hsb
      go_wp2_with (at_builtin; refine wpList_app elem32 rfl _ _ rfl (hown.alloc _) rfl ⟨_, 0, none⟩ rfl (s3 % 4294967296) ?c1 ?c2 ?c3 (fun v' w' hown' hgr hbb => ?_))
      case c1 => first | (simp [go_sem]; done) | (simp [go_sem, w5]; done) | (simp [go_sem]; omega)
      case c2 => have := HOL.out; omega
      case c3 => have := hbl.size; simp; omega
      go_roundw
      case rel =>
        have hsa := ha.sm.nth k
        have hsb := hb.sm.nth k
        have core := sub_core (nth a k) (nth b k) cy hsa hsb hcy
        rw [← H3.out] at core
        have st := sub_alg (M := 4294967296 ^ k) core HV.out
        refine ⟨k + 1, 1 - s3 / 4294967296, o ++ [s3 % 4294967296], by omega, by go_num, ?_, by omega, by simp [HOL.out], hos.append (Sm.cons (Nat.mod_lt _ (by decide)) Sm.nil), ?_, hown', (hbl.alloc hbl.size _).trans hbb⟩
        · first | exact vi w4 | rfl | (refine vi ?_; omega)
        rw [val_take_succ', val_take_succ', val_append, HOL.out, Nat.pow_succ]
        have h1 : val [s3 % 4294967296] = s3 % 4294967296 := by simp [val]
        rw [h1]
        exact st
      case measure => first | (simp [intOf]; done) | (simp [intOf]; omega)
    · have hke : k = a.length := by omega
      have hfin : val o = val a - val b := by
        have h1 := HV.out
        rw [hke, List.take_length, List.take_of_length_le hlen] at h1
        refine sub_end ?_ h1 hcy hle
        rw [← hke, ← HOL.out]; exact val_lt hos
      have HF := Lib.hid hfin
      clear hfin hke
      obtain ⟨A', c', rfl, hnc, ho⟩ := hown.own hos (by rw [HOL.out]; omega)
      go_wp2_with fail
      refine (ref_Trim _ _ _ _ rfl hnc _ ho.rd).mono ?_
      rintro e w1 ⟨rfl, rfl⟩
      go_wp2
      go_ret
      have ho2 := ho.trim
      have hle2 := limbs_length_le hos
      rw [HF.out] at ho2 hle2
      exact ⟨_, _, by rw [HF.out]; rfl, by omega, ho2, hbl⟩
end Go.Proofs.YtenekbfnlbipiaaDoor
namespace Go.Proofs.YtenekbfnlbipiaaDoor
open Go.RowKit
set_option linter.unusedVariables false
set_option linter.unusedSimpArgs false
set_option maxHeartbeats 4000000
set_option maxRecDepth 100000

theorem shl_low (v r x : Nat) (hr : r < 32) (hx : x < 2 ^ r) : bits BinOp.or IntKind.u32 (x : Int) (((v * 2 ^ r : Nat) : Int) % 4294967296) = ((x + v * 2 ^ r % 4294967296 : Nat) : Int) ∧ x + v * 2 ^ r % 4294967296 < 4294967296 := by
  have e : (4294967296 : Nat) = 2 ^ r * 2 ^ (32 - r) := by rw [← Nat.pow_add, show r + (32 - r) = 32 from by omega]
  have h1 : v * 2 ^ r % 4294967296 = 2 ^ r * (v % 2 ^ (32 - r)) := by
    rw [e, Nat.mul_comm v, Nat.mul_mod_mul_left]
  have h2 : v % 2 ^ (32 - r) + 1 ≤ 2 ^ (32 - r) := Nat.mod_lt _ (Nat.two_pow_pos _)
  have h3 : 2 ^ r * (v % 2 ^ (32 - r)) + 2 ^ r ≤ 4294967296 := by
    rw [e, ← Nat.mul_succ]; exact Nat.mul_le_mul_left _ h2
  have hlt : v * 2 ^ r % 4294967296 < 4294967296 := Nat.mod_lt _ (by decide)
  have e2 : (((v * 2 ^ r : Nat) : Int) % 4294967296) = ((v * 2 ^ r % 4294967296 : Nat) : Int) := by omega
  refine ⟨?_, by omega⟩
  rw [e2, u32_or_nat _ _ (by omega) hlt, h1, Nat.or_comm]
  have := Nat.two_pow_add_eq_or_of_lt (i := r) (b := x) hx (v % 2 ^ (32 - r))
  rw [← this, Nat.add_comm]
theorem shl_high (v r : Nat) (hv : v < 4294967296) : v * 2 ^ r / 4294967296 < 2 ^ r := by
  rw [Nat.div_lt_iff_lt_mul (by decide), Nat.mul_comm (2 ^ r)]
  exact Nat.mul_lt_mul_of_pos_right hv (Nat.two_pow_pos _)
/-- One step of shifted. -/
theorem shf_step {l o : List Nat} {k r : Nat} (hk : k + 1 < o.length) (hz : nth o (k + 1) = 0) (h : val o = val (l.take k) * 2 ^ r) :
    val ((o.set k (nth o k + nth l k * 2 ^ r % 4294967296)).set (k + 1) (nth l k * 2 ^ r / 4294967296)) = val (l.take (k + 1)) * 2 ^ r := by
  have e := Nat.mod_add_div (nth l k * 2 ^ r) 4294967296
  have h1 := val_set o k (nth o k + nth l k * 2 ^ r % 4294967296) (by omega)
  have h2 := val_set (o.set k (nth o k + nth l k * 2 ^ r % 4294967296)) (k + 1) (nth l k * 2 ^ r / 4294967296) (by simp; omega)
  rw [nth_set_ne _ _ _ _ (by omega), hz, Nat.mul_zero, Nat.add_zero] at h2
  rw [h2, val_take_succ', Nat.add_mul, ← h]
  generalize nth l k * 2 ^ r % 4294967296 = s at *
  have h3 : val (o.set k (nth o k + s)) = val o + 4294967296 ^ k * s := by
    rw [Nat.mul_add] at h1; omega
  rw [h3, Nat.pow_succ, Nat.add_assoc]
  congr 1
  rw [Nat.mul_assoc, Nat.mul_assoc, ← Nat.mul_add, e]

theorem nat_shifted (A : Option Addr) (l : List Nat) (n c : Nat) (hn : n = l.length) (R : Int) (r : Nat) (hR : R = (r : Int)) (hr : r < 32) (hl16 : l.length ≤ 1000000) (w : World) (h : Rd w A l) :
    Calls Tryd.prog 79 #[.slice A n c, .int .i64 R] w (RowSome 90 w fun o => o.length = l.length + 1 ∧ val o = val l * 2 ^ r) := by
  subst hn hR
  have hmk := fun W => mk32 (l.length + 1) ((l.length : Int) + 1) (by omega) (by omega) W
  go_enter Tryd.func79, Tryd.ntmps79
  go_wp2
  go_loopw [15] (fun i wr => ∃ (k : Nat) (o : List Nat), k ≤ l.length ∧ i = .int .i64 (k : Int) ∧ o.length = l.length + 1 ∧ Sm o ∧ (∀ j, k < j → nth o j = 0) ∧ nth o k < 2 ^ r ∧ val o = val (l.take k) * 2 ^ r ∧ Row wr 90 w.heap.size o ∧ Below w.heap.size w wr) (fun i _ => l.length - (intOf i).toNat)
  case atStart =>
    exact ⟨0, List.replicate (l.length + 1) 0, Nat.zero_le _, rfl, by simp, Sm.replicate _, fun j _ => nth_replicate _ _, by rw [nth_replicate]; exact Nat.two_pow_pos _, by rw [val_replicate]; simp [val], row_new rfl rfl, (by repeat' (first | (with_reducible assumption) | (with_reducible exact Below.refl _ _) | (with_reducible refine bdn ?_ _) | (with_reducible refine Below.drew ?_) | (with_reducible refine Below.setCell ?_ ?_ _) | (with_reducible refine Below.alloc ?_ ?_ _) | go_size))⟩
  case round =>
    obtain ⟨k, o, hk, rfl, hol, hos, hoz, hor, hov, hrow, hbl⟩ := hrel
    have HOL := Lib.hid hol
    have HOZ := Lib.hid hoz
    have HOV := Lib.hid hov
    have HOR := Lib.hid hor
    clear hol hoz hov hor
    by_cases hk1 : k < l.length
    · obtain ⟨ba, oa, rfl, hca⟩ := rd_at h hbl (k := k) hk1
      have hx := h.sm.nth k
      have hco := hrow.cell k (by rw [HOL.out]; omega)
      have hco1 := hrow.cell (k + 1) (by rw [HOL.out]; omega)
      have hfz := hrow.frozen k
      have hfz1 := hrow.frozen (k + 1)
      obtain ⟨P, hP⟩ : ∃ P : Nat, P = nth l k * 2 ^ r := ⟨_, rfl⟩
      have hPe : ((nth l k : Nat) : Int) * 2 ^ r = (P : Int) := by rw [hP]; push_cast; rfl
      have hPb : P < 9223372036854775808 := by
        have h1 : 2 ^ r ≤ 2 ^ 31 := Nat.pow_le_pow_right (by decide) (by omega)
        have h2 := Nat.mul_le_mul (show nth l k ≤ 4294967295 by omega) h1
        rw [hP]; omega
      have hor := shl_low (nth l k) r (nth o k) hr HOR.out
      rw [← hP] at hor
      obtain ⟨hor1, hor2⟩ := hor
      have HOR2 := Lib.hid hor2
      have HP := Lib.hid hP
      clear hP hor2
      go_wp2
      go_roundw
      case rel =>
        have h2 := shl_high (nth l k) r hx
        have h3 := HOR2.out
        have hlt : nth l k * 2 ^ r / 4294967296 < 4294967296 := by rw [← HP.out]; omega
        refine ⟨k + 1, (o.set k (nth o k + nth l k * 2 ^ r % 4294967296)).set (k + 1) (nth l k * 2 ^ r / 4294967296), by omega, by go_num, by simp [HOL.out], (hos.set _ _ (by rw [← HP.out]; exact h3)).set _ _ hlt, ?_, ?_, shf_step (by rw [HOL.out]; omega) (HOZ.out _ (by omega)) HOV.out, ?_, (by repeat' (first | (with_reducible assumption) | (with_reducible exact Below.refl _ _) | (with_reducible refine bdn ?_ _) | (with_reducible refine Below.drew ?_) | (with_reducible refine Below.setCell ?_ ?_ _) | (with_reducible refine Below.alloc ?_ ?_ _) | go_size))⟩
        · intro j hj
          rw [nth_set_ne _ _ _ _ (by omega), nth_set_ne _ _ _ _ (by omega)]
          exact HOZ.out j (by omega)
        · rw [nth_set_eq _ _ _ (by simp [HOL.out]; omega)]; exact h2
        · rw [← HP.out]
          exact (hrow.setE k (nth o k + P % 4294967296) (by omega)).setE (k + 1) (P / 4294967296) (by omega)
      case measure => first | (simp [intOf]; done) | (simp [intOf]; omega)
    · have hkl : k = l.length := by omega
      have hfin : val o = val l * 2 ^ r := by rw [HOV.out, hkl, List.take_length]
      have HF := Lib.hid hfin
      clear hfin hkl
      go_wp2
      go_ret
      exact ⟨o, _, ⟨HOL.out, HF.out⟩, hos, Nat.le_refl _, hrow, by rw [HOL.out]; rfl, hbl⟩

theorem low_or (a x : Nat) (hx : x < 4294967296) (ha : a < 4294967296) : bits BinOp.or IntKind.u64 ((a : Int) * 4294967296) (x : Int) = ((a * 4294967296 + x : Nat) : Int) := or_low32 a x ha hx
/-- The limbs of a list over 2 to the power of r: each one with the next one's low bits. -/
theorem low_step {l : List Nat} (h : Sm l) (k r : Nat) (hr : r < 32) :
    (nth l (k + 1) * 4294967296 + nth l k) / 2 ^ r % 4294967296 = val l / 2 ^ r / 4294967296 ^ k % 4294967296 := by
  have e1 : val l / 2 ^ r / 4294967296 ^ k = val (l.drop k) / 2 ^ r := by
    rw [Nat.div_div_eq_div_mul, Nat.mul_comm, ← Nat.div_div_eq_div_mul, val_drop l h]
  have e2 : val (l.drop k) = nth l k + 4294967296 * nth l (k + 1) + 4294967296 * 4294967296 * val (l.drop (k + 2)) := by
    rw [val_drop_nth, val_drop_nth l (k + 1), Nat.mul_add, ← Nat.mul_assoc, ← Nat.add_assoc]
  rw [e1, e2]
  have e3 : (4294967296 : Nat) = 2 ^ r * 2 ^ (32 - r) := by rw [← Nat.pow_add, show r + (32 - r) = 32 from by omega]
  have e4 : nth l k + 4294967296 * nth l (k + 1) + 4294967296 * 4294967296 * val (l.drop (k + 2)) = (nth l (k + 1) * 4294967296 + nth l k) + 2 ^ r * (4294967296 * (2 ^ (32 - r) * val (l.drop (k + 2)))) := by
    have : 4294967296 * 4294967296 * val (l.drop (k + 2)) = 2 ^ r * (4294967296 * (2 ^ (32 - r) * val (l.drop (k + 2)))) := by
      conv => lhs; rw [Nat.mul_assoc]; arg 1; rw [e3]
      simp only [Nat.mul_assoc, Nat.mul_left_comm]
    omega
  rw [e4, Nat.add_mul_div_left _ _ (Nat.two_pow_pos r), Nat.add_mul_mod_self_left]
/-- A list whose limbs are those of a number below the next power. -/
theorem val_of_nth {o : List Nat} {v : Nat} (hs : Sm o) (hv : v < 4294967296 ^ o.length) (h : ∀ j, j < o.length → nth o j = v / 4294967296 ^ j % 4294967296) : val o = v := by
  have key : ∀ k, k ≤ o.length → val (o.take k) = v % 4294967296 ^ k := by
    intro k
    induction k with
    | zero => intro _; simp [val, Nat.mod_one]
    | succ k ih =>
      intro hk
      rw [val_take_succ', ih (by omega), h k (by omega), Nat.pow_succ, Nat.mod_mul]
  have := key o.length (Nat.le_refl _)
  rw [List.take_length, Nat.mod_eq_of_lt hv] at this
  exact this

theorem cast_shr (P r : Nat) : ((P : Int) / 2 ^ r) % 4294967296 = ((P / 2 ^ r % 4294967296 : Nat) : Int) := by
  rw [Int.natCast_emod, Int.natCast_ediv, Int.natCast_pow]; rfl
theorem nat_lowered (A : Option Addr) (l : List Nat) (n c : Nat) (hn : n = l.length) (R : Int) (r : Nat) (hR : R = (r : Int)) (hr : r < 32) (hl16 : l.length ≤ 1000000) (w : World) (h : Rd w A l) :
    Calls Tryd.prog 85 #[.slice A n c, .int .i64 R] w (RowSome 90 w fun o => o.length = l.length ∧ val o = val l / 2 ^ r) := by
  subst hn hR
  have hmk := fun W => mk32 l.length (l.length : Int) (by omega) (by omega) W
  go_enter Tryd.func85, Tryd.ntmps85
  go_wp2
  go_loopw [6, 7] (fun ab i wr => ∃ (k : Nat) (o : List Nat), k ≤ l.length ∧ i = .int .i64 ((k : Int) - 1) ∧ ab = .int .u64 ((nth l k : Nat) : Int) ∧ o.length = l.length ∧ Sm o ∧ (∀ j, k ≤ j → j < l.length → nth o j = val l / 2 ^ r / 4294967296 ^ j % 4294967296) ∧ Row wr 90 w.heap.size o ∧ Below w.heap.size w wr) (fun _ i _ => (intOf i + 1).toNat)
  case atStart =>
    exact ⟨l.length, List.replicate l.length 0, Nat.le_refl _, rfl, by rw [nth_ge l (Nat.le_refl _)]; rfl, by simp, Sm.replicate _, fun j h1 h2 => by omega, row_new rfl rfl, (by repeat' (first | (with_reducible assumption) | (with_reducible exact Below.refl _ _) | (with_reducible refine bdn ?_ _) | (with_reducible refine Below.drew ?_) | (with_reducible refine Below.setCell ?_ ?_ _) | (with_reducible refine Below.alloc ?_ ?_ _) | go_size))⟩
  case round =>
    obtain ⟨k, o, hk, rfl, rfl, hol, hos, hoj, hrow, hbl⟩ := hrel
    have HOL := Lib.hid hol
    have HOJ := Lib.hid hoj
    clear hol hoj
    by_cases hk0 : k = 0
    · subst hk0
      have hv : val o = val l / 2 ^ r := by
        refine val_of_nth hos ?_ fun j hj => HOJ.out j (Nat.zero_le _) (by rw [← HOL.out]; exact hj)
        rw [HOL.out]
        exact Nat.lt_of_le_of_lt (Nat.div_le_self _ _) (val_lt h.sm)
      have HV := Lib.hid hv
      clear hv
      go_wp2
      go_ret
      exact ⟨o, _, ⟨HOL.out, HV.out⟩, hos, Nat.le_refl _, hrow, by rw [HOL.out]; rfl, hbl⟩
    · obtain ⟨k, rfl⟩ : ∃ j, k = j + 1 := ⟨k - 1, by omega⟩
      obtain ⟨ba, oa, rfl, hca⟩ := rd_at h hbl (k := k) (by omega)
      have hx := h.sm.nth k
      have ha := h.sm.nth (k + 1)
      have hco := hrow.cell k (by rw [HOL.out]; omega)
      have hfz := hrow.frozen k
      have hor := or_low32 (nth l (k + 1)) (nth l k) ha hx
      obtain ⟨P, hP⟩ : ∃ P : Nat, P = nth l (k + 1) * 4294967296 + nth l k := ⟨_, rfl⟩
      rw [← hP] at hor
      have hPb : P < 18446744073709551616 := by omega
      have HP := Lib.hid hP
      clear hP
      go_wp2
      go_roundw
      case rel =>
        have st := low_step h.sm k r hr
        rw [← HP.out] at st
        refine ⟨k, o.set k (P / 2 ^ r % 4294967296), by omega, by go_num, rfl, by simp [HOL.out], hos.set _ _ (Nat.mod_lt _ (by decide)), ?_, hrow.setE _ _ (cast_shr P r), (by repeat' (first | (with_reducible assumption) | (with_reducible exact Below.refl _ _) | (with_reducible refine bdn ?_ _) | (with_reducible refine Below.drew ?_) | (with_reducible refine Below.setCell ?_ ?_ _) | (with_reducible refine Below.alloc ?_ ?_ _) | go_size))⟩
        intro j h1 h2
        by_cases hjk : j = k
        · subst hjk
          rw [nth_set_eq _ _ _ (by rw [HOL.out]; exact h2), st]
        · rw [nth_set_ne _ _ _ _ (by omega)]
          exact HOJ.out j (by omega) h2
      case measure => first | (simp [intOf]; done) | (simp [intOf]; omega)
end Go.Proofs.YtenekbfnlbipiaaDoor
