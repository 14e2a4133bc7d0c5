/- Walks: Sub. -/
import Derived.Test.YtenekbfnlbipiaaDoorK
import Derived.Test.YtenekbfnlbipiaaDoorD
namespace Go.Proofs.YtenekbfnlbipiaaDoor
open Go.RowKit
set_option linter.unusedVariables false
set_option linter.unusedSimpArgs false
set_option maxHeartbeats 4000000
set_option maxRecDepth 100000

def subS (a b : List Nat) : List Nat × Bool × Int := if chk2 a b = 0 then if val a < val b then ([], false, 0) else (limbs (val a - val b), true, 0) else ([], false, chk2 a b)
/-- What a difference answers. -/
def NatSub (w : World) (r : List Nat × Bool × Int) (e : Ending) (w' : World) : Prop :=
  ∃ A c, e = .returned (.tuple #[.agg #[.slice A r.1.length c], .bool r.2.1, .int .i64 r.2.2]) ∧ Own w' 90 w.heap.size A c r.1 ∧ Below w.heap.size w w'
theorem cmp_neg {a b : List Nat} (hz : chk2 a b = 0) (ha : Sm a) (hb : Sm b) : cmpL a b < 0 ↔ val a < val b := by
  rw [cmpL_canon ha hb (chk_zero (chk2_zero hz).1).2 (chk_zero (chk2_zero hz).2).2]
  unfold cmpV
  split
  · constructor
    · intro _; assumption
    · intro _; decide
  · split <;> constructor <;> intro h <;> first | omega | (exact absurd h (by decide))
theorem len_le_of_val {a b : List Nat} (ha : Sm a) (hb : b.getLast? ≠ some 0) (hsb : Sm b) (h : val b ≤ val a) : b.length ≤ a.length := by
  have h1 := limbs_of hsb hb
  have h2 := (length_limbs_le (val b) a.length).2 (Nat.lt_of_le_of_lt h (val_lt ha))
  rwa [h1] at h2
theorem sub_core (x y c : Nat) (hx : x < 4294967296) (hy : y < 4294967296) (hc : c ≤ 1) : (x + 4294967296 - y - c) % 4294967296 + y + c = x + 4294967296 * (1 - (x + 4294967296 - y - c) / 4294967296) := by omega
theorem sub_alg {M x y c t l vo va vb : Nat} (h : t + y + c = x + 4294967296 * l) (hv : vo + vb = va + M * c) : vo + M * t + (vb + M * y) = va + M * x + M * 4294967296 * l := by
  have h1 : M * t + M * y + M * c = M * x + M * 4294967296 * l := by
    rw [← Nat.mul_add, ← Nat.mul_add, h, Nat.mul_add, Nat.mul_assoc]
  omega
theorem sub_end {o a b : List Nat} {c : Nat} (ho : val o < 4294967296 ^ a.length) (h : val o + val b = val a + 4294967296 ^ a.length * c) (hc : c ≤ 1) (hle : val b ≤ val a) : val o = val a - val b := by
  have : c = 0 ∨ c = 1 := by omega
  rcases this with rfl | rfl
  · rw [Nat.mul_zero] at h; omega
  · rw [Nat.mul_one] at h; omega

theorem ref_less (A B : Option Addr) (a b : List Nat) (n m c d : Nat) (hn : n = a.length) (hm : m = b.length) (hbig : a.length ≤ 1000000) (hle : val b ≤ val a) (hlen : b.length ≤ a.length) (w : World) (ha : Rd w A a) (hb : Rd w B b) :
    Calls Tryd.prog 88 #[.slice A n c, .slice B m d] w fun e w' => ∃ A c, e = .returned (.slice A (limbs (val a - val b)).length c) ∧ (limbs (val a - val b)).length ≤ c ∧ Own w' 90 w.heap.size A c (limbs (val a - val b)) ∧ Below w.heap.size w w' := by
  subst hn hm
  go_enter Tryd.func88, Tryd.ntmps88
  go_wp2
  go_loopw [5, 6, 7] (fun v5 v6 v7 wr => ∃ (k cy : Nat) (o : List Nat), k ≤ a.length ∧ v7 = .int .i64 (k : Int) ∧ v6 = .int .u64 (cy : Int) ∧ cy ≤ 1 ∧ o.length = k ∧ Sm o ∧ val o + val (b.take k) = val (a.take k) + 4294967296 ^ k * cy ∧ OwnR wr w.heap.size 90 .u32 v5 o ∧ Below w.heap.size w wr) (fun _ _ i _ => a.length - (intOf i).toNat)
  case atStart => exact ⟨0, 0, [], Nat.zero_le _, rfl, rfl, by decide, rfl, Sm.nil, by simp [val], OwnR.nil _ _ _ _, Below.refl _ _⟩
  case round =>
    obtain ⟨k, cy, o, hk, rfl, rfl, hcy, hol, hos, hv, hown, hbl⟩ := hrel
    have HOL := Lib.hid hol
    have HV := Lib.hid hv
    clear hol hv
    have hsa := ha.sm.nth k
    have hsb := hb.sm.nth k
    by_cases hk1 : k < a.length
    · go_wp2_with fail
      refine (ref_limb A a _ c rfl (k : Int) (by omega) _ (ha.below hbl)).mono ?_
      rintro e w1 ⟨rfl, rfl⟩
      rw [Int.toNat_natCast]
      go_wp2_with fail
      refine (ref_limb B b _ d rfl (k : Int) (by omega) _ (hb.below hbl)).mono ?_
      rintro e w1 ⟨rfl, rfl⟩
      rw [Int.toNat_natCast]
      obtain ⟨s1, hs1⟩ : ∃ s1 : Nat, s1 = nth a k + 4294967296 := ⟨_, rfl⟩
      obtain ⟨s2, hs2⟩ : ∃ s2 : Nat, s2 = s1 - nth b k := ⟨_, rfl⟩
      obtain ⟨s3, hs3⟩ : ∃ s3 : Nat, s3 = s2 - cy := ⟨_, rfl⟩
      have e1 : ((nth a k : Nat) : Int) + 4294967296 = (s1 : Int) := by omega
      have e2 : (s1 : Int) - ((nth b k : Nat) : Int) = (s2 : Int) := by omega
      have e3 : (s2 : Int) - (cy : Int) = (s3 : Int) := by omega
      have b1 : s1 < 8589934592 := by omega
      have b2 : s2 < 8589934592 := by omega
      have b3 : s3 < 8589934592 := by omega
      have b4 : s3 / 4294967296 ≤ 1 := by omega
      have w1 : IntKind.u64.wrap (s1 : Int) = (s1 : Int) := by rw [IntKind.wrap_u64]; omega
      have w2 : IntKind.u64.wrap (s2 : Int) = (s2 : Int) := by rw [IntKind.wrap_u64]; omega
      have w3 : IntKind.u64.wrap (s3 : Int) = (s3 : Int) := by rw [IntKind.wrap_u64]; omega
      have w4 : IntKind.u64.wrap (1 - (s3 : Int) / 4294967296) = ((1 - s3 / 4294967296 : Nat) : Int) := by rw [IntKind.wrap_u64]; omega
      have w5 : IntKind.u32.wrap (s3 : Int) = ((s3 % 4294967296 : Nat) : Int) := by rw [IntKind.wrap_u32]; omega
      have H3 : Hid (s3 = nth a k + 4294967296 - nth b k - cy) := by show s3 = _; omega
      clear hs1 hs2 hs3 hsa hsb
      go_wp2_with (at_builtin; refine wpList_app elem32 rfl _ _ rfl (hown.alloc _) rfl ⟨_, 0, none⟩ rfl (s3 % 4294967296) ?c1 ?c2 ?c3 (fun v' w' hown' hgr hbb => ?_))
      case c1 => first | (simp [go_sem]; done) | (simp [go_sem, w5]; done) | (simp [go_sem]; omega)
      case c2 => have := HOL.out; omega
      case c3 => have := hbl.size; simp; omega
      go_roundw
      case rel =>
        have hsa := ha.sm.nth k
        have hsb := hb.sm.nth k
        have core := sub_core (nth a k) (nth b k) cy hsa hsb hcy
        rw [← H3.out] at core
        have st := sub_alg (M := 4294967296 ^ k) core HV.out
        refine ⟨k + 1, 1 - s3 / 4294967296, o ++ [s3 % 4294967296], by omega, by go_num, ?_, by omega, by simp [HOL.out], hos.append (Sm.cons (Nat.mod_lt _ (by decide)) Sm.nil), ?_, hown', (hbl.alloc hbl.size _).trans hbb⟩
        · first | exact vi w4 | rfl | (refine vi ?_; omega)
        rw [val_take_succ', val_take_succ', val_append, HOL.out, Nat.pow_succ]
        have h1 : val [s3 % 4294967296] = s3 % 4294967296 := by simp [val]
        rw [h1]
        exact st
      case measure => first | (simp [intOf]; done) | (simp [intOf]; omega)
    · have hke : k = a.length := by omega
      have hfin : val o = val a - val b := by
        have h1 := HV.out
        rw [hke, List.take_length, List.take_of_length_le hlen] at h1
        refine sub_end ?_ h1 hcy hle
        rw [← hke, ← HOL.out]; exact val_lt hos
      have HF := Lib.hid hfin
      clear hfin hke
      obtain ⟨A', c', rfl, hnc, ho⟩ := hown.own hos (by rw [HOL.out]; omega)
      go_wp2_with fail
      refine (ref_Trim _ _ _ _ rfl hnc _ ho.rd).mono ?_
      rintro e w1 ⟨rfl, rfl⟩
      go_wp2
      go_ret
      have ho2 := ho.trim
      have hle2 := limbs_length_le hos
      rw [HF.out] at ho2 hle2
      exact ⟨_, _, by rw [HF.out]; rfl, by omega, ho2, hbl⟩
end Go.Proofs.YtenekbfnlbipiaaDoor
