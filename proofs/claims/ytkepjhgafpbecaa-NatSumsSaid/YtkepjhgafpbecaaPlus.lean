/- Walks: the document's sum of lists. -/
import Derived.Test.YtkepjhgafpbecaaD
namespace Go.Proofs.Ytkepjhgafpbecaa
open Go.RowKit
set_option linter.unusedVariables false
set_option linter.unusedSimpArgs false
set_option maxHeartbeats 4000000
set_option maxRecDepth 100000

theorem plus_step {a b o : List Nat} {k cy : Nat} (hk : o.length = k) (hv : val o + 4294967296 ^ k * cy = val (a.take k) + val (b.take k)) :
    val (o ++ [(nth a k + nth b k + cy) % 4294967296]) + 4294967296 ^ (k + 1) * ((nth a k + nth b k + cy) / 4294967296) = val (a.take (k + 1)) + val (b.take (k + 1)) := by
  rw [val_take_succ', val_take_succ', val_append, hk]
  obtain ⟨s, hs⟩ : ∃ s, s = nth a k + nth b k + cy := ⟨_, rfl⟩
  rw [← hs]
  have h1 : val [s % 4294967296] = s % 4294967296 := by simp [val]
  rw [h1, Nat.pow_succ]
  have h2 : 4294967296 ^ k * (s % 4294967296) + 4294967296 ^ k * 4294967296 * (s / 4294967296) = 4294967296 ^ k * s := by
    rw [Nat.mul_assoc, ← Nat.mul_add, Nat.mod_add_div]
  have h3 : 4294967296 ^ k * s = 4294967296 ^ k * nth a k + 4294967296 ^ k * nth b k + 4294967296 ^ k * cy := by rw [hs, Nat.mul_add, Nat.mul_add]
  omega
theorem limbs_eq_of {o : List Nat} {v k : Nat} (hs : Sm o) (hv : val o = v) (hk : o.length = k) (h : k = 0 ∨ 4294967296 ^ (k - 1) ≤ v) : o = limbs v := by
  have h1 := limbs_prefix hs
  rw [hv] at h1
  have h2 : k ≤ (limbs v).length := by
    rcases h with h | h
    · omega
    · rcases Nat.lt_or_ge (limbs v).length k with h3 | h3
      · have := (length_limbs_le v (k - 1)).1 (by omega)
        omega
      · exact h3
  rw [h1, List.take_of_length_le (by omega)]
theorem limbs_lowP {a : List Nat} {x : Nat} (ha : a = limbs x) (h : 0 < a.length) : 4294967296 ^ (a.length - 1) ≤ x := by
  rcases Nat.lt_or_ge x (4294967296 ^ (a.length - 1)) with h1 | h1
  · have := (length_limbs_le x (a.length - 1)).2 h1
    rw [← ha] at this
    omega
  · exact h1

def PlusRel (w : World) (a b : List Nat) (v5 v6 v7 : Value) (wr : World) : Prop :=
  ∃ (k cy : Nat) (o : List Nat), k ≤ max a.length b.length + 1 ∧ v7 = .int .i64 (k : Int) ∧ v6 = .int .u64 (cy : Int) ∧ cy ≤ 1 ∧ o.length = k ∧ Sm o ∧ (k = max a.length b.length + 1 → cy = 0) ∧
    (k ≤ max a.length b.length ∨ 4294967296 ^ (k - 1) ≤ val a + val b) ∧ val o + 4294967296 ^ k * cy = val (a.take k) + val (b.take k) ∧ OwnR wr w.heap.size 28 .u32 v5 o ∧ Below w.heap.size w wr

theorem ref_plus (A B : Option Addr) (a b : List Nat) (x y : Nat) (hx : a = limbs x) (hy : b = limbs y) (n m c d : Nat) (hn : n = a.length) (hm : m = b.length) (hbig : a.length + b.length ≤ 1000000) (w : World) (ha : Rd w A a) (hb : Rd w B b) :
    Calls Try.prog 60 #[.slice A n c, .slice B m d] w fun e w' => ∃ A c, e = .returned (.slice A (limbs (x + y)).length c) ∧ (limbs (x + y)).length ≤ c ∧ Own w' 28 w.heap.size A c (limbs (x + y)) ∧ Below w.heap.size w w' := by
  subst hn hm
  have hxv : val a = x := by rw [hx]; exact val_limbs x
  have hyv : val b = y := by rw [hy]; exact val_limbs y
  have HX := Lib.hid hx
  have HY := Lib.hid hy
  have HXV := Lib.hid hxv
  have HYV := Lib.hid hyv
  clear hx hy hxv hyv
  go_enter Try.func60, Try.ntmps60
  go_wp2
  go_loopw [5, 6, 7] (fun v5 v6 v7 wr => PlusRel w a b v5 v6 v7 wr) (fun _ _ i _ => max a.length b.length + 1 - (intOf i).toNat)
  case atStart =>
    exact ⟨0, 0, [], Nat.zero_le _, rfl, rfl, by decide, rfl, Sm.nil, by omega, .inl (Nat.zero_le _), by simp [val], OwnR.nil _ _ _ _, Below.refl _ _⟩
  case round =>
    obtain ⟨k, cy, o, hk, rfl, rfl, hcy, hol, hos, hend, hlow, hv, hown, hbl⟩ := hrel
    have HOL := Lib.hid hol
    have HV := Lib.hid hv
    have HLOW := Lib.hid hlow
    have HEND := Lib.hid hend
    clear hol hv hlow hend
    have hsa := ha.sm.nth k
    have hsb := hb.sm.nth k
    by_cases hgo : k < a.length ∨ k < b.length ∨ 0 < cy
    · have hkm : k ≤ max a.length b.length := by
        rcases hgo with h | h | h
        · omega
        · omega
        · have := HEND.out; omega
      have hcase : (k < a.length) ∨ (¬ k < a.length ∧ k < b.length) ∨ (¬ k < a.length ∧ ¬ k < b.length ∧ 0 < cy) := by omega
      clear hgo
      rcases hcase with h1 | ⟨h1, h2⟩ | ⟨h1, h2, h3⟩
      all_goals (
        go_wp2_with fail
        refine (ref_limb A a _ c rfl (k : Int) (by omega) _ (ha.below hbl)).mono ?_
        rintro e w1 ⟨rfl, rfl⟩
        rw [Int.toNat_natCast]
        go_wp2_with fail
        refine (ref_limb B b _ d rfl (k : Int) (by omega) _ (hb.below hbl)).mono ?_
        rintro e w1 ⟨rfl, rfl⟩
        rw [Int.toNat_natCast]
        go_wp2_with (at_builtin; refine wpList_app elem32 rfl _ _ rfl (hown.alloc _) rfl ⟨_, 0, none⟩ rfl ((nth a k + nth b k + cy) % 4294967296) ?c1 ?c2 ?c3 (fun v' w' hown' hgr hbb => ?_))
        case c1 => simp [go_sem]
        case c2 => have := HOL.out; omega
        case c3 => have := hbl.size; simp; omega
        go_roundw
        case rel =>
          have st := plus_step HOL.out HV.out
          refine ⟨k + 1, (nth a k + nth b k + cy) / 4294967296, o ++ [(nth a k + nth b k + cy) % 4294967296], by omega, vi (by omega), vi (by omega), by omega, by simp [HOL.out], hos.append (Sm.cons (Nat.mod_lt _ (by decide)) Sm.nil), ?_, ?_, st, hown', (hbl.alloc hbl.size _).trans hbb⟩
          · intro hk1
            rw [nth_ge a (by omega), nth_ge b (by omega)]
            omega
          · by_cases hkk : k + 1 ≤ max a.length b.length
            · exact .inl hkk
            · refine .inr ?_
              have hv := HV.out
              rw [List.take_of_length_le (by omega), List.take_of_length_le (by omega)] at hv
              first
              | (exfalso; omega)
              | (have : cy = 1 := by omega
                 rw [this, Nat.mul_one] at hv
                 rw [Nat.add_sub_cancel]; omega)
        case measure => first | (simp [intOf]; done) | (simp [intOf]; omega))
    · have hka : a.length ≤ k := by omega
      have hkb : b.length ≤ k := by omega
      have hc0 : cy = 0 := by omega
      subst hc0
      have hv : val o = x + y := by
        have := HV.out
        rw [List.take_of_length_le hka, List.take_of_length_le hkb, HXV.out, HYV.out] at this
        omega
      have ho : o = limbs (x + y) := by
        refine limbs_eq_of hos hv HOL.out ?_
        rcases Nat.eq_zero_or_pos k with h0 | h0
        · exact .inl h0
        · refine .inr ?_
          rcases HLOW.out with h1 | h1
          · by_cases hab : b.length ≤ a.length
            · have hk2 : k = a.length := by omega
              have := limbs_lowP HX.out (by omega)
              rw [hk2]; omega
            · have hk2 : k = b.length := by omega
              have := limbs_lowP HY.out (by omega)
              rw [hk2]; omega
          · rw [HXV.out, HYV.out] at h1; exact h1
      have HO := Lib.hid ho
      clear ho hv
      have g1 : ¬ (k < a.length) := by omega
      have g2 : ¬ (k < b.length) := by omega
      clear hgo
      obtain ⟨A', c', rfl, hnc, hO⟩ := hown.own hos (by rw [HOL.out]; omega)
      rw [HO.out] at hO hnc
      go_wp2
      go_ret
      exact ⟨A', c', by rw [HO.out]; rfl, hnc, hO, hbl⟩
end Go.Proofs.Ytkepjhgafpbecaa
