/- Walks: the document's down and both packages' Down. -/
import Derived.Test.YtenekbfnlbipiaaDoorSub
import Derived.Test.YtenekbfnlbipiaaDoorE
import Derived.Test.YtenekbfnlbipiaaDoorPl2
import Derived.Test.YtenekbfnlbipiaaDoorM
import Derived.Test.YtenekbfnlbipiaaDoorPs
import Derived.Deep.RegionHeld3
namespace Go.Proofs.YtenekbfnlbipiaaDoor
open Go.RowKit
set_option linter.unusedVariables false
set_option linter.unusedSimpArgs false
set_option maxHeartbeats 4000000
set_option maxRecDepth 100000

/-- A number over a power of two, or the fault. -/
def downS (l : List Nat) (n : Int) : List Nat × Int := if chk l = 0 then if n < 0 then ([], 2) else (limbs (val l / 2 ^ n.toNat), 0) else ([], chk l)
theorem down_split (v m j : Nat) : v / 2 ^ (m % 32) / 4294967296 ^ (m / 32 + j) = v / 2 ^ m / 4294967296 ^ j := by
  rw [Nat.pow_add, ← Nat.div_div_eq_div_mul]
  congr 1
  rw [Nat.div_div_eq_div_mul]
  congr 1
  have : 4294967296 ^ (m / 32) = 2 ^ (32 * (m / 32)) := by rw [Nat.pow_mul]
  rw [this, ← Nat.pow_add]
  congr 1
  omega
theorem down_zero {l : List Nat} (h : Sm l) {m : Nat} (hm : l.length ≤ m / 32) : val l / 2 ^ m = 0 := by
  refine Nat.div_eq_of_lt (Nat.lt_of_lt_of_le (val_lt h) ?_)
  rw [show 4294967296 = 2 ^ 32 from rfl, ← Nat.pow_mul]
  exact Nat.pow_le_pow_right (by decide) (by omega)
theorem down_lt {l : List Nat} (h : Sm l) {m : Nat} (hm : m / 32 ≤ l.length) : val l / 2 ^ m < 4294967296 ^ (l.length - m / 32) := by
  rw [Nat.div_lt_iff_lt_mul (Nat.two_pow_pos m)]
  refine Nat.lt_of_lt_of_le (val_lt h) ?_
  rw [show 4294967296 = 2 ^ 32 from rfl, ← Nat.pow_mul, ← Nat.pow_mul, ← Nat.pow_add]
  exact Nat.pow_le_pow_right (by decide) (by omega)

theorem ref_down (A : Option Addr) (l : List Nat) (n c : Nat) (hn : n = l.length) (m : Nat) (hm : m ≤ 9223372036854775807) (hl16 : l.length ≤ 1000000) (w : World) (h : Rd w A l) :
    Calls Tryd.prog 57 #[.slice A n c, .int .i64 (m : Int)] w (LimbsOne w (val l / 2 ^ m)) := by
  subst hn
  go_enter Tryd.func57, Tryd.ntmps57
  go_wp2
  go_loopw [5, 6] (fun v i wr => ∃ (k : Nat) (o : List Nat), (m / 32 + k ≤ l.length ∨ k = 0) ∧ i = .int .i64 (((m / 32 + k : Nat)) : Int) ∧ o.length = k ∧ Sm o ∧ (∀ j, j < k → nth o j = val l / 2 ^ m / 4294967296 ^ j % 4294967296) ∧ OwnR wr w.heap.size 90 .u32 v o ∧ Below w.heap.size w wr) (fun _ i _ => l.length - (intOf i).toNat)
  case atStart =>
    exact ⟨0, [], .inr rfl, vi (by omega), rfl, Sm.nil, fun j hj => by omega, OwnR.nil _ _ _ _, Below.refl _ _⟩
  case round =>
    obtain ⟨k, o, hk, rfl, hol, hos, hoj, hown, hbl⟩ := hrel
    have HOL := Lib.hid hol
    have HOJ := Lib.hid hoj
    have HK := Lib.hid hk
    clear hol hoj hk
    by_cases hlt : m / 32 + k < l.length
    · have hrd := h.below hbl
      have ha := h.sm.nth (m / 32 + k + 1)
      have hx := h.sm.nth (m / 32 + k)
      have hor : bits BinOp.or IntKind.u64 ((nth l (m / 32 + k) : Nat) : Int) (((nth l (m / 32 + k + 1) : Nat) : Int) * 4294967296) = ((nth l (m / 32 + k + 1) * 4294967296 + nth l (m / 32 + k) : Nat) : Int) := by
        have e : (((nth l (m / 32 + k + 1) : Nat) : Int) * 4294967296) = ((nth l (m / 32 + k + 1) * 4294967296 : Nat) : Int) := by omega
        rw [e, u64_or_nat _ _ (by omega) (by omega), Nat.or_comm]
        have := Nat.two_pow_add_eq_or_of_lt (i := 32) (b := nth l (m / 32 + k)) hx (nth l (m / 32 + k + 1))
        rw [show nth l (m / 32 + k + 1) * 4294967296 = 2 ^ 32 * nth l (m / 32 + k + 1) from by omega, ← this]
      obtain ⟨P, hP⟩ : ∃ P : Nat, P = nth l (m / 32 + k + 1) * 4294967296 + nth l (m / 32 + k) := ⟨_, rfl⟩
      rw [← hP] at hor
      have hPb : P < 18446744073709551616 := by omega
      have HP := Lib.hid hP
      clear hP
      obtain ⟨q, hq⟩ : ∃ q : Nat, q = m / 32 + k := ⟨_, rfl⟩
      rw [← hq] at hor ha hx hlt ⊢
      have HQ := Lib.hid hq
      clear hq
      go_wp2_with fail
      refine (ref_limb A l _ c rfl (q : Int) (by omega) _ hrd).mono ?_
      rintro e w1 ⟨rfl, rfl⟩
      rw [Int.toNat_natCast]
      go_wp2_with fail
      refine (ref_limb A l _ c rfl ((q : Int) + 1) (by omega) _ hrd).mono ?_
      rintro e w1 ⟨rfl, rfl⟩
      rw [show ((q : Int) + 1).toNat = q + 1 from by omega]
      go_wp2_with (at_builtin; refine wpList_app elem32 rfl _ _ rfl (hown.alloc _) rfl ⟨_, 0, none⟩ rfl (P / 2 ^ (m % 32) % 4294967296) ?c1 ?c2 ?c3 (fun v' w' hown' hgr hbb => ?_))
      case c1 =>
        rw [← cast_shr]
        simp [go_sem]
      case c2 => have := HOL.out; have := HQ.out; omega
      case c3 => have := hbl.size; simp; omega
      go_roundw
      case rel =>
        have st := low_step h.sm q (m % 32) (by omega)
        have hP := HP.out
        rw [← HQ.out] at hP
        rw [← hP, HQ.out, down_split] at st
        refine ⟨k + 1, o ++ [P / 2 ^ (m % 32) % 4294967296], .inl (by have := HQ.out; omega), vi (by have := HQ.out; omega), by simp [HOL.out], hos.append (Sm.cons (Nat.mod_lt _ (by decide)) Sm.nil), ?_, hown', (hbl.alloc hbl.size _).trans hbb⟩
        intro j hj
        by_cases hjk : j = k
        · subst hjk
          rw [nth_lt _ (by simp [HOL.out])]
          rw [List.getElem_append_right (by rw [HOL.out]; omega)]
          simp only [HOL.out, Nat.sub_self, List.getElem_cons_zero]
          exact st
        · rw [nth_lt _ (by simp [HOL.out]; omega), List.getElem_append_left (by rw [HOL.out]; omega), ← nth_lt]
          exact HOJ.out j (by omega)
      case measure => have := HQ.out; first | (simp [intOf]; done) | (simp [intOf]; omega)
    · have hv : val o = val l / 2 ^ m := by
        rcases HK.out with h1 | h1
        · refine val_of_nth hos ?_ fun j hj => HOJ.out j (by rw [← HOL.out]; exact hj)
          rw [HOL.out]
          have := down_lt h.sm (m := m) (by omega)
          rw [show k = l.length - m / 32 from by omega]; exact this
        · have : o = [] := List.eq_nil_of_length_eq_zero (by rw [HOL.out, h1])
          rw [this, down_zero h.sm (by omega)]; rfl
      have HV := Lib.hid hv
      clear hv
      obtain ⟨A', c', rfl, hnc, ho⟩ := hown.own hos (by rw [HOL.out]; have := HK.out; omega)
      go_wp2_with fail
      refine (ref_Trim _ _ _ _ rfl hnc _ ho.rd).mono ?_
      rintro e w1 ⟨rfl, rfl⟩
      go_wp2
      go_ret
      have ho2 := ho.trim
      have hle := limbs_length_le hos
      rw [HV.out] at ho2 hle
      exact ⟨_, _, by rw [← HV.out]; rfl, by omega, ho2, hbl⟩
end Go.Proofs.YtenekbfnlbipiaaDoor
namespace Go.Proofs.YtenekbfnlbipiaaDoor
open Go.RowKit
set_option linter.unusedVariables false
set_option linter.unusedSimpArgs false
set_option maxHeartbeats 4000000
set_option maxRecDepth 100000

theorem limbs_self {o : List Nat} {x : Nat} (hs : Sm o) (hv : val o = x) (h : o.length = 0 ∨ 4294967296 ^ (o.length - 1) ≤ x) : o = limbs x := by
  subst hv
  rw [limbs_prefix hs, List.take_of_length_le]
  rcases h with h | h
  · omega
  · rcases Nat.lt_or_ge (limbs (val o)).length o.length with h1 | h1
    · have := (length_limbs_le (val o) (o.length - 1)).1 (by omega)
      omega
    · exact h1
theorem val_low {l : List Nat} (hs : Sm l) (hl : l.getLast? ≠ some 0) (h0 : 0 < l.length) : 4294967296 ^ (l.length - 1) ≤ val l := by
  have h1 := limbs_of hs hl
  have h2 : val l ≠ 0 := by
    intro e
    rw [e, limbs_zero] at h1
    rw [← h1] at h0; simp at h0
  have := limbs_low h2
  rwa [h1] at this
theorem ref_double (v : Value) (l : List Nat) (bit B : Nat) (hb : bit < 2) (hl : l.length ≤ 1000000) (hs : Sm l) (hlast : l.getLast? ≠ some 0) (w : World) (hB : B ≤ w.heap.size) (h : OwnR w B 90 .u32 v l) :
    Calls Tryd.prog 102 #[v, .int .u32 (bit : Int)] w fun e w' => ∃ v', e = .returned v' ∧ OwnR w' B 90 .u32 v' (limbs (2 * val l + bit)) ∧ Below B w w' := by
  obtain ⟨A, c, rfl⟩ := h.len.2
  have hlow := Lib.hid (fun h0 => val_low hs hlast h0)
  go_enter Tryd.func102, Tryd.ntmps102
  go_wp2
  go_loopw [1, 5] (fun v1 v5 wr => ∃ (k cy : Nat) (o : List Nat), k ≤ l.length ∧ v5 = .int .i64 (k : Int) ∧ v1 = .int .u32 (cy : Int) ∧ cy < 2 ∧ o.length = l.length ∧ Sm o ∧ (∀ j, k ≤ j → nth o j = nth l j) ∧ val o + 4294967296 ^ k * cy = val l + bit + (2 - 1) * val (l.take k) ∧ OwnR wr B 90 .u32 (.slice A l.length c) o ∧ Below B w wr) (fun _ v5 _ => l.length - (intOf v5).toNat)
  case atStart => exact ⟨0, bit, l, Nat.zero_le _, rfl, rfl, hb, rfl, hs, fun _ _ => rfl, by simp [val], h, Below.refl _ _⟩
  case round =>
    obtain ⟨k, cy, o, hk, rfl, rfl, hcy, hol, hos, hoj, hv, hown, hbl⟩ := hrel
    have HV := Lib.hid hv
    have HOJ := Lib.hid hoj
    have HOL := Lib.hid hol
    clear hv hoj hol
    by_cases hk1 : k < l.length
    · obtain ⟨g, rfl, hgB, hgl, hn', hfz, hcell⟩ := hown.addr (by rw [HOL.out]; omega)
      have hx := hcell k (by rw [HOL.out]; exact hk1)
      have hfk := hfz k
      have hxs := hos.nth k
      obtain ⟨x, hxe⟩ : ∃ x, x = nth o k := ⟨_, rfl⟩
      rw [← hxe] at hx hxs
      have HX := Lib.hid hxe
      have hst := ten_step (ten := 2) (by rw [HOL.out]; exact hk1) (HOJ.out k (Nat.le_refl _)).symm (by decide) HV.out
      rw [← hxe] at hst
      obtain ⟨y, hy⟩ : ∃ y, y = (cy + x * 2) % 4294967296 := ⟨_, rfl⟩
      obtain ⟨d, hd⟩ : ∃ d, d = (cy + x * 2) / 4294967296 := ⟨_, rfl⟩
      rw [← hy, ← hd] at hst
      have hd2 : d < 2 := by omega
      have hdx : (x : Int) / 2147483648 = (d : Int) := by omega
      have hor : bits BinOp.or IntKind.u32 ((x : Int) * 2 % 4294967296) (cy : Int) = (y : Int) := by
        have e1 : (x : Int) * 2 % 4294967296 = ((x * 2 % 4294967296 : Nat) : Int) := by omega
        rw [e1, u32_or_nat _ _ (by omega) (by omega)]
        have h1 := Nat.two_pow_add_eq_or_of_lt (i := 1) (b := cy) hcy (x * 2 % 4294967296 / 2)
        rw [show 2 ^ 1 * (x * 2 % 4294967296 / 2) = x * 2 % 4294967296 by omega] at h1
        rw [← h1]
        omega
      have hgd : decide (((k : Nat) : Int) < ((l.length : Nat) : Int)) = true := by simp; omega
      have ho' := hown.poke (i := k) (y := y) (E := (y : Int)) (by rw [HOL.out]; exact hk1) rfl
      have hb' := hbl.setCell (p := ⟨g, k, none⟩) hgB (.int .u32 (y : Int))
      have HST := Lib.hid hst
      have hy32 : y < 4294967296 := by omega
      clear hst hxe hfz hcell hown hbl hy hd hn'
      go_wp2
      go_roundw
      case rel => exact ⟨k + 1, d, o.set k y, hk1, vi (by omega), by first | rfl | exact vi (by omega), hd2, by rw [List.length_set, HOL.out], hos.set k y hy32, fun j hj => by rw [nth_set_ne o k j y (by omega)]; exact HOJ.out j (by omega), HST.out, ho', hb'⟩
      case measure => first | (simp [intOf]; done) | (simp [intOf]; omega)
    · obtain rfl : k = l.length := by omega
      have hgd : decide (((l.length : Nat) : Int) < ((l.length : Nat) : Int)) = false := by simp
      have hv := HV.out
      rw [List.take_length] at hv
      have hol := HOL.out
      rcases (show cy = 0 ∨ cy = 1 by omega) with rfl | rfl
      · have e : o = limbs (2 * val l + bit) := limbs_self hos (by omega) (by
          rcases Nat.eq_zero_or_pos l.length with h0 | h0
          · left; omega
          · right; have := hlow.out h0; rw [hol]; omega)
        have HE := Lib.hid e
        clear hv hol e
        go_wp2
        go_ret
        rw [← HE.out]
        exact ⟨_, rfl, hown, hbl⟩
      · have e : o ++ [1] = limbs (2 * val l + bit) := limbs_self (hos.append (Sm.cons (by decide) Sm.nil)) (by rw [val_append, hol]; simp [val]; omega) (by
          right
          rw [List.length_append, hol]
          simp only [List.length_cons, List.length_nil, Nat.add_sub_cancel]
          omega)
        have HE := Lib.hid e
        clear hv e hol
        have hsz := hbl.size
        go_wp2_with (first
          | (at_builtin
             refine wpList_app elem32 rfl _ _ rfl (hown.alloc _) rfl ⟨_, 0, none⟩ rfl 1 ?c1 ?c2 ?c3 (fun v' w' hown' hgr hbb => ?_)
             case c1 => simp [go_sem]
             case c2 => have := HOL.out; omega
             case c3 => simp only [World.size_alloc]; omega))
        go_ret
        rw [← HE.out]
        exact ⟨_, rfl, hown', (hbl.alloc (by omega) _).trans hbb⟩
end Go.Proofs.YtenekbfnlbipiaaDoor
namespace Go.Proofs.YtenekbfnlbipiaaDoor
open Go.RowKit
set_option linter.unusedVariables false
set_option linter.unusedSimpArgs false
set_option maxHeartbeats 4000000
set_option maxRecDepth 100000

/-- A list of the call's own, alone in its row. -/
def LimbsOwn (w : World) (v : Nat) (e : Ending) (w' : World) : Prop :=
  ∃ V, e = .returned V ∧ OwnR w' w.heap.size 90 .u32 V (limbs v) ∧ Below w.heap.size w w'
theorem Row.ownT {w : World} {t : TypeId} {g B : Nat} {l : List Nat} (h : Row w t g l) (hB : B ≤ g) (hl : l.length ≤ 1000000000000) : OwnR w B t .u32 (.slice (some ⟨g, 0, none⟩) l.length l.length) l := by
  refine ⟨by simp, .inr ⟨g, l.length, c32 l, rfl, hB, h, Nat.le_refl _, by unfold maxLen; omega, by rw [c32_size, Nat.mul_one], ?_⟩⟩
  rw [Nat.mul_one, List.take_of_length_le (by rw [Array.length_toList, c32_size]; exact Nat.le_refl _)]
  simp [c32, ints]
theorem OwnR.takeR {w : World} {B : Nat} {e : TypeId} {k : IntKind} {A : Option Addr} {n c m : Nat} {l : List Nat} (h : OwnR w B e k (.slice A n c) l) (hm : m ≤ l.length) : OwnR w B e k (.slice A m c) (l.take m) := by
  have hlm : (l.take m).length = m := by rw [List.length_take]; omega
  unfold OwnR at h ⊢
  obtain ⟨h1, h2⟩ := h
  refine ⟨by simp, ?_⟩
  rcases h2 with ⟨h2, h3⟩ | ⟨g, cap, cur, e0, h3, h4, h5, h6, h7, h8⟩
  · injection h2 with a1 a2 a3
    subst a1 a3
    have : m = 0 := by omega
    subst this
    exact .inl ⟨rfl, by simp⟩
  · injection e0 with a1 a2 a3
    subst a1 a3
    refine .inr ⟨g, c, cur, by rw [hlm], h3, h4, by omega, h6, h7, ?_⟩
    rw [hlm]
    have : ints k (l.take m) = (ints k l).take m := by unfold ints; rw [List.map_take]
    rw [this, ← h8, List.take_take, Nat.mul_one, Nat.mul_one, Nat.min_eq_left hm]
theorem OwnR.trimR {w : World} {B : Nat} {e : TypeId} {A : Option Addr} {n c : Nat} {l : List Nat} (h : OwnR w B e .u32 (.slice A n c) l) (hs : Sm l) : OwnR w B e .u32 (.slice A (limbs (val l)).length c) (limbs (val l)) := by
  have h1 := h.takeR (m := (limbs (val l)).length) (limbs_length_le hs)
  rwa [← limbs_prefix hs] at h1
theorem OwnR.baseT {w : World} {B B' : Nat} {e : TypeId} {k : IntKind} {v : Value} {l : List Nat} (h : OwnR w B e k v l) (hB : B' ≤ B) : OwnR w B' e k v l := by
  refine ⟨h.1, ?_⟩
  rcases h.2 with hn | ⟨g, cap, cur, e0, hg, r⟩
  · exact .inl hn
  · exact .inr ⟨g, cap, cur, e0, Nat.le_trans hB hg, r⟩
theorem OwnR.sameT {w w' : World} {B : Nat} {e : TypeId} {k : IntKind} {v : Value} {l : List Nat} (h : OwnR w B e k v l) (hs : ∀ g, v.ownBlock = some g → w'.heap[g]? = w.heap[g]?) : OwnR w' B e k v l := by
  refine ⟨h.1, ?_⟩
  rcases h.2 with hn | ⟨g, cap, cur, rfl, hg, hh, r⟩
  · exact .inl hn
  · exact .inr ⟨g, cap, cur, rfl, hg, (hs g rfl).trans hh, r⟩
theorem ref_downF (A : Option Addr) (l : List Nat) (n c : Nat) (hn : n = l.length) (m : Nat) (hm : m ≤ 9223372036854775807) (hl16 : l.length ≤ 1000000) (w : World) (h : Rd w A l) :
    Calls Tryd.prog 57 #[.slice A n c, .int .i64 (m : Int)] w (LimbsOwn w (val l / 2 ^ m)) := by
  subst hn
  go_enter Tryd.func57, Tryd.ntmps57
  go_wp2
  go_loopw [5, 6] (fun v i wr => ∃ (k : Nat) (o : List Nat), (m / 32 + k ≤ l.length ∨ k = 0) ∧ i = .int .i64 (((m / 32 + k : Nat)) : Int) ∧ o.length = k ∧ Sm o ∧ (∀ j, j < k → nth o j = val l / 2 ^ m / 4294967296 ^ j % 4294967296) ∧ OwnR wr w.heap.size 90 .u32 v o ∧ Below w.heap.size w wr) (fun _ i _ => l.length - (intOf i).toNat)
  case atStart =>
    exact ⟨0, [], .inr rfl, vi (by omega), rfl, Sm.nil, fun j hj => by omega, OwnR.nil _ _ _ _, Below.refl _ _⟩
  case round =>
    obtain ⟨k, o, hk, rfl, hol, hos, hoj, hown, hbl⟩ := hrel
    have HOL := Lib.hid hol
    have HOJ := Lib.hid hoj
    have HK := Lib.hid hk
    clear hol hoj hk
    by_cases hlt : m / 32 + k < l.length
    · have hrd := h.below hbl
      have ha := h.sm.nth (m / 32 + k + 1)
      have hx := h.sm.nth (m / 32 + k)
      have hor : bits BinOp.or IntKind.u64 ((nth l (m / 32 + k) : Nat) : Int) (((nth l (m / 32 + k + 1) : Nat) : Int) * 4294967296) = ((nth l (m / 32 + k + 1) * 4294967296 + nth l (m / 32 + k) : Nat) : Int) := by
        have e : (((nth l (m / 32 + k + 1) : Nat) : Int) * 4294967296) = ((nth l (m / 32 + k + 1) * 4294967296 : Nat) : Int) := by omega
        rw [e, u64_or_nat _ _ (by omega) (by omega), Nat.or_comm]
        have := Nat.two_pow_add_eq_or_of_lt (i := 32) (b := nth l (m / 32 + k)) hx (nth l (m / 32 + k + 1))
        rw [show nth l (m / 32 + k + 1) * 4294967296 = 2 ^ 32 * nth l (m / 32 + k + 1) from by omega, ← this]
      obtain ⟨P, hP⟩ : ∃ P : Nat, P = nth l (m / 32 + k + 1) * 4294967296 + nth l (m / 32 + k) := ⟨_, rfl⟩
      rw [← hP] at hor
      have hPb : P < 18446744073709551616 := by omega
      have HP := Lib.hid hP
      clear hP
      obtain ⟨q, hq⟩ : ∃ q : Nat, q = m / 32 + k := ⟨_, rfl⟩
      rw [← hq] at hor ha hx hlt ⊢
      have HQ := Lib.hid hq
      clear hq
      go_wp2_with fail
      refine (ref_limb A l _ c rfl (q : Int) (by omega) _ hrd).mono ?_
      rintro e w1 ⟨rfl, rfl⟩
      rw [Int.toNat_natCast]
      go_wp2_with fail
      refine (ref_limb A l _ c rfl ((q : Int) + 1) (by omega) _ hrd).mono ?_
      rintro e w1 ⟨rfl, rfl⟩
      rw [show ((q : Int) + 1).toNat = q + 1 from by omega]
      go_wp2_with (at_builtin; refine wpList_app elem32 rfl _ _ rfl (hown.alloc _) rfl ⟨_, 0, none⟩ rfl (P / 2 ^ (m % 32) % 4294967296) ?c1 ?c2 ?c3 (fun v' w' hown' hgr hbb => ?_))
      case c1 =>
        rw [← cast_shr]
        simp [go_sem]
      case c2 => have := HOL.out; have := HQ.out; omega
      case c3 => have := hbl.size; simp; omega
      go_roundw
      case rel =>
        have st := low_step h.sm q (m % 32) (by omega)
        have hP := HP.out
        rw [← HQ.out] at hP
        rw [← hP, HQ.out, down_split] at st
        refine ⟨k + 1, o ++ [P / 2 ^ (m % 32) % 4294967296], .inl (by have := HQ.out; omega), vi (by have := HQ.out; omega), by simp [HOL.out], hos.append (Sm.cons (Nat.mod_lt _ (by decide)) Sm.nil), ?_, hown', (hbl.alloc hbl.size _).trans hbb⟩
        intro j hj
        by_cases hjk : j = k
        · subst hjk
          rw [nth_lt _ (by simp [HOL.out])]
          rw [List.getElem_append_right (by rw [HOL.out]; omega)]
          simp only [HOL.out, Nat.sub_self, List.getElem_cons_zero]
          exact st
        · rw [nth_lt _ (by simp [HOL.out]; omega), List.getElem_append_left (by rw [HOL.out]; omega), ← nth_lt]
          exact HOJ.out j (by omega)
      case measure => have := HQ.out; first | (simp [intOf]; done) | (simp [intOf]; omega)
    · have hv : val o = val l / 2 ^ m := by
        rcases HK.out with h1 | h1
        · refine val_of_nth hos ?_ fun j hj => HOJ.out j (by rw [← HOL.out]; exact hj)
          rw [HOL.out]
          have := down_lt h.sm (m := m) (by omega)
          rw [show k = l.length - m / 32 from by omega]; exact this
        · have : o = [] := List.eq_nil_of_length_eq_zero (by rw [HOL.out, h1])
          rw [this, down_zero h.sm (by omega)]; rfl
      have HV := Lib.hid hv
      clear hv
      obtain ⟨A', c', rfl, hnc, ho⟩ := hown.own hos (by rw [HOL.out]; have := HK.out; omega)
      go_wp2_with fail
      refine (ref_Trim _ _ _ _ rfl hnc _ ho.rd).mono ?_
      rintro e w1 ⟨rfl, rfl⟩
      go_wp2
      go_ret
      rw [← HV.out]
      exact ⟨_, rfl, hown.trimR hos, hbl⟩
theorem ref_lessF (A B : Option Addr) (a b : List Nat) (n m c d : Nat) (hn : n = a.length) (hm : m = b.length) (hbig : a.length ≤ 1000000) (hle : val b ≤ val a) (hlen : b.length ≤ a.length) (w : World) (ha : Rd w A a) (hb : Rd w B b) :
    Calls Tryd.prog 88 #[.slice A n c, .slice B m d] w (LimbsOwn w (val a - val b)) := by
  subst hn hm
  go_enter Tryd.func88, Tryd.ntmps88
  go_wp2
  go_loopw [5, 6, 7] (fun v5 v6 v7 wr => ∃ (k cy : Nat) (o : List Nat), k ≤ a.length ∧ v7 = .int .i64 (k : Int) ∧ v6 = .int .u64 (cy : Int) ∧ cy ≤ 1 ∧ o.length = k ∧ Sm o ∧ val o + val (b.take k) = val (a.take k) + 4294967296 ^ k * cy ∧ OwnR wr w.heap.size 90 .u32 v5 o ∧ Below w.heap.size w wr) (fun _ _ i _ => a.length - (intOf i).toNat)
  case atStart => exact ⟨0, 0, [], Nat.zero_le _, rfl, rfl, by decide, rfl, Sm.nil, by simp [val], OwnR.nil _ _ _ _, Below.refl _ _⟩
  case round =>
    obtain ⟨k, cy, o, hk, rfl, rfl, hcy, hol, hos, hv, hown, hbl⟩ := hrel
    have HOL := Lib.hid hol
    have HV := Lib.hid hv
    clear hol hv
    have hsa := ha.sm.nth k
    have hsb := hb.sm.nth k
    by_cases hk1 : k < a.length
    · go_wp2_with fail
      refine (ref_limb A a _ c rfl (k : Int) (by omega) _ (ha.below hbl)).mono ?_
      rintro e w1 ⟨rfl, rfl⟩
      rw [Int.toNat_natCast]
      go_wp2_with fail
      refine (ref_limb B b _ d rfl (k : Int) (by omega) _ (hb.below hbl)).mono ?_
      rintro e w1 ⟨rfl, rfl⟩
      rw [Int.toNat_natCast]
      obtain ⟨s1, hs1⟩ : ∃ s1 : Nat, s1 = nth a k + 4294967296 := ⟨_, rfl⟩
      obtain ⟨s2, hs2⟩ : ∃ s2 : Nat, s2 = s1 - nth b k := ⟨_, rfl⟩
      obtain ⟨s3, hs3⟩ : ∃ s3 : Nat, s3 = s2 - cy := ⟨_, rfl⟩
      have e1 : ((nth a k : Nat) : Int) + 4294967296 = (s1 : Int) := by omega
      have e2 : (s1 : Int) - ((nth b k : Nat) : Int) = (s2 : Int) := by omega
      have e3 : (s2 : Int) - (cy : Int) = (s3 : Int) := by omega
      have b1 : s1 < 8589934592 := by omega
      have b2 : s2 < 8589934592 := by omega
      have b3 : s3 < 8589934592 := by omega
      have b4 : s3 / 4294967296 ≤ 1 := by omega
      have w1 : IntKind.u64.wrap (s1 : Int) = (s1 : Int) := by rw [IntKind.wrap_u64]; omega
      have w2 : IntKind.u64.wrap (s2 : Int) = (s2 : Int) := by rw [IntKind.wrap_u64]; omega
      have w3 : IntKind.u64.wrap (s3 : Int) = (s3 : Int) := by rw [IntKind.wrap_u64]; omega
      have w4 : IntKind.u64.wrap (1 - (s3 : Int) / 4294967296) = ((1 - s3 / 4294967296 : Nat) : Int) := by rw [IntKind.wrap_u64]; omega
      have w5 : IntKind.u32.wrap (s3 : Int) = ((s3 % 4294967296 : Nat) : Int) := by rw [IntKind.wrap_u32]; omega
      have H3 : Hid (s3 = nth a k + 4294967296 - nth b k - cy) := by show s3 = _; omega
      clear hs1 hs2 hs3 hsa hsb
      go_wp2_with (at_builtin; refine wpList_app elem32 rfl _ _ rfl (hown.alloc _) rfl ⟨_, 0, none⟩ rfl (s3 % 4294967296) ?c1 ?c2 ?c3 (fun v' w' hown' hgr hbb => ?_))
      case c1 => first | (simp [go_sem]; done) | (simp [go_sem, w5]; done) | (simp [go_sem]; omega)
      case c2 => have := HOL.out; omega
      case c3 => have := hbl.size; simp; omega
      go_roundw
      case rel =>
        have hsa := ha.sm.nth k
        have hsb := hb.sm.nth k
        have core := sub_core (nth a k) (nth b k) cy hsa hsb hcy
        rw [← H3.out] at core
        have st := sub_alg (M := 4294967296 ^ k) core HV.out
        refine ⟨k + 1, 1 - s3 / 4294967296, o ++ [s3 % 4294967296], by omega, by go_num, ?_, by omega, by simp [HOL.out], hos.append (Sm.cons (Nat.mod_lt _ (by decide)) Sm.nil), ?_, hown', (hbl.alloc hbl.size _).trans hbb⟩
        · first | exact vi w4 | rfl | (refine vi ?_; omega)
        rw [val_take_succ', val_take_succ', val_append, HOL.out, Nat.pow_succ]
        have h1 : val [s3 % 4294967296] = s3 % 4294967296 := by simp [val]
        rw [h1]
        exact st
      case measure => first | (simp [intOf]; done) | (simp [intOf]; omega)
    · have hke : k = a.length := by omega
      have hfin : val o = val a - val b := by
        have h1 := HV.out
        rw [hke, List.take_length, List.take_of_length_le hlen] at h1
        refine sub_end ?_ h1 hcy hle
        rw [← hke, ← HOL.out]; exact val_lt hos
      have HF := Lib.hid hfin
      clear hfin hke
      obtain ⟨A', c', rfl, hnc, ho⟩ := hown.own hos (by rw [HOL.out]; omega)
      go_wp2_with fail
      refine (ref_Trim _ _ _ _ rfl hnc _ ho.rd).mono ?_
      rintro e w1 ⟨rfl, rfl⟩
      go_wp2
      go_ret
      rw [← HF.out]
      exact ⟨_, rfl, hown.trimR hos, hbl⟩
end Go.Proofs.YtenekbfnlbipiaaDoor
