/- Walks: the document's long division. -/
import Derived.Test.YtenekbfnlbipiaaDoorTnA
import Derived.Test.YtenekbfnlbipiaaDoorPs
import Derived.Test.YtenekbfnlbipiaaDoorSub
import Derived.Test.YtenekbfnlbipiaaDoorDn
import Derived.Deep.RegionHeld3
namespace Go.Proofs.YtenekbfnlbipiaaDoor
open Go.RowKit
set_option linter.unusedVariables false
set_option linter.unusedSimpArgs false
set_option maxHeartbeats 4000000
set_option maxRecDepth 100000

theorem limbs_self {o : List Nat} {x : Nat} (hs : Sm o) (hv : val o = x) (h : o.length = 0 ∨ 4294967296 ^ (o.length - 1) ≤ x) : o = limbs x := by
  subst hv
  rw [limbs_prefix hs, List.take_of_length_le]
  rcases h with h | h
  · omega
  · rcases Nat.lt_or_ge (limbs (val o)).length o.length with h1 | h1
    · have := (length_limbs_le (val o) (o.length - 1)).1 (by omega)
      omega
    · exact h1
theorem val_low {l : List Nat} (hs : Sm l) (hl : l.getLast? ≠ some 0) (h0 : 0 < l.length) : 4294967296 ^ (l.length - 1) ≤ val l := by
  have h1 := limbs_of hs hl
  have h2 : val l ≠ 0 := by
    intro e
    rw [e, limbs_zero] at h1
    rw [← h1] at h0; simp at h0
  have := limbs_low h2
  rwa [h1] at this
theorem ref_double (v : Value) (l : List Nat) (bit B : Nat) (hb : bit < 2) (hl : l.length ≤ 1000000) (hs : Sm l) (hlast : l.getLast? ≠ some 0) (w : World) (hB : B ≤ w.heap.size) (h : OwnR w B 90 .u32 v l) :
    Calls Tryd.prog 102 #[v, .int .u32 (bit : Int)] w fun e w' => ∃ v', e = .returned v' ∧ OwnR w' B 90 .u32 v' (limbs (2 * val l + bit)) ∧ Below B w w' := by
  obtain ⟨A, c, rfl⟩ := h.len.2
  have hlow := Lib.hid (fun h0 => val_low hs hlast h0)
  go_enter Tryd.func102, Tryd.ntmps102
  go_wp2
  go_loopw [1, 5] (fun v1 v5 wr => ∃ (k cy : Nat) (o : List Nat), k ≤ l.length ∧ v5 = .int .i64 (k : Int) ∧ v1 = .int .u32 (cy : Int) ∧ cy < 2 ∧ o.length = l.length ∧ Sm o ∧ (∀ j, k ≤ j → nth o j = nth l j) ∧ val o + 4294967296 ^ k * cy = val l + bit + (2 - 1) * val (l.take k) ∧ OwnR wr B 90 .u32 (.slice A l.length c) o ∧ Below B w wr) (fun _ v5 _ => l.length - (intOf v5).toNat)
  case atStart => exact ⟨0, bit, l, Nat.zero_le _, rfl, rfl, hb, rfl, hs, fun _ _ => rfl, by simp [val], h, Below.refl _ _⟩
  case round =>
    obtain ⟨k, cy, o, hk, rfl, rfl, hcy, hol, hos, hoj, hv, hown, hbl⟩ := hrel
    have HV := Lib.hid hv
    have HOJ := Lib.hid hoj
    have HOL := Lib.hid hol
    clear hv hoj hol
    by_cases hk1 : k < l.length
    · obtain ⟨g, rfl, hgB, hgl, hn', hfz, hcell⟩ := hown.addr (by rw [HOL.out]; omega)
      have hx := hcell k (by rw [HOL.out]; exact hk1)
      have hfk := hfz k
      have hxs := hos.nth k
      obtain ⟨x, hxe⟩ : ∃ x, x = nth o k := ⟨_, rfl⟩
      rw [← hxe] at hx hxs
      have HX := Lib.hid hxe
      have hst := ten_step (ten := 2) (by rw [HOL.out]; exact hk1) (HOJ.out k (Nat.le_refl _)).symm (by decide) HV.out
      rw [← hxe] at hst
      obtain ⟨y, hy⟩ : ∃ y, y = (cy + x * 2) % 4294967296 := ⟨_, rfl⟩
      obtain ⟨d, hd⟩ : ∃ d, d = (cy + x * 2) / 4294967296 := ⟨_, rfl⟩
      rw [← hy, ← hd] at hst
      have hd2 : d < 2 := by omega
      have hdx : (x : Int) / 2147483648 = (d : Int) := by omega
      have hor : bits BinOp.or IntKind.u32 ((x : Int) * 2 % 4294967296) (cy : Int) = (y : Int) := by
        have e1 : (x : Int) * 2 % 4294967296 = ((x * 2 % 4294967296 : Nat) : Int) := by omega
        rw [e1, u32_or_nat _ _ (by omega) (by omega)]
        have h1 := Nat.two_pow_add_eq_or_of_lt (i := 1) (b := cy) hcy (x * 2 % 4294967296 / 2)
        rw [show 2 ^ 1 * (x * 2 % 4294967296 / 2) = x * 2 % 4294967296 by omega] at h1
        rw [← h1]
        omega
      have hgd : decide (((k : Nat) : Int) < ((l.length : Nat) : Int)) = true := by simp; omega
      have ho' := hown.poke (i := k) (y := y) (E := (y : Int)) (by rw [HOL.out]; exact hk1) rfl
      have hb' := hbl.setCell (p := ⟨g, k, none⟩) hgB (.int .u32 (y : Int))
      have HST := Lib.hid hst
      have hy32 : y < 4294967296 := by omega
      clear hst hxe hfz hcell hown hbl hy hd hn'
      go_wp2
      go_roundw
      case rel => exact ⟨k + 1, d, o.set k y, hk1, vi (by omega), by first | rfl | exact vi (by omega), hd2, by rw [List.length_set, HOL.out], hos.set k y hy32, fun j hj => by rw [nth_set_ne o k j y (by omega)]; exact HOJ.out j (by omega), HST.out, ho', hb'⟩
      case measure => first | (simp [intOf]; done) | (simp [intOf]; omega)
    · obtain rfl : k = l.length := by omega
      have hgd : decide (((l.length : Nat) : Int) < ((l.length : Nat) : Int)) = false := by simp
      have hv := HV.out
      rw [List.take_length] at hv
      have hol := HOL.out
      rcases (show cy = 0 ∨ cy = 1 by omega) with rfl | rfl
      · have e : o = limbs (2 * val l + bit) := limbs_self hos (by omega) (by
          rcases Nat.eq_zero_or_pos l.length with h0 | h0
          · left; omega
          · right; have := hlow.out h0; rw [hol]; omega)
        have HE := Lib.hid e
        clear hv hol e
        go_wp2
        go_ret
        rw [← HE.out]
        exact ⟨_, rfl, hown, hbl⟩
      · have e : o ++ [1] = limbs (2 * val l + bit) := limbs_self (hos.append (Sm.cons (by decide) Sm.nil)) (by rw [val_append, hol]; simp [val]; omega) (by
          right
          rw [List.length_append, hol]
          simp only [List.length_cons, List.length_nil, Nat.add_sub_cancel]
          omega)
        have HE := Lib.hid e
        clear hv e hol
        have hsz := hbl.size
        go_wp2_with (first
          | (at_builtin
             refine wpList_app elem32 rfl _ _ rfl (hown.alloc _) rfl ⟨_, 0, none⟩ rfl 1 ?c1 ?c2 ?c3 (fun v' w' hown' hgr hbb => ?_)
             case c1 => simp [go_sem]
             case c2 => have := HOL.out; omega
             case c3 => simp only [World.size_alloc]; omega))
        go_ret
        rw [← HE.out]
        exact ⟨_, rfl, hown', (hbl.alloc (by omega) _).trans hbb⟩
end Go.Proofs.YtenekbfnlbipiaaDoor
