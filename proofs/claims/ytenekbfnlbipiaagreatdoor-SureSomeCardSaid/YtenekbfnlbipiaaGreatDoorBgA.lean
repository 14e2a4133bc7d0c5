/- Walks of numeralbig: words of 32 bits, the small functions. -/
import Derived.Test.YtenekbfnlbipiaaGreatDoorBits
import Derived.Deep.RegionHeld3
import Derived.Deep.Cut
import Derived.Laws.CopyOwn
namespace Go.Proofs.YtenekbfnlbipiaaGreatDoor
open Go.RowKit
set_option linter.unusedVariables false
set_option linter.unusedSimpArgs false
set_option maxHeartbeats 4000000
set_option maxRecDepth 100000
namespace Bg

theorem rd_take {w : World} {A : Option Addr} {l : List Nat} (h : Rd w A l) (n : Nat) : Rd w A (l.take n) := by
  refine ⟨h.sm.take n, by have := h.len; simp; omega, fun hn => ?_⟩
  have hl : 0 < l.length := by simp at hn; omega
  obtain ⟨b, off, e, hc⟩ := h.open_ hl
  refine ⟨b, off, e, fun j hj => ?_⟩
  simp only [List.length_take] at hj
  rw [hc j (by omega)]
  have : nth (l.take n) j = nth l j := by
    rw [nth_lt _ (by simp; omega), nth_lt _ (by omega)]; simp
  rw [this]
theorem rd_trim {w : World} {A : Option Addr} {l : List Nat} (h : Rd w A l) : Rd w A (limbs (val l)) := by
  rw [limbs_prefix h.sm]; exact rd_take h _
theorem one_cells (l : List Nat) (v : Value) (hv : v ∈ ints .u32 l) : v.oneCell' = true := by
  unfold ints at hv
  obtain ⟨x, _, rfl⟩ := List.mem_map.1 hv
  rfl
theorem src32 {w : World} {b off : Nat} {l : List Nat} (hc : ∀ j, j < l.length → w.cell? ⟨b, off + j, none⟩ = some (.int .u32 ((nth l j : Nat) : Int))) (j : Nat) (v : Value) (hv : (ints .u32 l)[j]? = some v) : w.cell? (Addr.add ⟨b, off, none⟩ j) = some v := by
  have hj : j < l.length := by
    have := (List.getElem?_eq_some_iff.1 hv).1
    simpa using this
  rw [ints_get .u32 l j hj] at hv
  cases hv
  have e : Addr.add ⟨b, off, none⟩ j = ⟨b, off + j, none⟩ := by
    unfold Addr.add
    split
    · subst_vars; rfl
    · rfl
  rw [e]
  exact hc j hj
theorem run_copy32 (w : World) (g : Nat) (d l : List Nat) (A : Option Addr) (c dc : Nat) (hg : Row w 153 g d) (h : Rd w A l) (hlen : l.length ≤ d.length) :
    ∃ W', (Builtin.copy_ #[65, 65] 3 #[.slice (some ⟨g, 0, none⟩) d.length dc, .slice A l.length c]).run Tryz.prog w = .ok (goInt l.length) W' ∧
      Row W' 153 g (l ++ d.drop l.length) ∧ W'.heap.size = w.heap.size ∧ (∀ B, B ≤ g → Below B w W') ∧ ∀ k, k ≠ g → W'.heap[k]? = w.heap[k]? := by
  by_cases h0 : l.length = 0
  · obtain rfl : l = [] := List.eq_nil_of_length_eq_zero h0
    refine ⟨w, run_copy_none w _ _ _ 153 _ A _ _ _ _ Tryz.underlying65 (by kernel_rfl) (by simp), by simpa using hg, rfl, fun B _ => Below.refl _ _, fun _ _ => rfl⟩
  · obtain ⟨b, off, rfl, hc⟩ := h.open_ (by omega)
    have hr := run_copy_row (P := Tryz.prog) w 65 65 3 153 g 0 d.length dc ⟨b, off, none⟩ l.length c (c32 d) 153 (ints .u32 l) Tryz.underlying65 (by kernel_rfl) hg (by simp [Nat.min_eq_left hlen]) (src32 hc) (by rw [c32_size]; simp; omega) (one_cells l)
    rw [ints_length] at hr
    refine ⟨_, hr, ?_, by simp [World.setRow], fun B hB => below_setRow (Below.refl _ _) hB _, fun k hk => setRow_other w g k _ hk⟩
    have := setRow_heap w g (c32 d) ((c32 d).toList.take 0 ++ ints .u32 l ++ (c32 d).toList.drop (0 + l.length)).toArray 153 (0, 0) hg
    unfold Row Blk
    rw [this]
    congr 2
    simp [c32, ints]
theorem big_trim (A : Option Addr) (l : List Nat) (n c : Nat) (hn : n = l.length) (hc : n ≤ c) (w : World) (h : Rd w A l) :
    Calls Tryz.prog 146 #[.slice A n c] w fun e w' => e = .returned (.slice A (limbs (val l)).length c) ∧ w = w' := by
  subst hn
  have hl := h.len
  go_enter Tryz.func146, Tryz.ntmps146
  go_wp2
  go_loop [3] (fun i => ∃ k : Nat, k ≤ l.length ∧ i = .int .i64 (k : Int) ∧ (∀ j, k ≤ j → nth l j = 0)) (fun i => (intOf i).toNat)
  case atStart => exact ⟨l.length, Nat.le_refl _, rfl, fun j hj => nth_ge l hj⟩
  case round =>
    obtain ⟨k, hk, rfl, hz⟩ := hrel
    have HZ := Lib.hid hz
    clear hz
    by_cases hk0 : k = 0
    · subst hk0
      have E := Lib.hid (trim_end h.sm 0 hk HZ.out (.inl rfl))
      go_wp2
      go_ret
      rw [E.out.2]
      exact ⟨rfl, rfl⟩
    · obtain ⟨k, rfl⟩ : ∃ j, k = j + 1 := ⟨k - 1, by omega⟩
      obtain ⟨b, o, rfl, hc1⟩ := h.open_ (by omega)
      have hc2 := hc1 k (by omega)
      have hbs : b < w.heap.size := cell_lt hc2
      clear hc1
      by_cases h3 : nth l k = 0
      · rw [h3] at hc2
        have E : Hid (∀ j, k ≤ j → nth l j = 0) := fun j hj => by
          rcases Nat.lt_or_ge k j with h4 | h4
          · exact HZ.out j h4
          · have : j = k := by omega
            rw [this]; exact h3
        clear h3
        go_wp2
        go_round
        case rel => exact ⟨k, by omega, by go_num, E.out⟩
        case measure => first | (simp [intOf]; done) | (simp [intOf]; omega)
      · have E := Lib.hid (trim_end h.sm (k + 1) hk HZ.out (.inr h3))
        have h3' : (((nth l k : Nat) : Int) == 0) = false := by simp; exact h3
        clear h3
        go_wp2
        go_ret
        rw [E.out.2]
        exact ⟨rfl, rfl⟩

theorem big_cmp (A B : Option Addr) (a b : List Nat) (n m c d : Nat) (hn : n = a.length) (hm : m = b.length) (w : World) (ha : Rd w A a) (hb : Rd w B b) :
    Calls Tryz.prog 63 #[.slice A n c, .slice B m d] w (Says w (.int .i64 (cmpL a b))) := by
  subst hn hm
  have hla := ha.len
  have hlb := hb.len
  by_cases h1 : a.length < b.length
  · have e : cmpL a b = -1 := by unfold cmpL; rw [if_pos h1]
    rw [e]
    go_enter Tryz.func63, Tryz.ntmps63
    go_wp2
    go_ret
    exact ⟨rfl, Below.refl _ _⟩
  by_cases h2 : b.length < a.length
  · have e : cmpL a b = 1 := by unfold cmpL; rw [if_neg h1, if_pos h2]
    rw [e]
    go_enter Tryz.func63, Tryz.ntmps63
    go_wp2
    go_ret
    exact ⟨rfl, Below.refl _ _⟩
  have hl : a.length = b.length := by omega
  have HL := Lib.hid hl
  clear hl
  go_enter Tryz.func63, Tryz.ntmps63
  go_wp2
  go_loopw [5] (fun i wr => ∃ k : Nat, k ≤ a.length ∧ i = .int .i64 ((k : Int) - 1) ∧ a.drop k = b.drop k ∧ Below w.heap.size w wr) (fun i _ => (intOf i + 1).toNat)
  case atStart => exact ⟨a.length, Nat.le_refl _, rfl, by rw [List.drop_length, HL.out, List.drop_length], Below.refl _ _⟩
  case round =>
    obtain ⟨k, hk, rfl, hd, hbl⟩ := hrel
    have HD := Lib.hid hd
    clear hd
    by_cases hk0 : k = 0
    · subst hk0
      have e : cmpL a b = 0 := (cmpL_zero ha.sm hb.sm).2 (by simpa using HD.out)
      have E := Lib.hid e
      clear e
      go_wp2
      go_ret
      rw [E.out]
      exact ⟨rfl, hbl⟩
    · obtain ⟨k, rfl⟩ : ∃ j, k = j + 1 := ⟨k - 1, by omega⟩
      obtain ⟨ba, oa, rfl, hca⟩ := rd_at ha hbl (k := k) (by omega)
      obtain ⟨bb, ob, rfl, hcb⟩ := rd_at hb hbl (k := k) (by omega)
      rcases Nat.lt_trichotomy (nth a k) (nth b k) with h3 | h3 | h3
      · have E := Lib.hid (cmpL_top_lt HL.out ha.sm k (by omega) HD.out h3)
        go_wp2
        go_quiet (fail)
        go_wp2
        go_ret
        rw [E.out]
        exact ⟨rfl, (by repeat (first | assumption | exact Below.refl _ _ | refine bdn ?_ _ | refine Below.drew ?_))⟩
      · have E := Lib.hid (drop_step HL.out k (by omega) HD.out h3)
        rw [h3] at hca
        clear h3
        go_wp2
        go_quiet (fail)
        go_wp2
        go_quiet (fail)
        go_wp2
        go_roundw
        case rel => exact ⟨k, by omega, by go_num, E.out, (by repeat (first | assumption | exact Below.refl _ _ | refine bdn ?_ _ | refine Below.drew ?_))⟩
        case measure => first | (simp [intOf]; done) | (simp [intOf]; omega)
      · have E := Lib.hid (cmpL_top_gt HL.out hb.sm k (by omega) HD.out h3)
        have h4 : ¬ (nth a k < nth b k) := by omega
        go_wp2
        go_quiet (fail)
        go_wp2
        go_quiet (fail)
        go_wp2
        go_ret
        rw [E.out]
        exact ⟨rfl, (by repeat (first | assumption | exact Below.refl _ _ | refine bdn ?_ _ | refine Below.drew ?_))⟩

theorem big_copied (A : Option Addr) (l : List Nat) (n c : Nat) (hn : n = l.length) (w : World) (h : Rd w A l) :
    Calls Tryz.prog 109 #[.slice A n c] w fun e w' => ∃ g, e = .returned (.slice (some ⟨g, 0, none⟩) l.length l.length) ∧ w.heap.size ≤ g ∧ Row w' 153 g l ∧ Below w.heap.size w w' := by
  subst hn
  have hl := h.len
  have hmk := fun W => mk32 l.length l.length rfl (by omega) W
  have hR := h.alloc (.cells (c32 (List.replicate l.length 0)) 153)
  have hK : (w.alloc (.cells (c32 (List.replicate l.length 0)) 153)).heap[w.heap.size]? = some (.cells (ints .u32 (List.replicate l.length 0)).toArray 153 (0, 0)) := Blk.new w _ _
  have hB := (Below.refl w.heap.size w).alloc (Nat.le_refl _) (.cells (c32 (List.replicate l.length 0)) 153)
  obtain ⟨W', hcp, hrow, hsz, hbW, _⟩ := run_copy32 (w.alloc (.cells (c32 (List.replicate l.length 0)) 153)) w.heap.size (List.replicate l.length 0) l A c l.length (Blk.new w _ _) hR (by simp)
  rw [List.length_replicate] at hcp
  rw [List.drop_of_length_le (by simp), List.append_nil] at hrow
  have hb2 := hB.trans (hbW w.heap.size (Nat.le_refl _))
  clear hB hK hR hbW hsz
  go_enter Tryz.func109, Tryz.ntmps109
  go_wp2_with (first | (simp only [hmk]) | (simp only [hcp]))
  go_ret
  exact ⟨_, rfl, Nat.le_refl _, hrow, hb2⟩
end Bg

theorem over_div {l o : List Nat} {d r : Nat} (h : val (l.drop 0) = d * val (o.drop 0) + r) (hr : r < d) : val o = val l / d ∧ r = val l % d := by
  rw [List.drop_zero, List.drop_zero] at h
  rw [h]
  exact ⟨by rw [Nat.mul_add_div (by omega), Nat.div_eq_of_lt hr, Nat.add_zero], by rw [Nat.mul_add_mod, Nat.mod_eq_of_lt hr]⟩

theorem bitLen_half {n : Nat} (h : n ≠ 0) : bitLen n = 1 + bitLen (n / 2) := by
  by_cases h1 : n / 2 = 0
  · have : n = 1 := by omega
    subst this; decide
  · have := bitLen_shift n 1 (by simpa using h1)
    simpa using this
theorem bitLen_val {l : List Nat} (h : Sm l) (h0 : 0 < l.length) (hl : nth l (l.length - 1) ≠ 0) : bitLen (val l) = 32 * (l.length - 1) + bitLen (nth l (l.length - 1)) := by
  have h1 := val_drop l h (l.length - 1)
  rw [val_drop_nth, List.drop_of_length_le (by omega)] at h1
  have h2 : val [] = 0 := rfl
  rw [h2, Nat.mul_zero, Nat.add_zero] at h1
  have e : 4294967296 ^ (l.length - 1) = 2 ^ (32 * (l.length - 1)) := by rw [Nat.pow_mul]
  rw [e] at h1
  rw [h1]
  exact bitLen_shift _ _ (by rw [← h1]; exact hl)




theorem cell_keep {W w1 : World} {a : Addr} {v : Value} (hb : Below W.heap.size W w1) (h : W.cell? a = some v) : w1.cell? a = some v := by
  rw [hb.cell (cell_lt h)]; exact h

theorem nat_checks (g : Nat) (A B : Option Addr) (a b : List Nat) (n m c d : Nat) (hn : n = a.length) (hm : m = b.length) (w : World) (ha : Rd w A a) (hb : Rd w B b)
    (h0 : w.cell? ⟨g, 0, none⟩ = some (.slice A n c)) (h1 : w.cell? ⟨g, 1, none⟩ = some (.slice B m d)) :
    Calls Tryz.prog 184 #[.slice (some ⟨g, 0, none⟩) 2 2] w (Says w (.int .i64 (chk2 a b))) := by
  subst hn hm
  have hg := cell_lt h0
  simp only at hg
  go_enter Tryz.func184, Tryz.ntmps184
  go_wp2
  go_loopw [8] (fun i wr => ∃ k : Nat, k ≤ 2 ∧ i = .int .i64 (k : Int) ∧ (1 ≤ k → chk a = 0) ∧ (2 ≤ k → chk b = 0) ∧ Below w.heap.size w wr) (fun i _ => 2 - (intOf i).toNat)
  case atStart => exact ⟨0, by omega, rfl, fun h => by omega, fun h => by omega, Below.refl _ _⟩
  case round =>
    obtain ⟨k, hk, rfl, hka, hkb, hbl⟩ := hrel
    have HA := Lib.hid hka
    have HB := Lib.hid hkb
    have hsz := hbl.size
    have hc0 := cell_keep hbl h0
    have hc1 := cell_keep hbl h1
    clear hka hkb h0 h1
    have hcases : k = 0 ∨ k = 1 ∨ k = 2 := by omega
    rcases hcases with rfl | rfl | rfl
    · go_wp2_with fail
      refine (nat_Check A a _ c rfl _ ((ha.below hbl).alloc _)).mono ?_
      rintro e w1 ⟨rfl, hb1⟩
      have hbw : Below w.heap.size w w1 := (hbl.alloc hsz _).trans (hb1.mono (by simp; omega))
      by_cases hz : chk a = 0
      · rw [hz]
        have HZ := Lib.hid hz
        clear hz
        go_wp2
        go_roundw
        case rel => exact ⟨1, by omega, by go_num, fun _ => HZ.out, fun h => by omega, hbw⟩
        case measure => first | (simp [intOf]; done) | (simp [intOf]; omega)
      · have hne : (chk a != 0) = true := by rw [bne_iff_ne]; exact hz
        have e2 : chk2 a b = chk a := by unfold chk2; rw [if_neg hz]
        have E2 := Lib.hid e2
        clear hz e2
        go_wp2
        go_ret
        rw [E2.out]
        exact ⟨rfl, hbw⟩
    · go_wp2_with fail
      refine (nat_Check B b _ d rfl _ ((hb.below hbl).alloc _)).mono ?_
      rintro e w1 ⟨rfl, hb1⟩
      have hbw : Below w.heap.size w w1 := (hbl.alloc hsz _).trans (hb1.mono (by simp; omega))
      by_cases hz : chk b = 0
      · rw [hz]
        have HZ := Lib.hid hz
        clear hz
        go_wp2
        go_roundw
        case rel => exact ⟨2, by omega, by go_num, fun _ => HA.out (by omega), fun _ => HZ.out, hbw⟩
        case measure => first | (simp [intOf]; done) | (simp [intOf]; omega)
      · have hne : (chk b != 0) = true := by rw [bne_iff_ne]; exact hz
        have e2 : chk2 a b = chk b := by unfold chk2; rw [if_pos (HA.out (by omega))]
        have E2 := Lib.hid e2
        clear hz e2
        go_wp2
        go_ret
        rw [E2.out]
        exact ⟨rfl, hbw⟩
    · have e2 : chk2 a b = 0 := by unfold chk2; rw [if_pos (HA.out (by omega))]; exact HB.out (by omega)
      have E2 := Lib.hid e2
      clear e2
      go_wp2
      go_ret
      rw [E2.out]
      exact ⟨rfl, hbl⟩


def LimbsOne (w : World) (v : Nat) (e : Ending) (w' : World) : Prop :=
  ∃ A c, e = .returned (.slice A (limbs v).length c) ∧ (limbs v).length ≤ c ∧ Own w' 153 w.heap.size A c (limbs v) ∧ Below w.heap.size w w'

theorem Row.drewN {w : World} {t : TypeId} {g : Nat} {l : List Nat} (h : Row w t g l) (n : Nat) : Row (w.drewN n) t g l := h
def RowRel (w : World) (g : Nat) (x y : List Nat) (i n : Nat) (v0 : Nat) (v7 v8 : Value) (wr : World) : Prop :=
  ∃ (k c : Nat) (o : List Nat), k ≤ y.length ∧ v8 = .int .i64 (k : Int) ∧ v7 = .int .u64 (c : Int) ∧ c < 4294967296 ∧ o.length = n ∧ Sm o ∧ (∀ j, i + y.length ≤ j → nth o j = 0) ∧
    val o + 4294967296 ^ (i + k) * c = v0 + 4294967296 ^ i * (nth x i * val (y.take k)) ∧ Row wr 153 g o ∧ Below w.heap.size w wr

end Go.Proofs.YtenekbfnlbipiaaGreatDoor
