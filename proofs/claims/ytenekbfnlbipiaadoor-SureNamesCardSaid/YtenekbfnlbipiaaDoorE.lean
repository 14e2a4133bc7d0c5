/- Walks: a list times a power of two. -/
import Derived.Test.YtenekbfnlbipiaaDoorBits
namespace Go.Proofs.YtenekbfnlbipiaaDoor
open Go.RowKit
set_option linter.unusedVariables false
set_option linter.unusedSimpArgs false
set_option maxHeartbeats 4000000
set_option maxRecDepth 100000

/-! ### a list times a power of two -/
theorem shl_or (x q r : Nat) (hx : x < 4294967296) (hr : r < 32) (hq : q < 2 ^ r) : bits BinOp.or IntKind.u64 (IntKind.u64.wrap ((x : Int) * 2 ^ r)) (q : Int) = ((x * 2 ^ r + q : Nat) : Int) := by
  have h1 : 2 ^ r ≤ 2 ^ 31 := Nat.pow_le_pow_right (by decide) (by omega)
  have h2 : x * 2 ^ r ≤ 4294967295 * 2 ^ 31 := Nat.mul_le_mul (by omega) h1
  have h3 : ((x : Int) * 2 ^ r) = ((x * 2 ^ r : Nat) : Int) := by push_cast; rfl
  have h4 : IntKind.u64.wrap ((x * 2 ^ r : Nat) : Int) = ((x * 2 ^ r : Nat) : Int) := by rw [IntKind.wrap_u64]; omega
  rw [h3, h4, u64_or_nat _ _ (by omega) (by omega)]
  have := Nat.two_pow_add_eq_or_of_lt (i := r) (b := q) hq x
  rw [Nat.mul_comm x, ← this]
theorem ref_up (A : Option Addr) (l : List Nat) (n c : Nat) (hn : n = l.length) (m : Nat) (hm : m ≤ 524288) (hl16 : l.length ≤ 1000000) (w : World) (h : Rd w A l) :
    Calls Tryd.prog 59 #[.slice A n c, .int .i64 (m : Int)] w fun e w' => ∃ A c, e = .returned (.slice A (limbs (val l * 2 ^ m)).length c) ∧ Own w' 90 w.heap.size A c (limbs (val l * 2 ^ m)) ∧ Below w.heap.size w w' := by
  subst hn
  by_cases h0 : 0 < l.length
  · have hmk := fun W => mk32 (m / 32) ((m : Int) / 32) (by omega) (by omega) W
    have h2 : ((l.length : Int) == 0) = false := by rw [beq_eq_false_iff_ne]; omega
    go_enter Tryd.func59, Tryd.ntmps59
    go_wp2
    go_loopw [5, 6, 7] (fun v cy i wr => ∃ (k : Nat) (o : List Nat) (q : Nat), k ≤ l.length ∧ i = .int .i64 (k : Int) ∧ cy = .int .u64 (q : Int) ∧ q < 2 ^ (m % 32) ∧ o.length = m / 32 + k ∧ Sm o ∧ val o + 4294967296 ^ (m / 32 + k) * q = 4294967296 ^ (m / 32) * (val (l.take k) * 2 ^ (m % 32)) ∧ OwnR wr w.heap.size 90 .u32 v o ∧ Below w.heap.size w wr) (fun _ _ i _ => l.length - (intOf i).toNat)
    case atStart =>
      refine ⟨0, List.replicate (m / 32) 0, 0, Nat.zero_le _, rfl, rfl, Nat.two_pow_pos _, by simp, Sm.replicate _, ?_, OwnR.made (Nat.le_refl _) (by omega), (by repeat' (first | (with_reducible assumption) | (with_reducible exact Below.refl _ _) | (with_reducible refine bdn ?_ _) | (with_reducible refine Below.drew ?_) | (with_reducible refine Below.setCell ?_ ?_ _) | (with_reducible refine Below.alloc ?_ ?_ _) | go_size))⟩
      rw [val_replicate]; simp [val]
    case round =>
      obtain ⟨k, o, q, hk, rfl, rfl, hq, hlen, hso, hv, hown, hbl⟩ := hrel
      have HV := Lib.hid hv
      have HLEN := Lib.hid hlen
      clear hv hlen
      by_cases hk1 : k < l.length
      · obtain ⟨b, off, rfl, hc1⟩ := rd_at h hbl hk1
        have hlt := h.sm.nth k
        have hY : (nth l k * 2 ^ (m % 32) + q) % 4294967296 < 4294967296 := Nat.mod_lt _ (by decide)
        go_wp2_with (at_builtin; refine wpList_app elem32 rfl _ _ rfl (hown.alloc _) rfl ⟨wr.heap.size, 0, none⟩ rfl ((nth l k * 2 ^ (m % 32) + q) % 4294967296) ?c1 ?c2 ?c3 (fun v' w' hown' hgr hbb => ?_))
        case c1 =>
          rw [shl_or _ _ _ hlt (by omega) hq]
          simp [go_sem]
        case c2 => have := HLEN.out; omega
        case c3 => have := hbl.size; simp; omega
        go_roundw
        case rel =>
          exact ⟨k + 1, _, _, by omega, by go_num, vi (by rw [shl_or _ _ _ hlt (by omega) hq]; rfl), up_bound hlt hq, by rw [List.length_append, HLEN.out]; rfl, hso.append (Sm.cons (Nat.mod_lt _ (by decide)) Sm.nil), up_step HLEN.out HV.out, hown', (hbl.alloc hbl.size _).trans hbb⟩
        case measure => first | (simp [intOf]; done) | (simp [intOf]; omega)
      · have hkl : k = l.length := by omega
        have hq31 : 2 ^ (m % 32) ≤ 2 ^ 31 := Nat.pow_le_pow_right (by decide) (by omega)
        have hq32 : q < 4294967296 := by omega
        have hfin : val (o ++ [q]) = val l * 2 ^ m := by
          have := HV.out
          rw [hkl, List.take_length, up_end] at this
          rw [val_append, HLEN.out, ← this, hkl]; rfl
        have hs2 : Sm (o ++ [q]) := hso.append (Sm.cons hq32 Sm.nil)
        have HF := Lib.hid hfin
        have HKL := Lib.hid hkl
        clear hfin hkl
        go_wp2_with (at_builtin; refine wpList_app elem32 rfl _ _ rfl (hown.alloc _) rfl ⟨wr.heap.size, 0, none⟩ rfl q ?c1 ?c2 ?c3 (fun v' w' hown' hgr hbb => ?_))
        case c1 => simp [go_sem]
        case c2 => have := HLEN.out; omega
        case c3 => have := hbl.size; simp; omega
        obtain ⟨A', c', rfl, hnc, ho⟩ := hown'.own hs2 (by have := HLEN.out; simp; omega)
        refine (ref_Trim _ _ _ _ rfl hnc _ ho.rd).mono ?_
        rintro e w1 ⟨rfl, rfl⟩
        go_wp2
        go_ret
        have ho2 := ho.trim
        rw [HF.out] at ho2
        exact ⟨_, _, by rw [← HF.out]; rfl, ho2, (hbl.alloc hbl.size _).trans hbb⟩
  · have hl0 : l = [] := List.eq_nil_of_length_eq_zero (by omega)
    subst hl0
    have e : limbs (val [] * 2 ^ m) = [] := by rw [show val [] = 0 from rfl, Nat.zero_mul]; rfl
    rw [e]
    go_enter Tryd.func59, Tryd.ntmps59
    go_wp2
    go_ret
    exact ⟨_, _, rfl, Own.nil _ _ _, Below.refl _ _⟩
end Go.Proofs.YtenekbfnlbipiaaDoor
namespace Go.Proofs.YtenekbfnlbipiaaDoor
open Go.RowKit
set_option linter.unusedVariables false
set_option linter.unusedSimpArgs false
set_option maxHeartbeats 4000000
set_option maxRecDepth 100000

theorem ref_Up (A : Option Addr) (l : List Nat) (n c : Nat) (hn : n = l.length) (m : Int) (hm1 : -9223372036854775808 ≤ m) (hm2 : m ≤ 9223372036854775807) (w : World) (h : Rd w A l) :
    Calls Tryd.prog 30 #[.agg #[.slice A n c], .int .i64 m] w (NatAns 90 w (upS l m)) := by
  subst hn
  have hl := h.len
  have h1 := (h.alloc (Obj.cells #[Value.slice A l.length c] 56)).alloc (Obj.cells #[Value.slice none 0 0] 56)
  by_cases hc0 : chk l = 0
  · have hlen := (chk_zero hc0).1
    have hlast := (chk_zero hc0).2
    have hbits := chk_bits h.sm hc0
    have Hchk : Hid (chk l = 0) := hc0
    have e0 : Hid (upS l m = if m < 0 then ([], 2) else if l = [] then ([], 0) else if 524288 - (bitLen (val l) : Int) < m then ([], 4) else (limbs (val l * 2 ^ m.toNat), 0)) := by
      show upS l m = _
      unfold upS; rw [if_pos hc0]
    clear hc0
    by_cases hm0 : m < 0
    · rw [e0.out, if_pos hm0]
      go_enter Tryd.func30, Tryd.ntmps30
      go_wp2_with fail
      refine (ref_Check A l _ c rfl _ h1).mono ?_
      rintro e w1 ⟨rfl, hb1⟩
      rw [Hchk.out]
      obtain ⟨hc1, hf1⟩ := bcell hb1
      have hbw1 : Below w.heap.size w w1 := Below.trans (b := _) (by repeat' (first | (with_reducible assumption) | (with_reducible exact Below.refl _ _) | (with_reducible refine bdn ?_ _) | (with_reducible refine Below.drew ?_) | (with_reducible refine Below.setCell ?_ ?_ _) | (with_reducible refine Below.alloc ?_ ?_ _) | go_size)) (hb1.mono (by go_size))
      have hz1_0 : w.heap.size < w1.heap.size := by have := hb1.size; simp at this; omega
      have hz1_1 : w.heap.size + 1 < w1.heap.size := by have := hb1.size; simp at this; omega
      go_wp2
      (try simp only [Exit.inBlock, Exit.then]); refine bodyPost_ret (by simp (maxDischargeDepth := 9) [results, Tryd.results30, go_sem, hc1, hz1_0, hz1_1]; try rfl) rfl ?_
      exact ⟨none, 0, rfl, Own.nil _ _ _, (by repeat' (first | (with_reducible assumption) | (with_reducible exact Below.refl _ _) | (with_reducible refine bdn ?_ _) | (with_reducible refine Below.drew ?_) | (with_reducible refine Below.setCell ?_ ?_ _) | (with_reducible refine Below.alloc ?_ ?_ _) | go_size))⟩
    · by_cases hl0 : l.length = 0
      · have hl1 : l = [] := List.eq_nil_of_length_eq_zero hl0
        rw [e0.out, if_neg hm0, if_pos hl1]
        have h3 : ((l.length : Int) == 0) = true := by rw [beq_iff_eq]; omega
        clear hl0 hl1
        go_enter Tryd.func30, Tryd.ntmps30
        go_wp2_with fail
        refine (ref_Check A l _ c rfl _ h1).mono ?_
        rintro e w1 ⟨rfl, hb1⟩
        rw [Hchk.out]
        obtain ⟨hc1, hf1⟩ := bcell hb1
        have hbw1 : Below w.heap.size w w1 := Below.trans (b := _) (by repeat' (first | (with_reducible assumption) | (with_reducible exact Below.refl _ _) | (with_reducible refine bdn ?_ _) | (with_reducible refine Below.drew ?_) | (with_reducible refine Below.setCell ?_ ?_ _) | (with_reducible refine Below.alloc ?_ ?_ _) | go_size)) (hb1.mono (by go_size))
        have hz1_0 : w.heap.size < w1.heap.size := by have := hb1.size; simp at this; omega
        have hz1_1 : w.heap.size + 1 < w1.heap.size := by have := hb1.size; simp at this; omega
        go_wp2
        (try simp only [Exit.inBlock, Exit.then]); refine bodyPost_ret (by simp (maxDischargeDepth := 9) [results, Tryd.results30, go_sem, hc1, hz1_0, hz1_1]; try rfl) rfl ?_
        exact ⟨none, 0, rfl, Own.nil _ _ _, (by repeat' (first | (with_reducible assumption) | (with_reducible exact Below.refl _ _) | (with_reducible refine bdn ?_ _) | (with_reducible refine Below.drew ?_) | (with_reducible refine Below.setCell ?_ ?_ _) | (with_reducible refine Below.alloc ?_ ?_ _) | go_size))⟩
      · have hl1 : ¬ l = [] := fun e => hl0 (by rw [e]; rfl)
        have h3 : ((l.length : Int) == 0) = false := by rw [beq_eq_false_iff_ne]; omega
        by_cases hbig : 524288 - (bitLen (val l) : Int) < m
        · rw [e0.out, if_neg hm0, if_neg hl1, if_pos hbig]
          clear hl1 hl0
          go_enter Tryd.func30, Tryd.ntmps30
          go_wp2_with fail
          refine (ref_Check A l _ c rfl _ h1).mono ?_
          rintro e w1 ⟨rfl, hb1⟩
          rw [Hchk.out]
          obtain ⟨hc1, hf1⟩ := bcell hb1
          have hbw1 : Below w.heap.size w w1 := Below.trans (b := _) (by repeat' (first | (with_reducible assumption) | (with_reducible exact Below.refl _ _) | (with_reducible refine bdn ?_ _) | (with_reducible refine Below.drew ?_) | (with_reducible refine Below.setCell ?_ ?_ _) | (with_reducible refine Below.alloc ?_ ?_ _) | go_size)) (hb1.mono (by go_size))
          have hz1_0 : w.heap.size < w1.heap.size := by have := hb1.size; simp at this; omega
          have hz1_1 : w.heap.size + 1 < w1.heap.size := by have := hb1.size; simp at this; omega
          go_wp2_with fail
          refine (ref_size A l _ c rfl (by omega) _ (h1.below hb1) hlast).mono ?_
          rintro e w2 ⟨rfl, rfl⟩
          go_wp2
          (try simp only [Exit.inBlock, Exit.then]); refine bodyPost_ret (by simp (maxDischargeDepth := 9) [results, Tryd.results30, go_sem, hc1, hz1_0, hz1_1]; try rfl) rfl ?_
          exact ⟨none, 0, rfl, Own.nil _ _ _, (by repeat' (first | (with_reducible assumption) | (with_reducible exact Below.refl _ _) | (with_reducible refine bdn ?_ _) | (with_reducible refine Below.drew ?_) | (with_reducible refine Below.setCell ?_ ?_ _) | (with_reducible refine Below.alloc ?_ ?_ _) | go_size))⟩
        · rw [e0.out, if_neg hm0, if_neg hl1, if_neg hbig]
          obtain ⟨m, rfl⟩ : ∃ k : Nat, m = (k : Int) := ⟨m.toNat, by omega⟩
          rw [Int.toNat_natCast]
          clear hl1 hl0
          go_enter Tryd.func30, Tryd.ntmps30
          go_wp2_with fail
          refine (ref_Check A l _ c rfl _ h1).mono ?_
          rintro e w1 ⟨rfl, hb1⟩
          rw [Hchk.out]
          obtain ⟨hc1, hf1⟩ := bcell hb1
          have hbw1 : Below w.heap.size w w1 := Below.trans (b := _) (by repeat' (first | (with_reducible assumption) | (with_reducible exact Below.refl _ _) | (with_reducible refine bdn ?_ _) | (with_reducible refine Below.drew ?_) | (with_reducible refine Below.setCell ?_ ?_ _) | (with_reducible refine Below.alloc ?_ ?_ _) | go_size)) (hb1.mono (by go_size))
          have hz1_0 : w.heap.size < w1.heap.size := by have := hb1.size; simp at this; omega
          have hz1_1 : w.heap.size + 1 < w1.heap.size := by have := hb1.size; simp at this; omega
          go_wp2_with fail
          refine (ref_size A l _ c rfl (by omega) _ (h1.below hb1) hlast).mono ?_
          rintro e w2 ⟨rfl, rfl⟩
          go_wp2_with fail
          refine (ref_up A l _ c rfl m (by omega) (by omega) _ (h1.below hb1)).mono ?_
          rintro e w2 ⟨A', c', rfl, ho, hb2⟩
          obtain ⟨hc2, hf2⟩ := bcell hb2
          have hz2 : w.heap.size + 1 < w2.heap.size := by have := hb2.size; omega
          go_wp2_with fail
          refine (ref_nat _ _ _ _).mono ?_
          rintro e w3 ⟨rfl, hb3⟩
          obtain ⟨hc3, hf3⟩ := bcell hb3
          have hz3 : w.heap.size + 1 < w3.heap.size := by have := hb3.size; omega
          have hbw3 : Below w.heap.size w w3 := (hbw1.trans (hb2.mono (by omega))).trans (hb3.mono (by omega))
          go_wp2
          (try simp only [Exit.inBlock, Exit.then]); refine bodyPost_ret (by simp (maxDischargeDepth := 9) [results, Tryd.results30, go_sem, hc3, hc2, hc1, hz1_0, hz1_1, hz2, hz3]; try rfl) rfl ?_
          exact ⟨_, _, rfl, ((ho.below hb3 (Nat.le_refl _)).setCell (by simp; omega) _).mono (by omega), (by repeat' (first | (with_reducible assumption) | (with_reducible exact Below.refl _ _) | (with_reducible refine bdn ?_ _) | (with_reducible refine Below.drew ?_) | (with_reducible refine Below.setCell ?_ ?_ _) | (with_reducible refine Below.alloc ?_ ?_ _) | go_size))⟩
  · have e0 : upS l m = ([], chk l) := by unfold upS; rw [if_neg hc0]
    have hne : (chk l != 0) = true := by rw [bne_iff_ne]; exact hc0
    rw [e0]
    clear hc0
    go_enter Tryd.func30, Tryd.ntmps30
    go_wp2_with fail
    refine (ref_Check A l _ c rfl _ h1).mono ?_
    rintro e w1 ⟨rfl, hb1⟩
    obtain ⟨hc1, hf1⟩ := bcell hb1
    have hbw1 : Below w.heap.size w w1 := Below.trans (b := _) (by repeat' (first | (with_reducible assumption) | (with_reducible exact Below.refl _ _) | (with_reducible refine bdn ?_ _) | (with_reducible refine Below.drew ?_) | (with_reducible refine Below.setCell ?_ ?_ _) | (with_reducible refine Below.alloc ?_ ?_ _) | go_size)) (hb1.mono (by go_size))
    have hz1_0 : w.heap.size < w1.heap.size := by have := hb1.size; simp at this; omega
    have hz1_1 : w.heap.size + 1 < w1.heap.size := by have := hb1.size; simp at this; omega
    go_wp2
    (try simp only [Exit.inBlock, Exit.then]); refine bodyPost_ret (by simp (maxDischargeDepth := 9) [results, Tryd.results30, go_sem, hc1, hz1_0, hz1_1]; try rfl) rfl ?_
    exact ⟨none, 0, rfl, Own.nil _ _ _, (by repeat' (first | (with_reducible assumption) | (with_reducible exact Below.refl _ _) | (with_reducible refine bdn ?_ _) | (with_reducible refine Below.drew ?_) | (with_reducible refine Below.setCell ?_ ?_ _) | (with_reducible refine Below.alloc ?_ ?_ _) | go_size))⟩
end Go.Proofs.YtenekbfnlbipiaaDoor
namespace Go.Proofs.YtenekbfnlbipiaaDoor
open Go.RowKit
set_option linter.unusedVariables false
set_option linter.unusedSimpArgs false
set_option maxHeartbeats 4000000
set_option maxRecDepth 100000

theorem cell_keep {W w1 : World} {a : Addr} {v : Value} (hb : Below W.heap.size W w1) (h : W.cell? a = some v) : w1.cell? a = some v := by
  rw [hb.cell (cell_lt h)]; exact h

theorem Own.lt {w : World} {B c : Nat} {t : TypeId} {A : Option Addr} {l : List Nat} (h : Own w t B A c l) (a : Addr) (ha : A = some a) : a.block < w.heap.size := by
  rcases h.2.2 with ⟨rfl, _⟩ | ⟨g', cur, rfl, hB, hk, _⟩
  · cases ha
  · injection ha with ha; subst ha; exact hk.lt
theorem Own.setFar {w : World} {B c : Nat} {t : TypeId} {A : Option Addr} {l : List Nat} (h : Own w t B A c l) {p : Addr} (hp : ∀ a, A = some a → a.block ≠ p.block) (u : Value) : Own (w.setCell p u) t B A c l := by
  refine ⟨h.1, h.2.1, ?_⟩
  rcases h.2.2 with h | ⟨g', cur, e, hg, hk, r⟩
  · exact .inl h
  · exact .inr ⟨g', cur, e, hg, hk.far (hp _ e) u, r⟩
theorem nat_checks (g : Nat) (A B : Option Addr) (a b : List Nat) (n m c d : Nat) (hn : n = a.length) (hm : m = b.length) (w : World) (ha : Rd w A a) (hb : Rd w B b)
    (h0 : w.cell? ⟨g, 0, none⟩ = some (.slice A n c)) (h1 : w.cell? ⟨g, 1, none⟩ = some (.slice B m d)) :
    Calls Tryd.prog 80 #[.slice (some ⟨g, 0, none⟩) 2 2] w (Says w (.int .i64 (chk2 a b))) := by
  subst hn hm
  have hg := cell_lt h0
  simp only at hg
  go_enter Tryd.func80, Tryd.ntmps80
  go_wp2
  go_loopw [8] (fun i wr => ∃ k : Nat, k ≤ 2 ∧ i = .int .i64 (k : Int) ∧ (1 ≤ k → chk a = 0) ∧ (2 ≤ k → chk b = 0) ∧ Below w.heap.size w wr) (fun i _ => 2 - (intOf i).toNat)
  case atStart => exact ⟨0, by omega, rfl, fun h => by omega, fun h => by omega, Below.refl _ _⟩
  case round =>
    obtain ⟨k, hk, rfl, hka, hkb, hbl⟩ := hrel
    have HA := Lib.hid hka
    have HB := Lib.hid hkb
    have hsz := hbl.size
    have hc0 := cell_keep hbl h0
    have hc1 := cell_keep hbl h1
    clear hka hkb h0 h1
    have hcases : k = 0 ∨ k = 1 ∨ k = 2 := by omega
    rcases hcases with rfl | rfl | rfl
    · go_wp2_with fail
      refine (nat_Check A a _ c rfl _ ((ha.below hbl).alloc _)).mono ?_
      rintro e w1 ⟨rfl, hb1⟩
      have hbw : Below w.heap.size w w1 := (hbl.alloc hsz _).trans (hb1.mono (by simp; omega))
      by_cases hz : chk a = 0
      · rw [hz]
        have HZ := Lib.hid hz
        clear hz
        go_wp2
        go_roundw
        case rel => exact ⟨1, by omega, by go_num, fun _ => HZ.out, fun h => by omega, hbw⟩
        case measure => first | (simp [intOf]; done) | (simp [intOf]; omega)
      · have hne : (chk a != 0) = true := by rw [bne_iff_ne]; exact hz
        have e2 : chk2 a b = chk a := by unfold chk2; rw [if_neg hz]
        have E2 := Lib.hid e2
        clear hz e2
        go_wp2
        go_ret
        rw [E2.out]
        exact ⟨rfl, hbw⟩
    · go_wp2_with fail
      refine (nat_Check B b _ d rfl _ ((hb.below hbl).alloc _)).mono ?_
      rintro e w1 ⟨rfl, hb1⟩
      have hbw : Below w.heap.size w w1 := (hbl.alloc hsz _).trans (hb1.mono (by simp; omega))
      by_cases hz : chk b = 0
      · rw [hz]
        have HZ := Lib.hid hz
        clear hz
        go_wp2
        go_roundw
        case rel => exact ⟨2, by omega, by go_num, fun _ => HA.out (by omega), fun _ => HZ.out, hbw⟩
        case measure => first | (simp [intOf]; done) | (simp [intOf]; omega)
      · have hne : (chk b != 0) = true := by rw [bne_iff_ne]; exact hz
        have e2 : chk2 a b = chk b := by unfold chk2; rw [if_pos (HA.out (by omega))]
        have E2 := Lib.hid e2
        clear hz e2
        go_wp2
        go_ret
        rw [E2.out]
        exact ⟨rfl, hbw⟩
    · have e2 : chk2 a b = 0 := by unfold chk2; rw [if_pos (HA.out (by omega))]; exact HB.out (by omega)
      have E2 := Lib.hid e2
      clear e2
      go_wp2
      go_ret
      rw [E2.out]
      exact ⟨rfl, hbl⟩

theorem ref_two (A B : Option Addr) (a b : List Nat) (n m c d : Nat) (hn : n = a.length) (hm : m = b.length) (w : World) (ha : Rd w A a) (hb : Rd w B b) :
    Calls Tryd.prog 51 #[.agg #[.slice A n c], .agg #[.slice B m d]] w (Says w (.int .i64 (chk2 a b))) := by
  subst hn hm
  have ha2 := (ha.alloc (Obj.cells #[Value.slice A a.length c] 56)).alloc (Obj.cells #[Value.slice B b.length d] 56)
  have hb2 := (hb.alloc (Obj.cells #[Value.slice A a.length c] 56)).alloc (Obj.cells #[Value.slice B b.length d] 56)
  by_cases hz : chk a = 0
  · have e2 : chk2 a b = chk b := by unfold chk2; rw [if_pos hz]
    have HZ := Lib.hid hz
    clear hz
    rw [e2]
    go_enter Tryd.func51, Tryd.ntmps51
    go_wp2_with fail
    refine (ref_Check A a _ c rfl _ ha2).mono ?_
    rintro e w1 ⟨rfl, hb1⟩
    rw [HZ.out]
    obtain ⟨hc1, hf1⟩ := bcell hb1
    have hbw1 : Below w.heap.size w w1 := Below.trans (b := _) (by repeat' (first | (with_reducible assumption) | (with_reducible exact Below.refl _ _) | (with_reducible refine bdn ?_ _) | (with_reducible refine Below.drew ?_) | (with_reducible refine Below.setCell ?_ ?_ _) | (with_reducible refine Below.alloc ?_ ?_ _) | go_size)) (hb1.mono (by go_size))
    have hz1_0 : w.heap.size < w1.heap.size := by have := hb1.size; simp at this; omega
    have hz1_1 : w.heap.size + 1 < w1.heap.size := by have := hb1.size; simp at this; omega
    go_wp2_with fail
    refine (ref_Check B b _ d rfl _ (hb2.below hb1)).mono ?_
    rintro e w2 ⟨rfl, hbb2⟩
    go_wp2
    go_ret
    exact ⟨rfl, hbw1.trans (hbb2.mono (by omega))⟩
  · have e2 : chk2 a b = chk a := by unfold chk2; rw [if_neg hz]
    have hne : (chk a != 0) = true := by rw [bne_iff_ne]; exact hz
    clear hz
    rw [e2]
    go_enter Tryd.func51, Tryd.ntmps51
    go_wp2_with fail
    refine (ref_Check A a _ c rfl _ ha2).mono ?_
    rintro e w1 ⟨rfl, hb1⟩
    obtain ⟨hc1, hf1⟩ := bcell hb1
    have hbw1 : Below w.heap.size w w1 := Below.trans (b := _) (by repeat' (first | (with_reducible assumption) | (with_reducible exact Below.refl _ _) | (with_reducible refine bdn ?_ _) | (with_reducible refine Below.drew ?_) | (with_reducible refine Below.setCell ?_ ?_ _) | (with_reducible refine Below.alloc ?_ ?_ _) | go_size)) (hb1.mono (by go_size))
    have hz1_0 : w.heap.size < w1.heap.size := by have := hb1.size; simp at this; omega
    have hz1_1 : w.heap.size + 1 < w1.heap.size := by have := hb1.size; simp at this; omega
    go_wp2
    go_ret
    exact ⟨rfl, (by repeat' (first | (with_reducible assumption) | (with_reducible exact Below.refl _ _) | (with_reducible refine bdn ?_ _) | (with_reducible refine Below.drew ?_) | (with_reducible refine Below.setCell ?_ ?_ _) | (with_reducible refine Below.alloc ?_ ?_ _) | go_size))⟩
end Go.Proofs.YtenekbfnlbipiaaDoor
namespace Go.Proofs.YtenekbfnlbipiaaDoor
open Go.RowKit
set_option linter.unusedVariables false
set_option linter.unusedSimpArgs false
set_option maxHeartbeats 4000000
set_option maxRecDepth 100000

/-- What the document's lists of its own answer: the limbs of a number. -/
def LimbsOne (w : World) (v : Nat) (e : Ending) (w' : World) : Prop :=
  ∃ A c, e = .returned (.slice A (limbs v).length c) ∧ (limbs v).length ≤ c ∧ Own w' 90 w.heap.size A c (limbs v) ∧ Below w.heap.size w w'

theorem Row.drewN {w : World} {t : TypeId} {g : Nat} {l : List Nat} (h : Row w t g l) (n : Nat) : Row (w.drewN n) t g l := h
/-- In the midst of a row of a product. -/
def RowRel (w : World) (g : Nat) (x y : List Nat) (i n : Nat) (v0 : Nat) (v7 v8 : Value) (wr : World) : Prop :=
  ∃ (k c : Nat) (o : List Nat), k ≤ y.length ∧ v8 = .int .i64 (k : Int) ∧ v7 = .int .u64 (c : Int) ∧ c < 4294967296 ∧ o.length = n ∧ Sm o ∧ (∀ j, i + y.length ≤ j → nth o j = 0) ∧
    val o + 4294967296 ^ (i + k) * c = v0 + 4294967296 ^ i * (nth x i * val (y.take k)) ∧ Row wr 90 g o ∧ Below w.heap.size w wr

theorem ref_times (A B : Option Addr) (a b : List Nat) (n m c d : Nat) (hn : n = a.length) (hm : m = b.length) (ha16 : a.length + b.length ≤ 1000000) (w : World) (ha : Rd w A a) (hb : Rd w B b) :
    Calls Tryd.prog 53 #[.slice A n c, .slice B m d] w (LimbsOne w (val a * val b)) := by
  subst hn hm
  have hmk := fun W => mk32 (a.length + b.length) ((a.length : Int) + (b.length : Int)) (by omega) (by omega) W
  go_enter Tryd.func53, Tryd.ntmps53
  go_wp2
  go_loopw [6] (fun i wr => ∃ (k : Nat) (o : List Nat), k ≤ a.length ∧ i = .int .i64 (k : Int) ∧ o.length = a.length + b.length ∧ Sm o ∧ (∀ j, k + b.length ≤ j → nth o j = 0) ∧ val o = val (a.take k) * val b ∧ Row wr 90 w.heap.size o ∧ Below w.heap.size w wr) (fun i _ => a.length - (intOf i).toNat)
  case atStart =>
    exact ⟨0, List.replicate (a.length + b.length) 0, Nat.zero_le _, rfl, by simp, Sm.replicate _, fun j _ => nth_replicate _ _, by rw [val_replicate]; simp [val], row_new rfl rfl, (by repeat' (first | (with_reducible assumption) | (with_reducible exact Below.refl _ _) | (with_reducible refine bdn ?_ _) | (with_reducible refine Below.drew ?_) | (with_reducible refine Below.setCell ?_ ?_ _) | (with_reducible refine Below.alloc ?_ ?_ _) | go_size))⟩
  case round =>
    obtain ⟨wo, rfl⟩ : ∃ wo : World, wo = wr := ⟨_, rfl⟩
    obtain ⟨i, o, hi, rfl, hol, hos, hoz, hov, hrow, hbl⟩ := hrel
    have HOL := Lib.hid hol
    have HOZ := Lib.hid hoz
    have HOV := Lib.hid hov
    clear hol hoz hov
    by_cases hi1 : i < a.length
    · go_wp2
      go_loopw [7, 8] (fun v7 v8 wr => RowRel w w.heap.size a b i (a.length + b.length) (val o) v7 v8 wr) (fun _ v8 _ => b.length - (intOf v8).toNat)
      case atStart =>
        exact ⟨0, 0, o, Nat.zero_le _, rfl, rfl, by decide, HOL.out, hos, HOZ.out, by simp [val], hrow, hbl⟩
      case round =>
        obtain ⟨k, cy, o2, hk, rfl, rfl, hcy, hol2, hos2, hoz2, hov2, hrow2, hbl2⟩ := hrel
        have HOL2 := Lib.hid hol2
        have HOZ2 := Lib.hid hoz2
        have HOV2 := Lib.hid hov2
        clear hol2 hoz2 hov2
        by_cases hk1 : k < b.length
        · obtain ⟨ba, oa, rfl, hca⟩ := rd_at ha hbl2 (k := i) (by omega)
          obtain ⟨bb, ob, rfl, hcb⟩ := rd_at hb hbl2 (k := k) (by omega)
          have hco := hrow2.cell (i + k) (by rw [HOL2.out]; omega)
          have hfz := hrow2.frozen (i + k)
          have hx := ha.sm.nth i
          have hy := hb.sm.nth k
          have ho := hos2.nth (i + k)
          have hPb := prod_le hx hy
          obtain ⟨P, hP⟩ : ∃ P : Nat, P = nth a i * nth b k := ⟨_, rfl⟩
          rw [← hP] at hPb
          have hPe : ((nth a i : Nat) : Int) * ((nth b k : Nat) : Int) = (P : Int) := by rw [hP, Int.natCast_mul]
          have HP := Lib.hid hP
          have i1 : (0 : Int) ≤ (i : Int) + (k : Int) := by omega
          have i2 : (i : Int) + (k : Int) < ((a.length + b.length : Nat) : Int) := by omega
          clear hP
          go_wp2
          go_quiet (fail)
          go_wp2
          go_roundw
          case rel =>
            have st := row_step (P := nth a i * nth b k) (by rw [HOL2.out]; omega) HOV2.out
            rw [← HP.out] at st
            refine ⟨k + 1, (P + nth o2 (i + k) + cy) / 4294967296, o2.set (i + k) ((P + nth o2 (i + k) + cy) % 4294967296), by omega, by go_num, vi (by omega), by omega, by simp [HOL2.out], hos2.set _ _ (by omega), ?_, ?_, (Row.drewN hrow2 _).setE _ _ (by omega), (by repeat' (first | (with_reducible assumption) | (with_reducible exact Below.refl _ _) | (with_reducible refine bdn ?_ _) | (with_reducible refine Below.drew ?_) | (with_reducible refine Below.setCell ?_ ?_ _) | (with_reducible refine Below.alloc ?_ ?_ _) | go_size))⟩
            · intro j hj
              rw [nth_set_ne _ _ _ _ (by omega)]
              exact HOZ2.out j hj
            · rw [← Nat.add_assoc, st, val_take_succ', HP.out]
              congr 1
              rw [Nat.pow_add, Nat.mul_add, Nat.mul_add]
              congr 1
              simp only [Nat.mul_assoc, Nat.mul_left_comm]
          case measure => first | (simp [intOf]; done) | (simp [intOf]; omega)
        · have hkb : k = b.length := by omega
          have hco := hrow2.cell (i + b.length) (by rw [HOL2.out]; omega)
          have hfz := hrow2.frozen (i + b.length)
          have HKB := Lib.hid hkb
          clear hkb
          go_wp2
          go_roundw
          case rel =>
            have hv := HOV2.out
            rw [HKB.out, List.take_length] at hv
            have hz0 := HOZ2.out (i + b.length) (Nat.le_refl _)
            have hs := val_set o2 (i + b.length) cy (by rw [HOL2.out]; omega)
            refine ⟨i + 1, o2.set (i + b.length) cy, by omega, by go_num, by simp [HOL2.out], hos2.set _ _ hcy, ?_, ?_, hrow2.setE _ _ (by omega), (by repeat' (first | (with_reducible assumption) | (with_reducible exact Below.refl _ _) | (with_reducible refine bdn ?_ _) | (with_reducible refine Below.drew ?_) | (with_reducible refine Below.setCell ?_ ?_ _) | (with_reducible refine Below.alloc ?_ ?_ _) | go_size))⟩
            · intro j hj
              rw [nth_set_ne _ _ _ _ (by omega)]
              exact HOZ2.out j (by omega)
            · rw [hz0, Nat.mul_zero, Nat.add_zero] at hs
              rw [hs, hv, HOV.out, val_take_succ', Nat.add_mul, Nat.mul_assoc]
          case measure => first | (simp [intOf]; done) | (simp [intOf]; omega)
    · have hia : i = a.length := by omega
      have hfin : val o = val a * val b := by rw [HOV.out, hia, List.take_length]
      have HF := Lib.hid hfin
      clear hfin hia
      go_wp2_with fail
      refine (ref_Trim _ o _ (a.length + b.length) HOL.out.symm (Nat.le_refl _) _ (hrow.rd0 hos (by rw [HOL.out]; omega))).mono ?_
      rintro e w1 ⟨rfl, rfl⟩
      go_wp2
      go_ret
      have ho := (hrow.own hos (by rw [HOL.out]; omega) (Nat.le_refl _) o.length (Nat.le_refl _) (Nat.le_refl _)).trim
      have hle := limbs_length_le hos
      rw [HOL.out] at ho hle
      rw [List.take_of_length_le (by rw [HOL.out]; omega), HF.out] at ho
      rw [HF.out] at hle
      exact ⟨_, _, by rw [HF.out]; rfl, hle, ho, hbl⟩
end Go.Proofs.YtenekbfnlbipiaaDoor
namespace Go.Proofs.YtenekbfnlbipiaaDoor
open Go.RowKit
set_option linter.unusedVariables false
set_option linter.unusedSimpArgs false
set_option maxHeartbeats 4000000
set_option maxRecDepth 100000

/-- A number out of a function, in memory from block B on. -/
def FitAns (B : Nat) (w : World) (r : List Nat × Int) (e : Ending) (w' : World) : Prop :=
  ∃ A c, e = .returned (.tuple #[.agg #[.slice A r.1.length c], .int .i64 r.2]) ∧ Own w' 90 B A c r.1 ∧ Below w.heap.size w w'

theorem ref_fits (A : Option Addr) (c : Nat) (l : List Nat) (B : Nat) (n : Nat) (hn : n = l.length) (hc : n ≤ c) (w : World) (h : Own w 90 B A c l) (hB : B ≤ w.heap.size) :
    Calls Tryd.prog 52 #[.slice A n c] w (FitAns B w (fitS (val l))) := by
  subst hn
  have h1 := (h.alloc (Obj.cells #[Value.slice none 0 0] 56))
  have hle := limbs_length_le h.sm
  have ht := h1.trim
  by_cases h5 : 16384 < (limbs (val l)).length
  · have e : fitS (val l) = ([], 4) := by unfold fitS; rw [if_pos h5]
    rw [e]
    go_enter Tryd.func52, Tryd.ntmps52
    go_wp2_with fail
    refine (ref_Trim A l _ c rfl hc _ h1.rd).mono ?_
    rintro e w1 ⟨rfl, rfl⟩
    go_wp2
    (try simp only [Exit.inBlock, Exit.then]); refine bodyPost_ret (by simp (maxDischargeDepth := 9) [results, Tryd.results52, go_sem, World.cell?_alloc_past]; try rfl) rfl ?_
    exact ⟨none, 0, rfl, Own.nil _ _ _, (by repeat' (first | (with_reducible assumption) | (with_reducible exact Below.refl _ _) | (with_reducible refine bdn ?_ _) | (with_reducible refine Below.drew ?_) | (with_reducible refine Below.setCell ?_ ?_ _) | (with_reducible refine Below.alloc ?_ ?_ _) | go_size))⟩
  · have e : fitS (val l) = (limbs (val l), 0) := by unfold fitS; rw [if_neg h5]
    rw [e]
    go_enter Tryd.func52, Tryd.ntmps52
    go_wp2_with fail
    refine (ref_Trim A l _ c rfl hc _ h1.rd).mono ?_
    rintro e w1 ⟨rfl, rfl⟩
    go_wp2_with fail
    refine (ref_nat _ _ _ _).mono ?_
    rintro e w1 ⟨rfl, hb1⟩
    obtain ⟨hc1, hf1⟩ := bcell hb1
    have hbw1 : Below w.heap.size w w1 := Below.trans (b := _) (by repeat' (first | (with_reducible assumption) | (with_reducible exact Below.refl _ _) | (with_reducible refine bdn ?_ _) | (with_reducible refine Below.drew ?_) | (with_reducible refine Below.setCell ?_ ?_ _) | (with_reducible refine Below.alloc ?_ ?_ _) | go_size)) (hb1.mono (by go_size))
    have hz1_0 : w.heap.size < w1.heap.size := by have := hb1.size; simp at this; omega
    go_wp2
    (try simp only [Exit.inBlock, Exit.then]); refine bodyPost_ret (by simp (maxDischargeDepth := 9) [results, Tryd.results52, go_sem, hc1, hz1_0]; try rfl) rfl ?_
    refine ⟨_, _, rfl, ?_, (by repeat' (first | (with_reducible assumption) | (with_reducible exact Below.refl _ _) | (with_reducible refine bdn ?_ _) | (with_reducible refine Below.drew ?_) | (with_reducible refine Below.setCell ?_ ?_ _) | (with_reducible refine Below.alloc ?_ ?_ _) | go_size))⟩
    refine (ht.below hb1 (by simp)).setFar ?_ _
    intro a ha
    exact Nat.ne_of_lt (h.lt a ha)
end Go.Proofs.YtenekbfnlbipiaaDoor
