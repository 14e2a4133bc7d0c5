/- Walks: the small functions of both packages. -/
import Derived.Test.YtenekbfnlbipiaaDoorProg
import Derived.Test.YtenekbfnlbipiaaDoorMem
import Derived.Deep.QuietTactic
import Derived.BigQuiet
namespace Go.Proofs.YtenekbfnlbipiaaDoor
open Go.RowKit
set_option linter.unusedVariables false
set_option linter.unusedSimpArgs false
set_option maxHeartbeats 4000000
set_option maxRecDepth 100000

theorem chk_facts (l : List Nat) (A : Option Addr) (w : World) (h : Rd w A l) (hn : 0 < l.length) :
    ∃ b off, A = some ⟨b, off, none⟩ ∧ b < w.heap.size ∧ w.cell? ⟨b, off + (l.length - 1), none⟩ = some (.int .u32 ((nth l (l.length - 1) : Nat) : Int)) := by
  obtain ⟨b, off, e, hc⟩ := h.open_ hn
  exact ⟨b, off, e, cell_lt (hc 0 hn), hc _ (by omega)⟩
theorem chk_ten {l : List Nat} (h1 : ¬16384 < l.length) (h2 : 0 < l.length) (h3 : nth l (l.length - 1) = 0) : chk l = 10 := by
  unfold chk; rw [if_neg h1, last_nth (by intro e; rw [e] at h2; simp at h2), h3, if_pos rfl]
theorem chk_ok {l : List Nat} (h1 : ¬16384 < l.length) (h2 : 0 < l.length) (h3 : nth l (l.length - 1) ≠ 0) : chk l = 0 := by
  unfold chk; rw [if_neg h1, last_nth (by intro e; rw [e] at h2; simp at h2), if_neg (by simpa using h3)]
theorem chk_nil {l : List Nat} (h2 : ¬0 < l.length) : chk l = 0 := by
  have : l = [] := List.eq_nil_of_length_eq_zero (by omega)
  subst this; rfl

theorem nat_Check (A : Option Addr) (l : List Nat) (n c : Nat) (hn : n = l.length) (w : World) (h : Rd w A l) :
    Calls Tryd.prog 76 #[.agg #[.slice A n c]] w (Says w (.int .i64 (chk l))) := by
  subst hn
  have hl := h.len
  by_cases h1 : 16384 < l.length
  · have e : chk l = 4 := by unfold chk; rw [if_pos h1]
    rw [e]
    go_enter Tryd.func76, Tryd.ntmps76
    go_wp2
    go_ret
    exact ⟨rfl, (Below.refl _ _).alloc (Nat.le_refl _) _⟩
  · by_cases h2 : 0 < l.length
    · obtain ⟨b, off, rfl, hb, hc⟩ := chk_facts l A w h h2
      by_cases h3 : nth l (l.length - 1) = 0
      · rw [chk_ten h1 h2 h3]
        rw [h3] at hc
        go_enter Tryd.func76, Tryd.ntmps76
        go_wp2
        go_ret
        exact ⟨rfl, (Below.refl _ _).alloc (Nat.le_refl _) _⟩
      · rw [chk_ok h1 h2 h3]
        have h3' : (((nth l (l.length - 1) : Nat) : Int) == 0) = false := by simp; exact h3
        go_enter Tryd.func76, Tryd.ntmps76
        go_wp2
        go_ret
        exact ⟨rfl, (Below.refl _ _).alloc (Nat.le_refl _) _⟩
    · rw [chk_nil h2]
      go_enter Tryd.func76, Tryd.ntmps76
      go_wp2
      go_ret
      exact ⟨rfl, (Below.refl _ _).alloc (Nat.le_refl _) _⟩

theorem ref_Check (A : Option Addr) (l : List Nat) (n c : Nat) (hn : n = l.length) (w : World) (h : Rd w A l) :
    Calls Tryd.prog 56 #[.agg #[.slice A n c]] w (Says w (.int .i64 (chk l))) := by
  subst hn
  have hl := h.len
  by_cases h1 : 16384 < l.length
  · have e : chk l = 4 := by unfold chk; rw [if_pos h1]
    rw [e]
    go_enter Tryd.func56, Tryd.ntmps56
    go_wp2
    go_ret
    exact ⟨rfl, (Below.refl _ _).alloc (Nat.le_refl _) _⟩
  · by_cases h2 : 0 < l.length
    · obtain ⟨b, off, rfl, hb, hc⟩ := chk_facts l A w h h2
      by_cases h3 : nth l (l.length - 1) = 0
      · rw [chk_ten h1 h2 h3]
        rw [h3] at hc
        go_enter Tryd.func56, Tryd.ntmps56
        go_wp2
        go_ret
        exact ⟨rfl, (Below.refl _ _).alloc (Nat.le_refl _) _⟩
      · rw [chk_ok h1 h2 h3]
        have h3' : (((nth l (l.length - 1) : Nat) : Int) == 0) = false := by simp; exact h3
        go_enter Tryd.func56, Tryd.ntmps56
        go_wp2
        go_ret
        exact ⟨rfl, (Below.refl _ _).alloc (Nat.le_refl _) _⟩
    · rw [chk_nil h2]
      go_enter Tryd.func56, Tryd.ntmps56
      go_wp2
      go_ret
      exact ⟨rfl, (Below.refl _ _).alloc (Nat.le_refl _) _⟩

theorem bdn {B : Nat} {a w : World} (h : Below B a w) (n : Nat) : Below B a (w.drewN n) := h.trans ⟨rfl, rfl, rfl, Nat.le_refl _, fun _ _ => rfl⟩
theorem rd_at {w wr : World} {A : Option Addr} {l : List Nat} (h : Rd w A l) (hb : Below w.heap.size w wr) {k : Nat} (hk : k < l.length) :
    ∃ b off, A = some ⟨b, off, none⟩ ∧ wr.cell? ⟨b, off + k, none⟩ = some (.int .u32 ((nth l k : Nat) : Int)) := by
  obtain ⟨b, off, e, hc⟩ := (h.below hb).open_ (by omega)
  exact ⟨b, off, e, hc k hk⟩

theorem nat_cmp (A B : Option Addr) (a b : List Nat) (n m c d : Nat) (hn : n = a.length) (hm : m = b.length) (w : World) (ha : Rd w A a) (hb : Rd w B b) :
    Calls Tryd.prog 81 #[.slice A n c, .slice B m d] w (Says w (.int .i64 (cmpL a b))) := by
  subst hn hm
  have hla := ha.len
  have hlb := hb.len
  by_cases h1 : a.length < b.length
  · have e : cmpL a b = -1 := by unfold cmpL; rw [if_pos h1]
    rw [e]
    go_enter Tryd.func81, Tryd.ntmps81
    go_wp2
    go_ret
    exact ⟨rfl, Below.refl _ _⟩
  by_cases h2 : b.length < a.length
  · have e : cmpL a b = 1 := by unfold cmpL; rw [if_neg h1, if_pos h2]
    rw [e]
    go_enter Tryd.func81, Tryd.ntmps81
    go_wp2
    go_ret
    exact ⟨rfl, Below.refl _ _⟩
  have hl : a.length = b.length := by omega
  have HL := Lib.hid hl
  clear hl
  go_enter Tryd.func81, Tryd.ntmps81
  go_wp2
  go_loopw [5] (fun i wr => ∃ k : Nat, k ≤ a.length ∧ i = .int .i64 ((k : Int) - 1) ∧ a.drop k = b.drop k ∧ Below w.heap.size w wr) (fun i _ => (intOf i + 1).toNat)
  case atStart => exact ⟨a.length, Nat.le_refl _, rfl, by rw [List.drop_length, HL.out, List.drop_length], Below.refl _ _⟩
  case round =>
    obtain ⟨k, hk, rfl, hd, hbl⟩ := hrel
    have HD := Lib.hid hd
    clear hd
    by_cases hk0 : k = 0
    · subst hk0
      have e : cmpL a b = 0 := (cmpL_zero ha.sm hb.sm).2 (by simpa using HD.out)
      have E := Lib.hid e
      clear e
      go_wp2
      go_ret
      rw [E.out]
      exact ⟨rfl, hbl⟩
    · obtain ⟨k, rfl⟩ : ∃ j, k = j + 1 := ⟨k - 1, by omega⟩
      obtain ⟨ba, oa, rfl, hca⟩ := rd_at ha hbl (k := k) (by omega)
      obtain ⟨bb, ob, rfl, hcb⟩ := rd_at hb hbl (k := k) (by omega)
      rcases Nat.lt_trichotomy (nth a k) (nth b k) with h3 | h3 | h3
      · have E := Lib.hid (cmpL_top_lt HL.out ha.sm k (by omega) HD.out h3)
        go_wp2
        go_quiet (fail)
        go_wp2
        go_ret
        rw [E.out]
        exact ⟨rfl, (by repeat (first | assumption | exact Below.refl _ _ | refine bdn ?_ _ | refine Below.drew ?_))⟩
      · have E := Lib.hid (drop_step HL.out k (by omega) HD.out h3)
        rw [h3] at hca
        clear h3
        go_wp2
        go_quiet (fail)
        go_wp2
        go_quiet (fail)
        go_wp2
        go_roundw
        case rel => exact ⟨k, by omega, by go_num, E.out, (by repeat (first | assumption | exact Below.refl _ _ | refine bdn ?_ _ | refine Below.drew ?_))⟩
        case measure => first | (simp [intOf]; done) | (simp [intOf]; omega)
      · have E := Lib.hid (cmpL_top_gt HL.out hb.sm k (by omega) HD.out h3)
        have h4 : ¬ (nth a k < nth b k) := by omega
        go_wp2
        go_quiet (fail)
        go_wp2
        go_quiet (fail)
        go_wp2
        go_ret
        rw [E.out]
        exact ⟨rfl, (by repeat (first | assumption | exact Below.refl _ _ | refine bdn ?_ _ | refine Below.drew ?_))⟩

theorem ref_cmp (A B : Option Addr) (a b : List Nat) (n m c d : Nat) (hn : n = a.length) (hm : m = b.length) (w : World) (ha : Rd w A a) (hb : Rd w B b) :
    Calls Tryd.prog 62 #[.slice A n c, .slice B m d] w (Says w (.int .i64 (cmpL a b))) := by
  subst hn hm
  have hla := ha.len
  have hlb := hb.len
  by_cases h1 : a.length < b.length
  · have e : cmpL a b = -1 := by unfold cmpL; rw [if_pos h1]
    have hne : ((a.length : Int) != (b.length : Int)) = true := by rw [bne_iff_ne]; omega
    rw [e]
    go_enter Tryd.func62, Tryd.ntmps62
    go_wp2
    go_ret
    exact ⟨rfl, Below.refl _ _⟩
  by_cases h2 : b.length < a.length
  · have e : cmpL a b = 1 := by unfold cmpL; rw [if_neg h1, if_pos h2]
    have hne : ((a.length : Int) != (b.length : Int)) = true := by rw [bne_iff_ne]; omega
    rw [e]
    go_enter Tryd.func62, Tryd.ntmps62
    go_wp2
    go_ret
    exact ⟨rfl, Below.refl _ _⟩
  have hl : a.length = b.length := by omega
  have hne : ((a.length : Int) != (b.length : Int)) = false := by simp [hl]
  have HL := Lib.hid hl
  clear hl
  go_enter Tryd.func62, Tryd.ntmps62
  go_wp2
  go_loopw [5] (fun i wr => ∃ k : Nat, k ≤ a.length ∧ i = .int .i64 ((k : Int) - 1) ∧ a.drop k = b.drop k ∧ Below w.heap.size w wr) (fun i _ => (intOf i + 1).toNat)
  case atStart => exact ⟨a.length, Nat.le_refl _, rfl, by rw [List.drop_length, HL.out, List.drop_length], Below.refl _ _⟩
  case round =>
    obtain ⟨k, hk, rfl, hd, hbl⟩ := hrel
    have HD := Lib.hid hd
    clear hd
    by_cases hk0 : k = 0
    · subst hk0
      have e : cmpL a b = 0 := (cmpL_zero ha.sm hb.sm).2 (by simpa using HD.out)
      have E := Lib.hid e
      clear e
      go_wp2
      go_ret
      rw [E.out]
      exact ⟨rfl, hbl⟩
    · obtain ⟨k, rfl⟩ : ∃ j, k = j + 1 := ⟨k - 1, by omega⟩
      obtain ⟨ba, oa, rfl, hca⟩ := rd_at ha hbl (k := k) (by omega)
      obtain ⟨bb, ob, rfl, hcb⟩ := rd_at hb hbl (k := k) (by omega)
      rcases Nat.lt_trichotomy (nth a k) (nth b k) with h3 | h3 | h3
      · have E := Lib.hid (cmpL_top_lt HL.out ha.sm k (by omega) HD.out h3)
        go_wp2
        go_quiet (fail)
        go_wp2
        go_ret
        rw [E.out]
        exact ⟨rfl, (by repeat (first | assumption | exact Below.refl _ _ | refine bdn ?_ _ | refine Below.drew ?_))⟩
      · have E := Lib.hid (drop_step HL.out k (by omega) HD.out h3)
        rw [h3] at hca
        clear h3
        go_wp2
        go_quiet (fail)
        go_wp2
        go_quiet (fail)
        go_wp2
        go_roundw
        case rel => exact ⟨k, by omega, by go_num, E.out, (by repeat (first | assumption | exact Below.refl _ _ | refine bdn ?_ _ | refine Below.drew ?_))⟩
        case measure => first | (simp [intOf]; done) | (simp [intOf]; omega)
      · have E := Lib.hid (cmpL_top_gt HL.out hb.sm k (by omega) HD.out h3)
        have h4 : ¬ (nth a k < nth b k) := by omega
        go_wp2
        go_quiet (fail)
        go_wp2
        go_quiet (fail)
        go_wp2
        go_ret
        rw [E.out]
        exact ⟨rfl, (by repeat (first | assumption | exact Below.refl _ _ | refine bdn ?_ _ | refine Below.drew ?_))⟩

end Go.Proofs.YtenekbfnlbipiaaDoor
