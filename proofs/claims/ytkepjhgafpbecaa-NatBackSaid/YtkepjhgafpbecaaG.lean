/- Walks: the document's Text. -/
import Derived.Test.YtkepjhgafpbecaaD
import Derived.Test.YtkepjhgafpbecaaByt
namespace Go.Proofs.Ytkepjhgafpbecaa
open Go.RowKit
set_option linter.unusedVariables false
set_option linter.unusedSimpArgs false
set_option maxHeartbeats 4000000
set_option maxRecDepth 100000

theorem info_u8 : (Try.prog.info? 5).map (fun i => (i.zero, i.size, i.bytes)) = some (some (.int .u8 0), 1, 1) := by kernel_rfl
theorem under_u8s : Try.prog.underlying 75 = some (.slice 5) := Try.underlying75
theorem under_u8 : Try.prog.underlying 5 = some (.int .u8) := Try.underlying5
theorem under_str : Try.prog.underlying 9 = some .string := Try.underlying9
theorem elem8 : ElemOf Try.prog 75 5 .u8 := by
  obtain ⟨i, hi, hz, hs, hb⟩ := info_parts info_u8
  exact ⟨under_u8s, i, 1, hi, hz, hs, hb, by decide⟩
theorem mk8 (n : Nat) (N : Int) (hN : N = (n : Int)) (hn : n ≤ 35184372088832) (w : World) :
    (Instr.makeSlice 75 (.int .i64 N) (.int .i64 N)).run Try.prog w = .ok (.slice (some ⟨w.heap.size, 0, none⟩) n n) (w.alloc (.cells (ints .u8 (List.replicate n 0)).toArray 5)) := by
  obtain ⟨i, hi, hz, hs, hb⟩ := info_parts info_u8
  exact run_makeK _ _ .u8 i under_u8s hi hz hs (by omega) n N hN hn w

/-- The text of a number, or the fault. -/
def textS (l : List Nat) : ByteArray × Int := if chk l = 0 then (bstr (textL (val l)), 0) else (bstr [], chk l)

def bitsMax : Nat := 524288
def cap6 : Nat := 600000
theorem cap_lt (x y : Nat) (h1 : x < y) (h2 : y ≤ 524289) : cap6 - y < cap6 - x := by unfold cap6; omega
theorem gap_lt {Q i a b : Nat} (hQ : Q = 0) (hI : i = 0 → 0 < 0 + 10 ^ 9 * Q) (h : a + i ≤ b) : a < b := by
  rcases Nat.eq_zero_or_pos i with h0 | h0
  · have := hI h0
    rw [hQ] at this; simp at this
  · omega
/-- The relation of Text's outer loop: the digits so far are the number's last ones, what is left are its first ones. -/
def TextRel (N : Nat) (w : World) (v5 v6 : Value) (wr : World) : Prop :=
  ∃ (ds : List Nat) (A : Option Addr) (l : List Nat) (c : Nat), v6 = .slice A l.length c ∧ RdS wr w.heap.size 28 A l ∧ l = limbs (val l) ∧ l.length ≤ 16384 ∧ OwnR wr w.heap.size 5 .u8 v5 (ds.map (48 + ·)) ∧
    Dg ds ∧ N = dval ds + 10 ^ ds.length * val l ∧ (ds = [] ∨ 10 ^ (ds.length - 1) ≤ N) ∧ Below w.heap.size w wr
/-- The relation of its inner loop. -/
def TextIn (N Q : Nat) (w : World) (v5 v8 v9 : Value) (A : Option Addr) (l : List Nat) (wr : World) (n0 : Nat) : Prop :=
  ∃ (ds : List Nat) (r i : Nat), i ≤ 9 ∧ v8 = .int .u64 (r : Int) ∧ v9 = .int .i64 (i : Int) ∧ r < 10 ^ (9 - i) ∧ RdS wr w.heap.size 28 A l ∧ OwnR wr w.heap.size 5 .u8 v5 (ds.map (48 + ·)) ∧
    Dg ds ∧ N = dval ds + 10 ^ ds.length * (r + 10 ^ (9 - i) * Q) ∧ (ds = [] ∨ 10 ^ (ds.length - 1) ≤ N) ∧ n0 + i ≤ ds.length ∧ (i = 0 → 0 < r + 10 ^ 9 * Q) ∧ Below w.heap.size w wr

theorem nine_mod (r i Q : Nat) (hi : i < 9) : (r + 10 ^ (9 - i) * Q) % 10 = r % 10 ∧ (r + 10 ^ (9 - i) * Q) / 10 = r / 10 + 10 ^ (9 - (i + 1)) * Q := by
  have e : 10 ^ (9 - i) = 10 * 10 ^ (9 - (i + 1)) := by
    rw [← Nat.pow_succ']; congr 1; omega
  rw [e, Nat.mul_assoc]
  generalize 10 ^ (9 - (i + 1)) * Q = X
  omega
theorem nine_lt (r i : Nat) (hi : i < 9) (h : r < 10 ^ (9 - i)) : r / 10 < 10 ^ (9 - (i + 1)) := by
  have e : 10 ^ (9 - i) = 10 * 10 ^ (9 - (i + 1)) := by
    rw [← Nat.pow_succ']; congr 1; omega
  rw [e] at h
  omega
theorem rev_of {o b : List Nat} (hl : o.length = b.length) (h : ∀ j, j < b.length → nth o j = nth b (b.length - 1 - j)) : o = b.reverse := by
  apply List.ext_getElem
  · simp [hl]
  · intro j h1 h2
    have := h j (by omega)
    rw [nth_lt o h1, nth_lt b (by omega)] at this
    rw [List.getElem_reverse, this]
theorem RdS.alloc {w : World} {B : Nat} {t : TypeId} {A : Option Addr} {l : List Nat} (h : RdS w B t A l) (o : Obj) : RdS (w.alloc o) B t A l := by
  refine ⟨h.1.alloc o, fun a ha hn => ?_⟩
  rcases h.2 a ha hn with h1 | ⟨cur, hk⟩
  · exact .inl h1
  · exact .inr ⟨cur, hk.alloc o⟩

theorem ref_Text (A : Option Addr) (l : List Nat) (n c : Nat) (hn : n = l.length) (w : World) (h : Rd w A l) :
    Calls Try.prog 26 #[.agg #[.slice A n c]] w fun e w' => e = .returned (.tuple #[.string (textS l).1, .int .i64 (textS l).2]) ∧ Below w.heap.size w w' := by
  subst hn
  have hl := h.len
  have h1 := h.alloc (Obj.cells #[Value.slice A l.length c] 35)
  by_cases hc0 : chk l = 0
  · have hlen := (chk_zero hc0).1
    have hlim := chk_limbs h.sm hc0
    have hN : val l < 2 ^ bitsMax := by
      have := val_lt h.sm
      refine Nat.lt_of_lt_of_le this ?_
      rw [show 4294967296 = 2 ^ 32 from rfl, ← Nat.pow_mul]
      exact Nat.pow_le_pow_right (by decide) (by unfold bitsMax; omega)
    have Hchk : Hid (chk l = 0) := hc0
    have e0 : Hid (textS l = (bstr (textL (val l)), 0)) := by
      show textS l = _
      unfold textS; rw [if_pos hc0]
    have HLIM := Lib.hid hlim
    have HN := Lib.hid hN
    clear hc0 hlim hN
    by_cases hl0 : l.length = 0
    · have hl1 : l = [] := List.eq_nil_of_length_eq_zero hl0
      have h3 : ((l.length : Int) == 0) = true := by rw [beq_iff_eq]; omega
      have e1 : Hid (textS l = (bstr [48], 0)) := by
        show textS l = _
        rw [e0.out, hl1]; rfl
      clear hl0 hl1
      rw [e1.out]
      go_enter Try.func26, Try.ntmps26
      go_wp2_with fail
      refine (ref_Check A l _ c rfl _ h1).mono ?_
      rintro e w1 ⟨rfl, hb1⟩
      rw [Hchk.out]
      obtain ⟨hc1, hf1⟩ := bcell hb1
      have hbw1 : Below w.heap.size w w1 := Below.trans (b := _) (by repeat' (first | (with_reducible assumption) | (with_reducible exact Below.refl _ _) | (with_reducible refine bdn ?_ _) | (with_reducible refine Below.drew ?_) | (with_reducible refine Below.setCell ?_ ?_ _) | (with_reducible refine Below.alloc ?_ ?_ _) | go_size)) (hb1.mono (by go_size))
      have hz1_0 : w.heap.size < w1.heap.size := by have := hb1.size; simp at this; omega
      go_wp2
      go_ret2
      exact ⟨rfl, (by repeat' (first | (with_reducible assumption) | (with_reducible exact Below.refl _ _) | (with_reducible refine bdn ?_ _) | (with_reducible refine Below.drew ?_) | (with_reducible refine Below.setCell ?_ ?_ _) | (with_reducible refine Below.alloc ?_ ?_ _) | go_size))⟩
    · have h3 : ((l.length : Int) == 0) = false := by rw [beq_eq_false_iff_ne]; omega
      rw [e0.out]
      clear hl0
      go_enter Try.func26, Try.ntmps26
      go_wp2_with fail
      refine (ref_Check A l _ c rfl _ h1).mono ?_
      rintro e w1 ⟨rfl, hb1⟩
      rw [Hchk.out]
      obtain ⟨hc1, hf1⟩ := bcell hb1
      have hbw1 : Below w.heap.size w w1 := Below.trans (b := _) (by repeat' (first | (with_reducible assumption) | (with_reducible exact Below.refl _ _) | (with_reducible refine bdn ?_ _) | (with_reducible refine Below.drew ?_) | (with_reducible refine Below.setCell ?_ ?_ _) | (with_reducible refine Below.alloc ?_ ?_ _) | go_size)) (hb1.mono (by go_size))
      have hz1_0 : w.heap.size < w1.heap.size := by have := hb1.size; simp at this; omega
      go_wp2
      go_loopw [5, 6] (fun v5 v6 wr => TextRel (val l) w v5 v6 wr) (fun v5 _ _ => cap6 - sliceLen v5)
      case atStart =>
        exact ⟨[], A, l, c, rfl, (h.rdS (Nat.le_refl _)).below hbw1, HLIM.out.symm, hlen, OwnR.nil _ _ _ _, Dg.nil, by simp [dval], .inl rfl, hbw1⟩
      case round =>
        obtain ⟨wo, rfl⟩ : ∃ wo : World, wo = wr := ⟨_, rfl⟩
        obtain ⟨ds, A1, l1, c1, rfl, hrd, hlm, hlen1, hown, hdg, hN1, hlow, hbl⟩ := hrel
        have HLM := Lib.hid hlm
        have HN1 := Lib.hid hN1
        have HLOW := Lib.hid hlow
        have hdl : ds.length ≤ 524289 := by
          rcases hlow with h | h
          · rw [h]; simp
          · exact Nat.le_trans (low_bound HN.out h) (by unfold bitsMax; omega)
        have HDL := Lib.hid hdl
        clear hlm hN1 hlow hdl
        by_cases hz : l1.length = 0
        · have hz1 : l1 = [] := List.eq_nil_of_length_eq_zero hz
          have hdv : val l = dval ds := by
            have := HN1.out
            rw [hz1] at this
            simpa [val] using this
          have hne : val l ≠ 0 := by
            intro e0
            have h5 := HLIM.out
            rw [e0] at h5
            rw [← h5] at h3
            simp [limbs, limbsF] at h3
          have htx : textL (val l) = (ds.map (48 + ·)).reverse := by
            rw [textL_pos hne, hdv, digs_of hdg]
            rcases HLOW.out with h | h
            · exact .inl h
            · exact .inr (by rw [← hdv]; exact h)
          have HTX := Lib.hid htx
          obtain ⟨b, hb⟩ : ∃ b : List Nat, b = ds.map (48 + ·) := ⟨_, rfl⟩
          have hbl2 : b.length = ds.length := by rw [hb]; simp
          rw [← hb] at hown
          have HB := Lib.hid hb
          obtain ⟨A5, c5, rfl⟩ := hown.len.2
          have hbb : b.length ≤ 524289 := by have := HDL.out; omega
          have hmk := fun W => mk8 b.length (b.length : Int) rfl (by omega) W
          have HDLB := Lib.hid hbb
          clear hdv hne htx hb hz hbl2
          subst hz1
          go_wp2
          go_loopw [11] (fun v11 wi => ∃ (k : Nat) (o : List Nat), k ≤ b.length ∧ v11 = .int .i64 (k : Int) ∧ o.length = b.length ∧ RowK wi 5 .u8 wo.heap.size o ∧ (∀ j, j < k → nth o j = nth b (b.length - 1 - j)) ∧ Below wo.heap.size wo wi) (fun v11 _ => b.length - (intOf v11).toNat)
          case atStart =>
            exact ⟨0, List.replicate b.length 0, Nat.zero_le _, rfl, by simp, rowK_new rfl rfl, fun j hj => by omega, (by repeat' (first | (with_reducible assumption) | (with_reducible exact Below.refl _ _) | (with_reducible refine bdn ?_ _) | (with_reducible refine Below.drew ?_) | (with_reducible refine Below.setCell ?_ ?_ _) | (with_reducible refine Below.alloc ?_ ?_ _) | go_size))⟩
          case round =>
            obtain ⟨k, o, hk, rfl, hol, hrow, hcp, hbi⟩ := hrel
            have HOL := Lib.hid hol
            have HCP := Lib.hid hcp
            clear hol hcp
            by_cases hk1 : k < b.length
            · obtain ⟨bb, off, rfl, hcell⟩ := (hown.rdK.below hbi) (by omega)
              have hc1 := hcell (b.length - 1 - k) (by omega)
              have hc2 := hrow.cell k (by rw [HOL.out]; exact hk1)
              have hfz := hrow.frozen k
              clear hcell
              have hx : ((b.length : Int) - 1 - (k : Int)).toNat = b.length - 1 - k := by omega
              go_wp2
              go_roundw
              case rel =>
                refine ⟨k + 1, o.set k (nth b (b.length - 1 - k)), by omega, by go_num, by simp [HOL.out], hrow.setE _ _ rfl, ?_, (by repeat' (first | (with_reducible assumption) | (with_reducible exact Below.refl _ _) | (with_reducible refine bdn ?_ _) | (with_reducible refine Below.drew ?_) | (with_reducible refine Below.setCell ?_ ?_ _) | (with_reducible refine Below.alloc ?_ ?_ _) | go_size))⟩
                intro j hj
                by_cases hjk : j = k
                · subst hjk
                  exact nth_set_eq _ _ _ (by rw [HOL.out]; exact hk1)
                · rw [nth_set_ne _ _ _ _ (by omega)]
                  exact HCP.out j (by omega)
              case measure => first | (simp [intOf]; done) | (simp [intOf]; omega)
            · have hkb : k = b.length := by omega
              have hrev : o = b.reverse := rev_of HOL.out fun j hj => HCP.out j (by omega)
              have hcv := run_bytes wr 75 5 9 under_u8s under_u8 under_str wo.heap.size 0 b.length b.length o HOL.out (fun j hj => by rw [Nat.zero_add]; exact hrow.cell j hj)
              have hot : o = textL (val l) := hrev.trans (by rw [HB.out]; exact HTX.out.symm)
              rw [hot] at hcv
              clear hrev hot
              go_wp2
              go_ret2
              exact ⟨rfl, hbl.trans (hbi.mono hbl.size)⟩
        · have hV : 0 < val l1 := by
            rcases Nat.eq_zero_or_pos (val l1) with h | h
            · exfalso; apply hz; rw [HLM.out, h]; rfl
            · exact h
          have h5 : 0 < l1.length := by omega
          clear hz
          go_wp2_with fail
          refine (ref_over A1 l1 _ c1 rfl (by omega) _ hrd.rd).mono ?_
          rintro e w2 ⟨A2, c2, rfl, ho2, hc2, hb2⟩
          generalize hq : limbs (val l1 / 1000000000) = q at *
          have HQ := Lib.hid hq
          clear hq
          go_wp2
          go_loopw [5, 8, 9] (fun v5 v8 v9 wi => TextIn (val l) (val l1 / 1000000000) w v5 v8 v9 A2 q wi ds.length) (fun _ _ v9 _ => 9 - (intOf v9).toNat)
          case atStart =>
            refine ⟨ds, val l1 % 1000000000, 0, by decide, rfl, rfl, Nat.mod_lt _ (by decide), ho2.rdS, hown.below hb2 (Nat.le_refl _), hdg, ?_, HLOW.out, by omega, fun _ => by omega, hbl.trans (hb2.mono hbl.size)⟩
            rw [HN1.out]
            congr 2
            omega
          case round =>
            obtain ⟨ds2, r, i, hi9, rfl, rfl, hr, hrd2, hown2, hdg2, hN2, hlow2, hn0, hi0, hbl2⟩ := hrel
            have HN2 := Lib.hid hN2
            have HLOW2 := Lib.hid hlow2
            have HR := Lib.hid hr
            have HI0 := Lib.hid hi0
            have HN0 := Lib.hid hn0
            have hr10 : r < 1000000000 := Nat.lt_of_lt_of_le hr (Nat.pow_le_pow_right (j := 9) (by decide) (by omega))
            have hdl2 : ds2.length ≤ 524289 := by
              rcases hlow2 with h | h
              · rw [h]; simp
              · exact Nat.le_trans (low_bound HN.out h) (by unfold bitsMax; omega)
            have HDL2 := Lib.hid hdl2
            have HR10 := Lib.hid hr10
            clear hN2 hlow2 hr hi0 hdl2 hr10
            by_cases hi : i < 9
            · have hiB : decide ((i : Int) < 9) = true := by simp; omega
              by_cases hQ : q.length = 0
              · have hQ0 : Hid (val l1 / 1000000000 = 0) := by
                  show _ = _
                  rw [← limbs_eq_nil, HQ.out]; exact List.eq_nil_of_length_eq_zero hQ
                have hqB : decide ((0 : Int) < (q.length : Int)) = false := by simp [hQ]
                have hqB' : decide (0 < q.length) = false := by simp [hQ]
                clear hQ
                by_cases hr0 : r = 0
                · subst hr0
                  go_wp2
                  go_roundw
                  case rel =>
                    refine ⟨ds2, A2, q, c2, rfl, hrd2, ?_, ?_, hown2, hdg2, ?_, HLOW2.out, hbl2⟩
                    · rw [← HQ.out, val_limbs]
                    · rw [← HQ.out]; exact limbs_div_length hrd.rd.sm hlen1 _
                    · rw [← HQ.out, val_limbs, HN2.out]
                      congr 2
                      rw [hQ0.out]; simp
                  case measure =>
                    have a1 := hown.len.1
                    have a2 := hown2.len.1
                    simp only [List.length_map] at a1 a2
                    have hI := HI0.out
                    have hQQ : 0 < val l1 / 1000000000 ∨ val l1 / 1000000000 = 0 := by omega
                    have hfe := cap_lt ds.length ds2.length (gap_lt hQ0.out hI HN0.out) HDL2.out
                    rw [← a1, ← a2] at hfe
                    exact hfe
                · have HPOS : Hid (0 < r + 10 ^ (9 - i) * (val l1 / 1000000000)) := by
                    show 0 < _
                    omega
                  have hrB' : decide (0 < r) = true := by simp; omega
                  have hrB : decide ((0 : Int) < (r : Int)) = true := by simp; omega
                  go_wp2_with (at_builtin; refine wpList_app elem8 rfl _ _ rfl (hown2.alloc _) rfl ⟨_, 0, none⟩ rfl (48 + r % 10) ?c1 ?c2 ?c3 (fun v' w' hown' hgr hbb => ?_))
                  case c1 => simp [go_sem]
                  case c2 => have := HDL2.out; simp; omega
                  case c3 => have := hbl2.size; simp; omega
                  go_roundw
                  case rel =>
                    have e := nine_mod r i (val l1 / 1000000000) hi
                    have st := digit_step HN2.out
                    have lo := digit_low HN2.out HPOS.out (r % 10)
                    rw [e.1, e.2] at st
                    exact ⟨ds2 ++ [r % 10], r / 10, i + 1, by omega, vi (by have := HR10.out; rw [IntKind.wrap_u64]; omega), by go_num, nine_lt r i hi HR.out, (hrd2.alloc _).grown hgr (hown2.alloc _) (by decide), by rw [List.map_append]; exact hown', hdg2.append (Dg.cons (Nat.mod_lt _ (by decide)) Dg.nil), st, .inr lo, by simp; omega, fun h => by omega, (hbl2.alloc hbl2.size _).trans hbb⟩
                  case measure => first | (simp [intOf]; done) | (simp [intOf]; omega)
              · have HPOS : Hid (0 < r + 10 ^ (9 - i) * (val l1 / 1000000000)) := by
                  show 0 < _
                  have h0 : val l1 / 1000000000 ≠ 0 := by
                    intro e; apply hQ; rw [← HQ.out, e]; rfl
                  have := Nat.mul_pos (Nat.pow_pos (n := 9 - i) (show 0 < 10 by decide)) (Nat.pos_of_ne_zero h0)
                  omega
                have hqB : decide ((0 : Int) < (q.length : Int)) = true := by simp; omega
                go_wp2_with (at_builtin; refine wpList_app elem8 rfl _ _ rfl (hown2.alloc _) rfl ⟨_, 0, none⟩ rfl (48 + r % 10) ?c1 ?c2 ?c3 (fun v' w' hown' hgr hbb => ?_))
                case c1 => simp [go_sem]
                case c2 => have := HDL2.out; simp; omega
                case c3 => have := hbl2.size; simp; omega
                go_roundw
                case rel =>
                  have e := nine_mod r i (val l1 / 1000000000) hi
                  have st := digit_step HN2.out
                  have lo := digit_low HN2.out HPOS.out (r % 10)
                  rw [e.1, e.2] at st
                  exact ⟨ds2 ++ [r % 10], r / 10, i + 1, by omega, vi (by have := HR10.out; rw [IntKind.wrap_u64]; omega), by go_num, nine_lt r i hi HR.out, (hrd2.alloc _).grown hgr (hown2.alloc _) (by decide), by rw [List.map_append]; exact hown', hdg2.append (Dg.cons (Nat.mod_lt _ (by decide)) Dg.nil), st, .inr lo, by simp; omega, fun h => by omega, (hbl2.alloc hbl2.size _).trans hbb⟩
                case measure => first | (simp [intOf]; done) | (simp [intOf]; omega)
            · have hi9' : i = 9 := by omega
              subst hi9'
              have hr0 : r = 0 := by have := HR.out; simp at this; omega
              subst hr0
              go_wp2
              go_roundw
              case rel =>
                refine ⟨ds2, A2, q, c2, rfl, hrd2, ?_, ?_, hown2, hdg2, ?_, HLOW2.out, hbl2⟩
                · rw [← HQ.out, val_limbs]
                · rw [← HQ.out]; exact limbs_div_length hrd.rd.sm hlen1 _
                · rw [← HQ.out, val_limbs, HN2.out]
                  congr 2
                  simp
              case measure =>
                have a1 := hown.len.1
                have a2 := hown2.len.1
                simp only [List.length_map] at a1 a2
                have hI := HI0.out
                have hQQ : 0 < val l1 / 1000000000 ∨ val l1 / 1000000000 = 0 := by omega
                have hfe := cap_lt ds.length ds2.length (by have := HN0.out; omega) HDL2.out
                rw [← a1, ← a2] at hfe
                exact hfe
  · have e0 : textS l = (bstr [], chk l) := by unfold textS; rw [if_neg hc0]
    have hne : (chk l != 0) = true := by rw [bne_iff_ne]; exact hc0
    rw [e0]
    clear hc0
    go_enter Try.func26, Try.ntmps26
    go_wp2_with fail
    refine (ref_Check A l _ c rfl _ h1).mono ?_
    rintro e w1 ⟨rfl, hb1⟩
    obtain ⟨hc1, hf1⟩ := bcell hb1
    have hbw1 : Below w.heap.size w w1 := Below.trans (b := _) (by repeat' (first | (with_reducible assumption) | (with_reducible exact Below.refl _ _) | (with_reducible refine bdn ?_ _) | (with_reducible refine Below.drew ?_) | (with_reducible refine Below.setCell ?_ ?_ _) | (with_reducible refine Below.alloc ?_ ?_ _) | go_size)) (hb1.mono (by go_size))
    have hz1_0 : w.heap.size < w1.heap.size := by have := hb1.size; simp at this; omega
    go_wp2
    go_ret2
    exact ⟨rfl, (by repeat' (first | (with_reducible assumption) | (with_reducible exact Below.refl _ _) | (with_reducible refine bdn ?_ _) | (with_reducible refine Below.drew ?_) | (with_reducible refine Below.setCell ?_ ?_ _) | (with_reducible refine Below.alloc ?_ ?_ _) | go_size))⟩
end Go.Proofs.Ytkepjhgafpbecaa
