/- Walks: the program's Text. -/
import Derived.Test.YtkepjhgafpbecaaSml
import Derived.Test.YtkepjhgafpbecaaG
namespace Go.Proofs.Ytkepjhgafpbecaa
open Go.RowKit
set_option linter.unusedVariables false
set_option linter.unusedSimpArgs false
set_option maxHeartbeats 4000000
set_option maxRecDepth 100000

/-- The relation of Text's outer loop. -/
def TxRel (N : Nat) (w : World) (v5 v6 : Value) (wr : World) : Prop :=
  ∃ (ds : List Nat) (A : Option Addr) (l : List Nat) (c : Nat), v6 = .slice A l.length c ∧ RdS wr w.heap.size 28 A l ∧ l.length ≤ 16384 ∧ (l ≠ [] → 0 < val l) ∧ OwnR wr w.heap.size 5 .u8 v5 (ds.map (48 + ·)) ∧
    Dg ds ∧ N = dval ds + 10 ^ ds.length * val l ∧ ds.length ≤ 600000 ∧ Below w.heap.size w wr
/-- The relation of its inner loop. -/
def TxIn (N Q : Nat) (w : World) (v5 v8 v30 : Value) (A : Option Addr) (l : List Nat) (wr : World) (n0 : Nat) : Prop :=
  ∃ (ds : List Nat) (r i : Nat), i ≤ 9 ∧ v8 = .int .u32 (r : Int) ∧ v30 = .int .i64 (i : Int) ∧ r < 10 ^ (9 - i) ∧ RdS wr w.heap.size 28 A l ∧ OwnR wr w.heap.size 5 .u8 v5 (ds.map (48 + ·)) ∧
    Dg ds ∧ N = dval ds + 10 ^ ds.length * (r + 10 ^ (9 - i) * Q) ∧ ds.length = n0 + i ∧ Below w.heap.size w wr

theorem dval_take {ds : List Nat} {n : Nat} (hn : 0 < n) (hl : n ≤ ds.length) : dval (ds.take n) = dval (ds.take (n - 1)) + 10 ^ (n - 1) * nth ds (n - 1) := by
  obtain ⟨n, rfl⟩ : ∃ k, n = k + 1 := ⟨n - 1, by omega⟩
  have e : ds.take (n + 1) = ds.take n ++ [nth ds n] := by
    rw [nth_lt _ (by omega)]; exact (List.take_append_getElem (by omega)).symm
  rw [Nat.add_sub_cancel, e, dval_append]
  have : (ds.take n).length = n := by simp; omega
  rw [this]; simp [dval]
theorem nth_map48 (ds : List Nat) (j : Nat) (h : j < ds.length) : nth (ds.map (48 + ·)) j = 48 + nth ds j := by
  rw [nth_lt _ (by simpa using h), nth_lt _ h]; simp
/-- The text, from the digits without the noughts at their end. -/
theorem text_of_take {N n : Nat} {ds o : List Nat} (hd : Dg ds) (hn : 0 < n) (hl : n ≤ ds.length) (hN : N = dval (ds.take n)) (hz : nth ds (n - 1) ≠ 0) (ho : o.length = n)
    (hc : ∀ j, j < n → nth o j = nth (ds.map (48 + ·)) (n - 1 - j)) : o = textL N := by
  have hlen : (ds.take n).length = n := by simp; omega
  have hlow : 10 ^ (n - 1) ≤ N := by
    rw [hN, dval_take hn hl]
    have := Nat.mul_le_mul_left (10 ^ (n - 1)) (Nat.pos_of_ne_zero hz)
    omega
  have hne : N ≠ 0 := by have := Nat.pow_pos (n := n - 1) (show 0 < 10 by decide); omega
  have hdg : Dg (ds.take n) := fun x hx => hd x (List.mem_of_mem_take hx)
  have hdd : digs N = ds.take n := by
    rw [hN]; exact digs_of hdg (.inr (by rw [hlen, ← hN]; exact hlow))
  rw [textL_pos hne, hdd]
  refine rev_of (by simp; omega) fun j hj => ?_
  simp only [List.length_map, hlen] at hj ⊢
  rw [hc j hj]
  rw [nth_map48 _ _ (by omega), nth_map48 _ _ (by rw [hlen]; omega), nth_lt _ (show n - 1 - j < ds.length by omega), nth_lt _ (show n - 1 - j < (ds.take n).length by rw [hlen]; omega)]
  simp

theorem nat_field (A : Option Addr) (n c : Nat) (W : World) : (Instr.field 35 (.agg #[.slice A n c]) 0).run Try.prog W = .ok (.slice A n c) W := by kernel_rfl

theorem nat_Text (A : Option Addr) (l : List Nat) (n c : Nat) (hn : n = l.length) (w : World) (h : Rd w A l) :
    Calls Try.prog 25 #[.agg #[.slice A n c]] w fun e w' => e = .returned (.tuple #[.string (textS l).1, .int .i64 (textS l).2]) ∧ Below w.heap.size w w' := by
  subst hn
  have hl := h.len
  have h1 := h.alloc (Obj.cells #[Value.slice A l.length c] 35)
  by_cases hc0 : chk l = 0
  · have hlen := (chk_zero hc0).1
    have hlim := chk_limbs h.sm hc0
    have hN : val l < 2 ^ bitsMax := by
      have := val_lt h.sm
      refine Nat.lt_of_lt_of_le this ?_
      rw [show 4294967296 = 2 ^ 32 from rfl, ← Nat.pow_mul]
      exact Nat.pow_le_pow_right (by decide) (by unfold bitsMax; omega)
    have Hchk : Hid (chk l = 0) := hc0
    have e0 : Hid (textS l = (bstr (textL (val l)), 0)) := by
      show textS l = _
      unfold textS; rw [if_pos hc0]
    have HLIM := Lib.hid hlim
    have HN := Lib.hid hN
    clear hc0 hlim hN
    rw [e0.out]
    go_enter Try.func25, Try.ntmps25
    go_wp2_with fail
    refine (nat_Check A l _ c rfl _ h1).mono ?_
    rintro e w1 ⟨rfl, hb1⟩
    rw [Hchk.out]
    obtain ⟨hc1, hf1⟩ := bcell hb1
    have hbw1 : Below w.heap.size w w1 := Below.trans (b := _) (by repeat' (first | (with_reducible assumption) | (with_reducible exact Below.refl _ _) | (with_reducible refine bdn ?_ _) | (with_reducible refine Below.drew ?_) | (with_reducible refine Below.setCell ?_ ?_ _) | (with_reducible refine Below.alloc ?_ ?_ _) | go_size)) (hb1.mono (by go_size))
    have hz1_0 : w.heap.size < w1.heap.size := by have := hb1.size; simp at this; omega
    go_wp2
    go_loopw [5, 6] (fun v5 v6 wr => TxRel (val l) w v5 v6 wr) (fun v5 _ _ => 600009 - sliceLen v5)
    case atStart =>
      refine ⟨[], A, l, c, rfl, (h.rdS (Nat.le_refl _)).below hbw1, hlen, ?_, OwnR.nil _ _ _ _, Dg.nil, by simp [dval], by decide, hbw1⟩
      intro hne
      rcases Nat.eq_zero_or_pos (val l) with h0 | h0
      · exfalso; apply hne; rw [← HLIM.out, h0]; rfl
      · exact h0
    case round =>
      obtain ⟨wo, rfl⟩ : ∃ wo : World, wo = wr := ⟨_, rfl⟩
      obtain ⟨ds, A1, l1, c1, rfl, hrd, hlen1, hpos, hown, hdg, hN1, hdl, hbl⟩ := hrel
      have HN1 := Lib.hid hN1
      have HDL := Lib.hid hdl
      clear hN1 hdl
      by_cases hz : l1.length = 0
      · have hz1 : l1 = [] := List.eq_nil_of_length_eq_zero hz
        have hdv : val l = dval (ds.take ds.length) := by
          have := HN1.out
          rw [hz1] at this
          rw [List.take_length]
          simpa [val] using this
        have HDV := Lib.hid hdv
        obtain ⟨A5, c5, rfl⟩ := hown.len.2
        clear hz hdv
        subst hz1
        obtain ⟨b, hb⟩ : ∃ b : List Nat, b = ds.map (48 + ·) := ⟨_, rfl⟩
        have hbl2 : b.length = ds.length := by rw [hb]; simp
        rw [← hb] at hown
        rw [← hb]
        have HB := Lib.hid hb
        have HBL := Lib.hid hbl2
        have hbb : b.length ≤ 600000 := by have := HDL.out; omega
        clear hb hbl2
        go_wp2
        go_loop [9] (fun v9 => ∃ n : Nat, n ≤ b.length ∧ v9 = .int .i64 (n : Int) ∧ val l = dval (ds.take n)) (fun v9 => (intOf v9).toNat)
        case atStart => exact ⟨b.length, Nat.le_refl _, rfl, by rw [HBL.out]; exact HDV.out⟩
        case round =>
          obtain ⟨n, hnb, rfl, hv⟩ := hrel
          have HV := Lib.hid hv
          clear hv
          by_cases hn0 : n = 0
          · have htx : textL (val l) = [48] := by rw [HV.out, hn0]; rfl
            have HTX := Lib.hid htx
            clear htx
            subst hn0
            go_wp2
            go_ret2
            refine ⟨by rw [HTX.out]; rfl, hbl⟩
          · have hn1 : decide ((0 : Int) < (n : Int)) = true := by simp; omega
            have hn2 : ((n : Int) == 0) = false := by rw [beq_eq_false_iff_ne]; omega
            have hn3 : 0 < n := by omega
            obtain ⟨bb, off, rfl, hcell⟩ := hown.rdK (by omega)
            have hx : ((n : Int) - 1).toNat = n - 1 := by omega
            have hc1 := hcell (n - 1) (by omega)
            have hb48 : nth b (n - 1) = 48 + nth ds (n - 1) := by
              rw [HB.out]; exact nth_map48 _ _ (by have := HBL.out; omega)
            have HB48 := Lib.hid hb48
            clear hb48
            by_cases hd0 : nth b (n - 1) = 48
            · have hd1 : (((nth b (n - 1) : Nat) : Int) == 48) = true := by rw [beq_iff_eq]; omega
              have HD0 := Lib.hid hd0
              clear hd0
              go_wp2
              go_round
              case rel =>
                refine ⟨n - 1, by omega, vi (by omega), ?_⟩
                have h7 := dval_take (ds := ds) (n := n) (by omega) (by have := HBL.out; omega)
                have h8 : nth ds (n - 1) = 0 := by have := HB48.out; have := HD0.out; omega
                rw [HV.out, h7, h8, Nat.mul_zero, Nat.add_zero]
              case measure => first | (simp [intOf]; done) | (simp [intOf]; omega)
            · have hd1 : (((nth b (n - 1) : Nat) : Int) == 48) = false := by rw [beq_eq_false_iff_ne]; omega
              have HZ : Hid (nth ds (n - 1) ≠ 0) := by
                show _ ≠ _
                have := HB48.out; omega
              clear hd0
              have hmk := fun W => mk8 n (n : Int) rfl (by omega) W
              go_wp2
              go_loopw [62, 11] (fun v62 v11 wi => ∃ (k : Nat) (o : List Nat), k ≤ n ∧ v62 = .int .i64 (k : Int) ∧ o.length = n ∧ RowK wi 5 .u8 wo.heap.size o ∧ (∀ j, j < k → nth o j = nth b (n - 1 - j)) ∧ Below wo.heap.size wo wi) (fun v62 _ _ => n - (intOf v62).toNat)
              case atStart =>
                exact ⟨0, List.replicate n 0, Nat.zero_le _, rfl, by simp, rowK_new rfl rfl, fun j hj => by omega, (by repeat' (first | (with_reducible assumption) | (with_reducible exact Below.refl _ _) | (with_reducible refine bdn ?_ _) | (with_reducible refine Below.drew ?_) | (with_reducible refine Below.setCell ?_ ?_ _) | (with_reducible refine Below.alloc ?_ ?_ _) | go_size))⟩
              case round =>
                obtain ⟨k, o, hk, rfl, hol, hrow, hcp, hbi⟩ := hrel
                have HOL := Lib.hid hol
                have HCP := Lib.hid hcp
                clear hol hcp
                by_cases hk1 : k < n
                · obtain ⟨bb', off', hae, hcell'⟩ := (hown.rdK.below hbi) (by omega)
                  injection hae with hae
                  injection hae with hae1 hae2
                  subst hae1 hae2
                  have hc3 := hcell' (n - 1 - k) (by omega)
                  have hc2 := hrow.cell k (by rw [HOL.out]; exact hk1)
                  have hfz := hrow.frozen k
                  clear hcell hcell' hc1
                  have hx : ((n : Int) - 1 - (k : Int)).toNat = n - 1 - k := by omega
                  go_wp2
                  go_roundw
                  case rel =>
                    refine ⟨k + 1, o.set k (nth b (n - 1 - k)), by omega, by go_num, by simp [HOL.out], hrow.setE _ _ rfl, ?_, (by repeat' (first | (with_reducible assumption) | (with_reducible exact Below.refl _ _) | (with_reducible refine bdn ?_ _) | (with_reducible refine Below.drew ?_) | (with_reducible refine Below.setCell ?_ ?_ _) | (with_reducible refine Below.alloc ?_ ?_ _) | go_size))⟩
                    intro j hj
                    by_cases hjk : j = k
                    · subst hjk
                      exact nth_set_eq _ _ _ (by rw [HOL.out]; exact hk1)
                    · rw [nth_set_ne _ _ _ _ (by omega)]
                      exact HCP.out j (by omega)
                  case measure => first | (simp [intOf]; done) | (simp [intOf]; omega)
                · have hkb : k = n := by omega
                  have hcv := run_bytes wr 75 5 9 under_u8s under_u8 under_str wo.heap.size 0 n n o HOL.out (fun j hj => by rw [Nat.zero_add]; exact hrow.cell j hj)
                  have hot : o = textL (val l) := by
                    refine text_of_take hdg (by omega) (by have := HBL.out; omega) HV.out HZ.out HOL.out fun j hj => ?_
                    rw [HCP.out j (by omega), HB.out]
                  rw [hot] at hcv
                  clear hot
                  go_wp2
                  go_ret2
                  exact ⟨rfl, hbl.trans (hbi.mono hbl.size)⟩
      · have hV : 0 < val l1 := hpos (by intro e; rw [e] at hz; simp at hz)
        have h5 : 0 < l1.length := by omega
        have hdl2 : ds.length ≤ 524288 := by
          have h9 : 10 ^ (ds.length + 1 - 1) ≤ val l := by
            rw [Nat.add_sub_cancel, HN1.out]
            have := Nat.mul_le_mul_left (10 ^ ds.length) hV
            omega
          have := low_bound HN.out h9
          unfold bitsMax at this
          omega
        have HDL2 := Lib.hid hdl2
        clear hz hdl2
        go_wp2_with fail
        refine (nat_small A1 l1 _ c1 rfl (by omega) 1000000000 _ rfl (by decide) (by decide) _ hrd.rd).mono ?_
        rintro e w2 ⟨o, g, hol, hso, hvo, rfl, hg, hrow2, hb2⟩
        have hown2 := hown.below hb2 (Nat.le_refl _)
        have hol16 : o.length ≤ 16384 := by omega
        go_wp2_with fail
        refine (nat_trimmed_own g o _ l1.length wo.heap.size hol.symm (Nat.le_refl _) _ hrow2 hso (by omega) hg).mono ?_
        rintro e w3 ⟨A3, c3, rfl, ho3, _, hb3⟩
        have hq : limbs (val o) = limbs (val l1 / 1000000000) := by rw [hvo]
        have hlq : (limbs (val o)).length ≤ o.length := limbs_length_le hso
        have hbl3 : Below w.heap.size w w3 := (hbl.trans (hb2.mono hbl.size)).trans (hb3.mono (Nat.le_trans hbl.size hb2.size))
        have hown3 := hown2.below hb3 (Nat.le_refl _)
        rw [hq] at ho3 hlq ⊢
        clear hq
        generalize hq : limbs (val l1 / 1000000000) = q at *
        have HQ := Lib.hid hq
        have HOL16 := Lib.hid hol16
        have HLQ := Lib.hid hlq
        clear hq hol hvo hol16 hlq
        have hfd := fun W => nat_field A3 q.length c3 W
        go_wp2
        go_loopw [5, 8, 30] (fun v5 v8 v30 wi => TxIn (val l) (val l1 / 1000000000) w v5 v8 v30 A3 q wi ds.length) (fun _ _ v30 _ => 9 - (intOf v30).toNat)
        case atStart =>
          refine ⟨ds, val l1 % 1000000000, 0, by decide, rfl, rfl, Nat.mod_lt _ (by decide), ho3.rdS, hown3, hdg, ?_, rfl, hbl3⟩
          rw [HN1.out]
          congr 2
          omega
        case round =>
          obtain ⟨ds2, r, i, hi9, rfl, rfl, hr, hrd2, hown4, hdg2, hN2, hn0, hbl2⟩ := hrel
          have HN2 := Lib.hid hN2
          have HR := Lib.hid hr
          have HN0 := Lib.hid hn0
          have hr10 : r < 1000000000 := Nat.lt_of_lt_of_le hr (Nat.pow_le_pow_right (j := 9) (by decide) (by omega))
          have HR10 := Lib.hid hr10
          clear hN2 hr hn0 hr10
          by_cases hi : i < 9
          · have hiB : decide ((i : Int) < 9) = true := by simp; omega
            have hdl2 : ds2.length ≤ 524297 := by have := HN0.out; have := HDL2.out; omega
            have HDL3 := Lib.hid hdl2
            clear hdl2
            go_wp2_with (at_builtin; refine wpList_app elem8 rfl _ _ rfl (hown4.alloc _) rfl ⟨_, 0, none⟩ rfl (48 + r % 10) ?c1 ?c2 ?c3 (fun v' w' hown' hgr hbb => ?_))
            case c1 => simp [go_sem]
            case c2 => have := HDL3.out; simp; omega
            case c3 => have := hbl2.size; simp; omega
            go_roundw
            case rel =>
              have e := nine_mod r i (val l1 / 1000000000) hi
              have st := digit_step HN2.out
              rw [e.1, e.2] at st
              exact ⟨ds2 ++ [r % 10], r / 10, i + 1, by omega, vi (by have := HR10.out; omega), by go_num, nine_lt r i hi HR.out, (hrd2.alloc _).grown hgr (hown4.alloc _) (by decide), by rw [List.map_append]; exact hown', hdg2.append (Dg.cons (Nat.mod_lt _ (by decide)) Dg.nil), st, by have := HN0.out; simp; omega, (hbl2.alloc hbl2.size _).trans hbb⟩
            case measure => first | (simp [intOf]; done) | (simp [intOf]; omega)
          · have hi9' : i = 9 := by omega
            subst hi9'
            have hr0 : r = 0 := by have := HR.out; simp at this; omega
            subst hr0
            go_wp2
            go_roundw
            case rel =>
              refine ⟨ds2, A3, q, c3, rfl, hrd2, ?_, ?_, hown4, hdg2, ?_, ?_, hbl2⟩
              · have := HOL16.out; have := HLQ.out; omega
              · intro hne
                rcases Nat.eq_zero_or_pos (val q) with h0 | h0
                · exfalso; apply hne
                  have h7 := HQ.out
                  rw [← h7, val_limbs] at h0
                  rw [← h7, h0]; rfl
                · exact h0
              · rw [← HQ.out, val_limbs, HN2.out]
                congr 2
                simp
              · have := HN0.out; have := HDL2.out; omega
            case measure =>
              have a1 := hown.len.1
              have a2 := hown4.len.1
              simp only [List.length_map] at a1 a2
              have := HN0.out
              have := HDL2.out
              show 600009 - sliceLen _ < 600009 - sliceLen _
              omega
  · have e0 : textS l = (bstr [], chk l) := by unfold textS; rw [if_neg hc0]
    have hne : (chk l != 0) = true := by rw [bne_iff_ne]; exact hc0
    rw [e0]
    clear hc0
    go_enter Try.func25, Try.ntmps25
    go_wp2_with fail
    refine (nat_Check A l _ c rfl _ h1).mono ?_
    rintro e w1 ⟨rfl, hb1⟩
    obtain ⟨hc1, hf1⟩ := bcell hb1
    have hbw1 : Below w.heap.size w w1 := Below.trans (b := _) (by repeat' (first | (with_reducible assumption) | (with_reducible exact Below.refl _ _) | (with_reducible refine bdn ?_ _) | (with_reducible refine Below.drew ?_) | (with_reducible refine Below.setCell ?_ ?_ _) | (with_reducible refine Below.alloc ?_ ?_ _) | go_size)) (hb1.mono (by go_size))
    have hz1_0 : w.heap.size < w1.heap.size := by have := hb1.size; simp at this; omega
    go_wp2
    go_ret2
    exact ⟨rfl, (by repeat' (first | (with_reducible assumption) | (with_reducible exact Below.refl _ _) | (with_reducible refine bdn ?_ _) | (with_reducible refine Below.drew ?_) | (with_reducible refine Below.setCell ?_ ?_ _) | (with_reducible refine Below.alloc ?_ ?_ _) | go_size))⟩
end Go.Proofs.Ytkepjhgafpbecaa
