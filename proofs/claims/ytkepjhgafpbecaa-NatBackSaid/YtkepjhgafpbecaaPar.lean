/- Walk: nat's Parse. -/
import Derived.Test.YtkepjhgafpbecaaPs
import Derived.Test.YtkepjhgafpbecaaB
import Derived.Test.YtkepjhgafpbecaaUp
namespace Go.Proofs.Ytkepjhgafpbecaa
open Go.RowKit
set_option linter.unusedVariables false
set_option linter.unusedSimpArgs false
set_option maxHeartbeats 4000000
set_option maxRecDepth 100000

/-- What Parse answers, in memory. -/
def ParAns (w : World) (r : List Nat × Int × Int) (e : Ending) (w' : World) : Prop :=
  ∃ A c, e = .returned (.tuple #[.agg #[.slice A r.1.length c], .int .i64 r.2.1, .int .i64 r.2.2]) ∧ Own w' 28 w.heap.size A c r.1 ∧ Below w.heap.size w w'
/-- The relation of Parse's outer loop. -/
def PaRel (l : List Nat) (w : World) (v0 v6 : Value) (wr : World) : Prop :=
  ∃ (k : Nat) (o : List Nat), k ≤ l.length ∧ v0 = .string (bstr (l.drop k)) ∧ OwnR wr (w.heap.size + 1) 28 .u32 v6 o ∧ Sm o ∧ val o = dv (l.take k) ∧ o.length ≤ k ∧ wr.cell? ⟨w.heap.size, 0, none⟩ = some (.slice none 0 0) ∧ wr.frozen? ⟨w.heap.size, 0, none⟩ = false ∧ Below w.heap.size w wr

theorem nat_Parse (l : List Nat) (hb : Bts l) (w : World) :
    Calls Try.prog 27 #[.string (bstr l)] w (ParAns w (parseL l)) := by
  have hsz := bstr_size l
  by_cases hlong : 65536 < l.length
  · rw [parseL_long hlong]
    have hg : decide ((65536 : Int) < (((bstr l).size : Nat) : Int)) = true := by rw [hsz]; simp; omega
    clear hsz hlong
    go_enter Try.func27, Try.ntmps27
    go_wp2
    (try simp only [Exit.inBlock, Exit.then]); refine bodyPost_ret (by simp (maxDischargeDepth := 9) [results, Try.results27, go_sem, hg]; try rfl) rfl ?_
    exact ⟨none, 0, rfl, Own.nil _ _ _, (by repeat' (first | (with_reducible assumption) | (with_reducible exact Below.refl _ _) | (with_reducible refine bdn ?_ _) | (with_reducible refine Below.drew ?_) | (with_reducible refine Below.setCell ?_ ?_ _) | (with_reducible refine Below.alloc ?_ ?_ _) | go_size))⟩
  · have hl : l.length ≤ 65536 := by omega
    have hg : decide ((65536 : Int) < (((bstr l).size : Nat) : Int)) = false := by rw [hsz]; simp; omega
    have hzl : ∀ i : Nat, decide (((i : Nat) : Int) < (((bstr l).size : Nat) : Int)) = decide (i < l.length) := by intro i; rw [hsz]; simp
    have hidx := fun (i : Nat) (hi : i < l.length) (W : World) => run_index_bstr (P := Try.prog) 9 (by kernel_rfl) l hb .i64 i (i : Int) rfl hi W
    clear hlong
    go_enter Try.func27, Try.ntmps27
    go_wp2
    go_loop [19] (fun v19 => ∃ i : Nat, i ≤ l.length ∧ v19 = .int .i64 (i : Int) ∧ ∀ j, j < i → Dgt (nth l j)) (fun v19 => l.length - (intOf v19).toNat)
    case atStart => exact ⟨0, Nat.zero_le _, rfl, fun j hj => absurd hj (Nat.not_lt_zero _)⟩
    case round =>
      obtain ⟨i, hi, rfl, hd⟩ := hrel
      have HD := Lib.hid hd
      clear hd
      have hzi := hzl i
      clear hzl
      by_cases hi1 : i < l.length
      · have hx := hidx i hi1
        clear hidx
        rw [decide_eq_true hi1] at hzi
        by_cases hlo : nth l i < 48
        · have hq : decide (((nth l i : Nat) : Int) < 48) = true := by simp; omega
          have e : parseL l = ([], ((i : Nat) : Int), 12) := parseL_bad hl hi1 (by omega) HD.out
          rw [e]
          clear e hlo
          go_wp2
          (try simp only [Exit.inBlock, Exit.then]); refine bodyPost_ret (by simp (maxDischargeDepth := 9) [results, Try.results27, go_sem, hg]; try rfl) rfl ?_
          exact ⟨none, 0, rfl, Own.nil _ _ _, (by repeat' (first | (with_reducible assumption) | (with_reducible exact Below.refl _ _) | (with_reducible refine bdn ?_ _) | (with_reducible refine Below.drew ?_) | (with_reducible refine Below.setCell ?_ ?_ _) | (with_reducible refine Below.alloc ?_ ?_ _) | go_size))⟩
        · have hq : decide (((nth l i : Nat) : Int) < 48) = false := by simp; omega
          by_cases hhi : 57 < nth l i
          · have hq2 : decide ((57 : Int) < ((nth l i : Nat) : Int)) = true := by simp; omega
            have e : parseL l = ([], ((i : Nat) : Int), 12) := parseL_bad hl hi1 (by omega) HD.out
            rw [e]
            clear e hlo hhi
            go_wp2
            (try simp only [Exit.inBlock, Exit.then]); refine bodyPost_ret (by simp (maxDischargeDepth := 9) [results, Try.results27, go_sem, hg]; try rfl) rfl ?_
            exact ⟨none, 0, rfl, Own.nil _ _ _, (by repeat' (first | (with_reducible assumption) | (with_reducible exact Below.refl _ _) | (with_reducible refine bdn ?_ _) | (with_reducible refine Below.drew ?_) | (with_reducible refine Below.setCell ?_ ?_ _) | (with_reducible refine Below.alloc ?_ ?_ _) | go_size))⟩
          · have hq2 : decide ((57 : Int) < ((nth l i : Nat) : Int)) = false := by simp; omega
            have hdi : Dgt (nth l i) := by omega
            clear hlo hhi
            go_wp2
            go_round
            case rel => exact ⟨i + 1, by omega, vi (by omega), fun j hj => by
              rcases Nat.lt_or_ge j i with h | h
              · exact HD.out j h
              · rw [show j = i by omega]; exact hdi⟩
            case measure => first | (simp [intOf]; done) | (simp [intOf]; omega)
      · obtain rfl : i = l.length := by omega
        rw [decide_eq_false hi1] at hzi
        clear hi1 hi
        by_cases hn : l = []
        · subst hn
          rw [parseL_nil]
          have he : (bstr []).toList.isEmpty = true := by rw [ByteArray.toList_eq]; rfl
          go_wp2
          (try simp only [Exit.inBlock, Exit.then]); refine bodyPost_ret (by simp (maxDischargeDepth := 9) [results, Try.results27, go_sem, hg]; try rfl) rfl ?_
          exact ⟨none, 0, rfl, Own.nil _ _ _, (by repeat' (first | (with_reducible assumption) | (with_reducible exact Below.refl _ _) | (with_reducible refine bdn ?_ _) | (with_reducible refine Below.drew ?_) | (with_reducible refine Below.setCell ?_ ?_ _) | (with_reducible refine Below.alloc ?_ ?_ _) | go_size))⟩
        · rw [parseL_ok hl hn HD.out]
          have hn1 : 0 < l.length := by rcases l with _ | ⟨x, l⟩ <;> simp_all
          have he : (bstr l).toList.isEmpty = false := by
            rcases l with _ | ⟨x, l⟩
            · exact absurd rfl hn
            · rw [ByteArray.toList_eq]; rfl
          have HN := Lib.hid hn
          clear hn hidx hzi
          go_wp2
          clear hg hsz he
          go_loopw [0, 6] (fun v0 v6 wr => PaRel l w v0 v6 wr) (fun v0 _ _ => strLen v0)
          case atStart => exact ⟨0, [], Nat.zero_le _, rfl, OwnR.nil _ _ _ _, Sm.nil, rfl, Nat.le_refl _, by simp, by simp, (by repeat' (first | (with_reducible assumption) | (with_reducible exact Below.refl _ _) | (with_reducible refine bdn ?_ _) | (with_reducible refine Below.drew ?_) | (with_reducible refine Below.setCell ?_ ?_ _) | (with_reducible refine Below.alloc ?_ ?_ _) | go_size))⟩
          case round =>
            obtain ⟨k, o, hk, rfl, hown, hos, hov, hol, c0, f0, hbl⟩ := hrel
            obtain ⟨A6, c6, rfl⟩ := hown.len.2
            have HOV := Lib.hid hov
            have HL := Lib.hid hl
            clear hov hl
            have hqb := hb.drop k
            have hql : (l.drop k).length = l.length - k := List.length_drop
            obtain ⟨q, hq⟩ : ∃ q, q = l.drop k := ⟨_, rfl⟩
            rw [← hq] at hqb hql ⊢
            have HQ := Lib.hid hq
            clear hq
            have hqs := bstr_size q
            by_cases hq0 : 0 < q.length
            · obtain ⟨m, hm⟩ : ∃ m, m = min 9 q.length := ⟨_, rfl⟩
              have hmn : (if ((q.length : Nat) : Int) < 9 then ((q.length : Nat) : Int) else 9) = (m : Int) := by split <;> omega
              have hmI := fun (ts : Array TypeId) (t : TypeId) (W : World) => (run_min_int2 (P := Try.prog) (w := W) ts t .i64 .i64 9 ((q.length : Nat) : Int)).trans (by rw [hmn])
              clear hmn
              have hm9 : m ≤ 9 := by omega
              have hm0 : 0 < m := by omega
              have hmq : m ≤ q.length := by omega
              have hsl1 := fun W : World => run_slice_bstr_to (P := Try.prog) 9 (by kernel_rfl) q .i64 m (m : Int) rfl hmq W
              have hsl2 := fun W : World => run_slice_bstr_from (P := Try.prog) 9 (by kernel_rfl) q .i64 m (m : Int) rfl hmq W
              have hpb := hqb.take m
              have hpl : (q.take m).length = m := by simp; omega
              have hps := bstr_size (q.take m)
              rw [hpl] at hps
              obtain ⟨p, hp⟩ : ∃ p, p = q.take m := ⟨_, rfl⟩
              rw [← hp] at hpb hpl hps hsl1
              have HP := Lib.hid hp
              clear hp
              obtain ⟨cap, ob, hconv, hby⟩ := run_bytes_bstr (P := Try.prog) wr 9 75 5 p hpb (by kernel_rfl) (by kernel_rfl) (by kernel_rfl)
              rw [hpl] at hconv hby
              have HM := Lib.hid hm
              have HQL := Lib.hid hql
              have hpd : ∀ j, j < m → Dgt (nth p j) := by
                intro j hj
                have e : nth p j = nth l (k + j) := by
                  have h1 := HQL.out
                  have h2 := HQ.out
                  have h3 := HP.out
                  rw [nth_lt _ (by omega), nth_lt _ (by omega)]
                  subst h3 h2
                  simp
                rw [e]
                have h1 := HQL.out
                exact HD.out _ (by omega)
              have HPD := Lib.hid hpd
              clear hpd
              clear hql
              clear hm
              have hw1 : Below wr.heap.size wr (wr.alloc ob).drew := ((Below.refl _ _).alloc (Nat.le_refl _) _).drew
              have hby' : ∀ j, j < m → (wr.alloc ob).drew.cell? ⟨wr.heap.size, j, none⟩ = some (.int .u8 ((nth p j : Nat) : Int)) := hby
              clear hby
              go_wp2
              generalize (wr.alloc ob).drew = W1 at *
              clear hconv hmI hsl1 hsl2
              go_loop [8, 9, 53] (fun v8 v9 v53 => ∃ j : Nat, j ≤ m ∧ v53 = .int .i64 (j : Int) ∧ v8 = .int .u64 ((dv (p.take j) : Nat) : Int) ∧ v9 = .int .u64 ((10 ^ j : Nat) : Int)) (fun _ _ v53 => m - (intOf v53).toNat)
              case atStart => exact ⟨0, Nat.zero_le _, rfl, rfl, rfl⟩
              case round =>
                obtain ⟨j, hj, rfl, rfl, rfl⟩ := hrel
                by_cases hj1 : j < m
                · have hcb := hby' j hj1
                  have hdg := HPD.out j hj1
                  have HST := Lib.hid (dv_take_succ p j (by omega))
                  have hD : dv (p.take j) < 1000000000 := by
                    have h1 := dv_lt (p.take j) (fun x hx => by
                      obtain ⟨i, hi, rfl⟩ := List.mem_iff_getElem.1 hx
                      have hi' : i < j := by simp at hi; omega
                      have := HPD.out i (by omega)
                      rw [nth_lt _ (by omega)] at this
                      simpa using this)
                    have h2 : 10 ^ (p.take j).length ≤ 10 ^ 9 := Nat.pow_le_pow_right (by decide) (by simp; omega)
                    omega
                  have hT : 10 ^ j ≤ 100000000 := by
                    have h2 : 10 ^ j ≤ 10 ^ 8 := Nat.pow_le_pow_right (by decide) (by omega)
                    omega
                  have HTS := Lib.hid (Nat.pow_succ (n := 10) (m := j))
                  obtain ⟨D, hDe⟩ : ∃ D, D = dv (p.take j) := ⟨_, rfl⟩
                  obtain ⟨T, hTe⟩ : ∃ T, T = 10 ^ j := ⟨_, rfl⟩
                  obtain ⟨x, hxe⟩ : ∃ x, x = nth p j := ⟨_, rfl⟩
                  rw [← hDe] at hD HST ⊢
                  rw [← hTe] at hT HTS ⊢
                  rw [← hxe] at hcb hdg HST
                  have hx1 := hdg.1
                  have hx2 := hdg.2
                  clear hDe hTe hxe hby' hdg
                  go_wp2
                  go_round
                  case rel => exact ⟨j + 1, by omega, vi (by omega), vi (by have := HST.out; omega), vi (by have := HTS.out; omega)⟩
                  case measure => first | (simp [intOf]; done) | (simp [intOf]; omega)
                · obtain rfl : j = m := by omega
                  have hp0 : p.take j = p := by rw [List.take_of_length_le (by omega)]
                  rw [hp0]
                  have hD : dv p < 10 ^ j := by
                    have h1 := dv_lt p (fun x hx => by
                      obtain ⟨i, hi, rfl⟩ := List.mem_iff_getElem.1 hx
                      have := HPD.out i (by omega)
                      rwa [nth_lt _ (by omega)] at this)
                    rwa [hpl] at h1
                  have hT : 10 ^ j ≤ 1000000000 := by
                    have h2 : 10 ^ j ≤ 10 ^ 9 := Nat.pow_le_pow_right (by decide) (by omega)
                    omega
                  obtain ⟨D, hDe⟩ : ∃ D, D = dv p := ⟨_, rfl⟩
                  obtain ⟨T, hTe⟩ : ∃ T, T = 10 ^ j := ⟨_, rfl⟩
                  rw [← hDe, ← hTe] at hD
                  rw [← hTe] at hT
                  rw [← hDe, ← hTe]
                  have HDE := Lib.hid hDe
                  have HTE := Lib.hid hTe
                  clear hDe hTe hj hj1 hby' hp0
                  have HD' := Lib.hid hD
                  have hT0 : 0 < T := by omega
                  have hs1 := hw1.size
                  have hown1 : OwnR W1 (w.heap.size + 1) 28 .u32 (.slice A6 o.length c6) o := hown.below hw1 (Nat.le_refl _)
                  have c01 := (hw1.cell (p := ⟨w.heap.size, 0, none⟩) (cell_lt c0)).trans c0
                  have f01 := (below_frozen hw1 (b := w.heap.size) (o := 0) (cell_lt c0)).trans f0
                  have hbl1 := hbl.trans (hw1.mono hbl.size)
                  have hol1 : o.length ≤ 65536 := by have := HL.out; omega
                  clear hown c0 f0 hbl hw1 hs1
                  go_wp2
                  go_loopw [8, 68] (fun v8 v68 wy => ∃ (i cy : Nat) (o' : List Nat), i ≤ o.length ∧ v68 = .int .i64 (i : Int) ∧ v8 = .int .u64 (cy : Int) ∧ cy < T ∧ o'.length = o.length ∧ Sm o' ∧ (∀ x, i ≤ x → nth o x = nth o' x) ∧ val o' + 4294967296 ^ i * cy = val o + D + (T - 1) * val (o.take i) ∧ OwnR wy (w.heap.size + 1) 28 .u32 (.slice A6 o.length c6) o' ∧ wy.cell? ⟨w.heap.size, 0, none⟩ = some (.slice none 0 0) ∧ wy.frozen? ⟨w.heap.size, 0, none⟩ = false ∧ Below w.heap.size w wy) (fun _ v68 _ => o.length - (intOf v68).toNat)
                  case atStart => exact ⟨0, D, o, Nat.zero_le _, rfl, rfl, hD, rfl, hos, fun _ _ => rfl, by simp [val], hown1, c01, f01, hbl1⟩
                  case round =>
                    clear hown1 c01 f01 hbl1
                    rename_i wy _
                    obtain ⟨i, cy, o', hi, rfl, rfl, hcy, hol', hos', hsame, hval, hown, c0, f0, hbl⟩ := hrel
                    have HVAL := Lib.hid hval
                    have HSAME := Lib.hid hsame
                    have HOL := Lib.hid hol'
                    clear hval hsame
                    by_cases hi1 : i < o.length
                    · obtain ⟨g, rfl, hgB, hgl, hn', hfz, hcell⟩ := hown.addr (by omega)
                      have hx1 := hcell i (by omega)
                      have hfi := hfz i
                      have hxs := hos'.nth i
                      have HX := Lib.hid (HSAME.out i (Nat.le_refl _))
                      have hP : nth o' i * T ≤ 4294967295000000000 := Nat.mul_le_mul (show nth o' i ≤ 4294967295 by omega) hT
                      have HCL := Lib.hid (carry_lt hxs hcy)
                      have hsm2 : Sm (o'.set i ((cy + nth o' i * T) % 4294967296)) := fun z hz => by
                        rcases List.mem_or_eq_of_mem_set hz with hz | rfl
                        · exact hos' z hz
                        · omega
                      have HSM := Lib.hid hsm2
                      clear hsm2
                      have HTS := Lib.hid (ten_step (k := i) (by omega) HX.out hT0 HVAL.out)
                      obtain ⟨x, hxe⟩ : ∃ x, x = nth o' i := ⟨_, rfl⟩
                      rw [← hxe] at hx1 hxs hP HCL HSM HTS
                      obtain ⟨X, hX⟩ : ∃ X, X = x * T := ⟨_, rfl⟩
                      rw [← hX] at hP HCL HSM HTS
                      have hXI : ((x : Nat) : Int) * ((T : Nat) : Int) = (X : Int) := by rw [hX]; simp
                      clear hX hxe hcell hfz hn'
                      go_wp2
                      go_roundw
                      case rel =>
                        refine ⟨i + 1, (cy + X) / 4294967296, o'.set i ((cy + X) % 4294967296), by omega, vi (by omega), vi (by omega), HCL.out, by rw [List.length_set]; exact HOL.out, HSM.out, fun z hz => ?_, HTS.out, hown.poke (by omega) (by omega), ?_, ?_, hbl.setCell (by show _ ≤ g; omega) _⟩
                        · rw [HSAME.out z (by omega), nth_set_ne _ _ _ _ (by omega)]
                        · rw [World.cell?_setCell_other _ _ _ _ (by intro e; injection e with e; omega)]; exact c0
                        · exact (World.frozen?_of_block (Below.heap_setCell _ _ _ _ (by show w.heap.size ≠ g; omega))).trans f0
                      case measure => first | (simp [intOf]; done) | (simp [intOf]; omega)
                    · obtain rfl : i = o.length := by omega
                      have hv := HVAL.out
                      rw [List.take_length] at hv
                      have hv2 : val o' + 4294967296 ^ o.length * cy = T * val o + D := by
                        rw [hv]
                        obtain ⟨t, rfl⟩ : ∃ t, T = t + 1 := ⟨T - 1, by omega⟩
                        rw [Nat.add_sub_cancel, Nat.succ_mul]; omega
                      have hkm : dv (l.take (k + j)) = T * val o + D := by
                        have h1 := HQL.out
                        rw [dv_split l k j (by omega), ← HQ.out, ← HP.out, ← HDE.out, ← HTE.out, HOV.out, Nat.mul_comm]
                      rw [← hkm] at hv2
                      have HV2 := Lib.hid hv2
                      clear hv hv2 hkm
                      have hdd : q.drop j = l.drop (k + j) := by rw [HQ.out, List.drop_drop]
                      have HDD := Lib.hid hdd
                      clear hdd hi1 hi
                      by_cases hcy0 : 0 < cy
                      · have hcy32 : cy < 4294967296 := by omega
                        have HT := Lib.hid hT
                        clear hol' hcy hT hD hT0
                        go_wp2_with (at_builtin; refine wpList_app elem32 rfl _ _ rfl (hown.alloc _) rfl ⟨wr.heap.size, 0, none⟩ rfl cy ?c1 ?c2 ?c3 (fun v' w' hown' hgr hbb => ?_))
                        case c1 => simp [go_sem]
                        case c2 => have := HOL.out; omega
                        case c3 => have := hbl.size; simp; have := cell_lt c0; simp only at this; omega
                        have hv' : val (o' ++ [cy]) = dv (l.take (k + j)) := by
                          have := HV2.out
                          rw [val_append, HOL.out, ← this]; simp [val]
                        obtain ⟨hsz', A9, c9, rfl⟩ := hown'.len
                        have hbb' : Below (w.heap.size + 1) wr w' := ((Below.refl _ _).alloc (by have := cell_lt c0; simp only at this; omega) _).trans hbb
                        have c0' := (hbb'.cell (p := ⟨w.heap.size, 0, none⟩) (Nat.lt_succ_self _)).trans c0
                        have f0' := (hbb'.frozen (p := ⟨w.heap.size, 0, none⟩) (Nat.lt_succ_self _)).trans f0
                        have HV' := Lib.hid hv'
                        clear hv' hown hgr hbb c0 f0 hsz'
                        go_wp2
                        go_roundw
                        case rel =>
                          exact ⟨k + j, o' ++ [cy], by have := HQL.out; omega, by rw [HDD.out], hown', hos'.append (Sm.cons hcy32 Sm.nil), HV'.out, by rw [List.length_append, HOL.out]; simp; omega, c0', f0', hbl.trans (hbb'.mono (by omega))⟩
                        case measure =>
                          have := HQL.out
                          simp only [strLen, bstr_size, List.length_drop]
                          omega
                      · have hg0 : decide ((0 : Int) < (cy : Int)) = false := by simp; omega
                        have hv' : val o' = dv (l.take (k + j)) := by
                          have := HV2.out
                          rw [show cy = 0 by omega, Nat.mul_zero, Nat.add_zero] at this
                          exact this
                        have HV' := Lib.hid hv'
                        clear hv'
                        clear hol'
                        go_wp2
                        go_roundw
                        case rel =>
                          refine ⟨k + j, o', by have := HQL.out; omega, by rw [HDD.out], ?_, hos', HV'.out, by rw [HOL.out]; omega, c0, f0, hbl⟩
                          exact hown
                        case measure =>
                          have := HQL.out
                          simp only [strLen, bstr_size, List.length_drop]
                          omega
            · have hk0 : k = l.length := by omega
              subst hk0
              have hov := HOV.out
              rw [List.take_length] at hov
              have hl0 := HL.out
              obtain ⟨A9, c9, e9, hnc, ho9⟩ := hown.own hos (by omega)
              injection e9 with e91 e92 e93
              subst e91 e93
              have HOV2 := Lib.hid hov
              have hq0' : q.length = 0 := by omega
              have hg0 : decide ((0 : Int) < ((q.length : Nat) : Int)) = false := by rw [hq0']; rfl
              clear hov hq0 hql hk hl0
              go_wp2_with fail
              refine (nat_trimmed_own2 A6 o _ c6 (w.heap.size + 1) rfl hnc _ ho9).mono ?_
              rintro e w2 ⟨A', k', rfl, ho2, hb2⟩
              rw [HOV2.out] at ho2 ⊢
              have c2 := (hb2.cell (p := ⟨w.heap.size, 0, none⟩) (cell_lt c0)).trans c0
              have f2 := (below_frozen hb2 (b := w.heap.size) (o := 0) (cell_lt c0)).trans f0
              have z2 := cell_lt c2
              simp only at z2
              have hbl2 := hbl.trans (hb2.mono hbl.size)
              clear hown ho9 hnc c0 f0 hb2 hbl
              go_wp2
              have e := parseL_ok HL.out HN.out HD.out
              rw [e]
              (try simp only [Exit.inBlock, Exit.then]); refine bodyPost_ret (by simp (maxDischargeDepth := 9) [results, Try.results27, go_sem, c2, z2]; try rfl) rfl ?_
              exact ⟨A', k', rfl, (ho2.setCell (p := ⟨w.heap.size, 0, none⟩) (Nat.lt_succ_self _) _).mono (by omega), hbl2.setCell (p := ⟨w.heap.size, 0, none⟩) (Nat.le_refl _) _⟩
end Go.Proofs.Ytkepjhgafpbecaa
