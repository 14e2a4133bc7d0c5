/- Walk: the document's Parse. -/
import Derived.Test.YtkepjhgafpbecaaPar
import Derived.Test.YtkepjhgafpbecaaJ
import Derived.Test.YtkepjhgafpbecaaPlus
namespace Go.Proofs.Ytkepjhgafpbecaa
open Go.RowKit
set_option linter.unusedVariables false
set_option linter.unusedSimpArgs false
set_option maxHeartbeats 4000000
set_option maxRecDepth 100000

theorem ref_Parse (l : List Nat) (hb : Bts l) (w : World) :
    Calls Try.prog 28 #[.string (bstr l)] w (ParAns w (parseL l)) := by
  have hsz := bstr_size l
  by_cases hlong : 65536 < l.length
  · rw [parseL_long hlong]
    have hg : decide ((65536 : Int) < (((bstr l).size : Nat) : Int)) = true := by rw [hsz]; simp; omega
    clear hsz hlong
    go_enter Try.func28, Try.ntmps28
    go_wp2
    (try simp only [Exit.inBlock, Exit.then]); refine bodyPost_ret (by simp (maxDischargeDepth := 9) [results, Try.results28, go_sem, hg]; try rfl) rfl ?_
    exact ⟨none, 0, rfl, Own.nil _ _ _, (by repeat' (first | (with_reducible assumption) | (with_reducible exact Below.refl _ _) | (with_reducible refine bdn ?_ _) | (with_reducible refine Below.drew ?_) | (with_reducible refine Below.setCell ?_ ?_ _) | (with_reducible refine Below.alloc ?_ ?_ _) | go_size))⟩
  · have hl : l.length ≤ 65536 := by omega
    have hg : decide ((65536 : Int) < (((bstr l).size : Nat) : Int)) = false := by rw [hsz]; simp; omega
    have hzl : ∀ i : Nat, decide (((i : Nat) : Int) < (((bstr l).size : Nat) : Int)) = decide (i < l.length) := by intro i; rw [hsz]; simp
    have hidx := fun (i : Nat) (hi : i < l.length) (W : World) => run_index_bstr (P := Try.prog) 9 (by kernel_rfl) l hb .i64 i (i : Int) rfl hi W
    clear hlong
    go_enter Try.func28, Try.ntmps28
    go_wp2
    go_loop [5] (fun v5 => ∃ i : Nat, i ≤ l.length ∧ v5 = .int .i64 (i : Int) ∧ ∀ j, j < i → Dgt (nth l j)) (fun v5 => l.length - (intOf v5).toNat)
    case atStart => exact ⟨0, Nat.zero_le _, rfl, fun j hj => absurd hj (Nat.not_lt_zero _)⟩
    case round =>
      obtain ⟨i, hi, rfl, hd⟩ := hrel
      have HD := Lib.hid hd
      clear hd
      have hzi := hzl i
      clear hzl
      by_cases hi1 : i < l.length
      · have hx := hidx i hi1
        clear hidx
        rw [decide_eq_true hi1] at hzi
        by_cases hlo : nth l i < 48
        · have hq : decide (((nth l i : Nat) : Int) < 48) = true := by simp; omega
          have e : parseL l = ([], ((i : Nat) : Int), 12) := parseL_bad hl hi1 (by omega) HD.out
          rw [e]
          clear e hlo
          go_wp2
          (try simp only [Exit.inBlock, Exit.then]); refine bodyPost_ret (by simp (maxDischargeDepth := 9) [results, Try.results28, go_sem, hg]; try rfl) rfl ?_
          exact ⟨none, 0, rfl, Own.nil _ _ _, (by repeat' (first | (with_reducible assumption) | (with_reducible exact Below.refl _ _) | (with_reducible refine bdn ?_ _) | (with_reducible refine Below.drew ?_) | (with_reducible refine Below.setCell ?_ ?_ _) | (with_reducible refine Below.alloc ?_ ?_ _) | go_size))⟩
        · have hq : decide (((nth l i : Nat) : Int) < 48) = false := by simp; omega
          by_cases hhi : 57 < nth l i
          · have hq2 : decide ((57 : Int) < ((nth l i : Nat) : Int)) = true := by simp; omega
            have e : parseL l = ([], ((i : Nat) : Int), 12) := parseL_bad hl hi1 (by omega) HD.out
            rw [e]
            clear e hlo hhi
            go_wp2
            (try simp only [Exit.inBlock, Exit.then]); refine bodyPost_ret (by simp (maxDischargeDepth := 9) [results, Try.results28, go_sem, hg]; try rfl) rfl ?_
            exact ⟨none, 0, rfl, Own.nil _ _ _, (by repeat' (first | (with_reducible assumption) | (with_reducible exact Below.refl _ _) | (with_reducible refine bdn ?_ _) | (with_reducible refine Below.drew ?_) | (with_reducible refine Below.setCell ?_ ?_ _) | (with_reducible refine Below.alloc ?_ ?_ _) | go_size))⟩
          · have hq2 : decide ((57 : Int) < ((nth l i : Nat) : Int)) = false := by simp; omega
            have hdi : Dgt (nth l i) := by omega
            clear hlo hhi
            go_wp2
            go_round
            case rel => exact ⟨i + 1, by omega, vi (by omega), fun j hj => by
              rcases Nat.lt_or_ge j i with h | h
              · exact HD.out j h
              · rw [show j = i by omega]; exact hdi⟩
            case measure => first | (simp [intOf]; done) | (simp [intOf]; omega)
      · obtain rfl : i = l.length := by omega
        rw [decide_eq_false hi1] at hzi
        clear hi1 hi
        by_cases hn : l = []
        · subst hn
          rw [parseL_nil]
          have he : ((([] : List Nat).length : Int) == 0) = true := rfl
          go_wp2
          (try simp only [Exit.inBlock, Exit.then]); refine bodyPost_ret (by simp (maxDischargeDepth := 9) [results, Try.results28, go_sem, hg]; try rfl) rfl ?_
          exact ⟨none, 0, rfl, Own.nil _ _ _, (by repeat' (first | (with_reducible assumption) | (with_reducible exact Below.refl _ _) | (with_reducible refine bdn ?_ _) | (with_reducible refine Below.drew ?_) | (with_reducible refine Below.setCell ?_ ?_ _) | (with_reducible refine Below.alloc ?_ ?_ _) | go_size))⟩
        · have hn1 : 0 < l.length := by rcases l with _ | ⟨x, l⟩ <;> simp_all
          have he : (((l.length : Nat) : Int) == 0) = false := by rw [beq_eq_false_iff_ne]; omega
          have HN := Lib.hid hn
          have HIDX := Lib.hid hidx
          clear hn hidx hzi
          go_wp2
          clear he hg
          go_loopw [6, 7] (fun v6 v7 wr => ∃ (k : Nat) (A : Option Addr) (c : Nat), k ≤ l.length ∧ v7 = .int .i64 (k : Int) ∧ v6 = .slice A (limbs (dv (l.take k))).length c ∧ (limbs (dv (l.take k))).length ≤ c ∧ Own wr 28 (w.heap.size + 1) A c (limbs (dv (l.take k))) ∧ wr.cell? ⟨w.heap.size, 0, none⟩ = some (.slice none 0 0) ∧ wr.frozen? ⟨w.heap.size, 0, none⟩ = false ∧ Below w.heap.size w wr) (fun _ v7 _ => l.length - (intOf v7).toNat)
          case atStart => exact ⟨0, none, 0, Nat.zero_le _, rfl, rfl, Nat.le_refl _, Own.nil _ _ _, by simp, by simp, (by repeat' (first | (with_reducible assumption) | (with_reducible exact Below.refl _ _) | (with_reducible refine bdn ?_ _) | (with_reducible refine Below.drew ?_) | (with_reducible refine Below.setCell ?_ ?_ _) | (with_reducible refine Below.alloc ?_ ?_ _) | go_size))⟩
          case round =>
            obtain ⟨k, A, c, hk, rfl, rfl, hlc, ho, c0, f0, hbl⟩ := hrel
            have HL := Lib.hid hl
            clear hl
            by_cases hk1 : k < l.length
            · have hLL : (limbs (dv (l.take k))).length ≤ k := by
                rw [length_limbs_le]
                have h1 := dv_lt (l.take k) (fun x hx => by
                  obtain ⟨i, hi, rfl⟩ := List.mem_iff_getElem.1 hx
                  have hi' : i < k := by simp at hi; omega
                  have := HD.out i (by omega)
                  rw [nth_lt _ (by omega)] at this
                  simpa using this)
                have h2 : (l.take k).length = k := by simp; omega
                rw [h2] at h1
                exact Nat.lt_of_lt_of_le h1 (Nat.pow_le_pow_left (by decide) k)
              have hvL := val_limbs (dv (l.take k))
              obtain ⟨L, hLe⟩ : ∃ L, L = limbs (dv (l.take k)) := ⟨_, rfl⟩
              rw [← hLe] at hLL hvL ho hlc ⊢
              have HLL := Lib.hid (show L.length ≤ 65536 by have := HL.out; omega)
              have HLv := Lib.hid hvL
              clear hLL hvL hLe
              have hkz : decide (((k : Nat) : Int) < ((l.length : Nat) : Int)) = true := by simp; omega
              go_wp2
              go_loop [7, 8, 9, 10] (fun v7 v8 v9 v10 => ∃ i j : Nat, i = k + j ∧ j ≤ 9 ∧ i ≤ l.length ∧ v7 = .int .i64 (i : Int) ∧ v10 = .int .i64 (j : Int) ∧ v8 = .int .u32 ((dv ((l.drop k).take j) : Nat) : Int) ∧ v9 = .int .u32 ((10 ^ j : Nat) : Int)) (fun _ _ _ v10 => 9 - (intOf v10).toNat)
              case atStart => exact ⟨k, 0, rfl, Nat.zero_le _, hk, rfl, rfl, rfl, rfl⟩
              case round =>
                obtain ⟨i, j, hij, hj, hil, rfl, rfl, rfl, rfl⟩ := hrel
                have HE := Lib.hid hij
                have hD9 : dv ((l.drop k).take j) < 10 ^ j := by
                  have h1 := dv_lt ((l.drop k).take j) (fun x hx => by
                    obtain ⟨q, hq, rfl⟩ := List.mem_iff_getElem.1 hx
                    have hq' : q < j := by simp at hq; omega
                    have := HD.out (k + q) (by omega)
                    rw [nth_lt _ (by omega)] at this
                    simpa using this)
                  have h2 : ((l.drop k).take j).length = j := by simp; omega
                  rwa [h2] at h1
                have hT9 : 10 ^ j ≤ 1000000000 := by
                  have h2 : 10 ^ j ≤ 10 ^ 9 := Nat.pow_le_pow_right (by decide) (by omega)
                  omega
                by_cases hgo : j < 9 ∧ i < l.length
                · obtain ⟨hj1, hi1⟩ := hgo
                  have hidx := HIDX.out i hi1
                  have hdg := HD.out i hi1
                  have hnd : nth (l.drop k) j = nth l i := by
                    rw [nth_lt _ (by simp; omega), nth_lt _ hi1, List.getElem_drop]; simp only [hij]
                  have hst := dv_take_succ (l.drop k) j (by simp; omega)
                  rw [hnd] at hst
                  have HST := Lib.hid hst
                  have HTS := Lib.hid (Nat.pow_succ (n := 10) (m := j))
                  have hT8 : 10 ^ j ≤ 100000000 := by
                    have h2 : 10 ^ j ≤ 10 ^ 8 := Nat.pow_le_pow_right (by decide) (by omega)
                    omega
                  obtain ⟨D, hDe⟩ : ∃ D, D = dv ((l.drop k).take j) := ⟨_, rfl⟩
                  obtain ⟨T, hTe⟩ : ∃ T, T = 10 ^ j := ⟨_, rfl⟩
                  obtain ⟨x, hxe⟩ : ∃ x, x = nth l i := ⟨_, rfl⟩
                  rw [← hDe] at hD9 HST ⊢
                  rw [← hTe] at hD9 hT8 HTS ⊢
                  rw [← hxe] at hidx hdg HST
                  have hx1 := hdg.1
                  have hx2 := hdg.2
                  have hD8 : D < 100000000 := by omega
                  clear hDe hTe hxe hdg hnd hst hD9 hT9 hij
                  have hz1 : decide (((j : Nat) : Int) < 9) = true := by simp; omega
                  have hz2 : decide (((i : Nat) : Int) < ((l.length : Nat) : Int)) = true := by simp; omega
                  go_wp2
                  go_round
                  case rel => exact ⟨i + 1, j + 1, by have := HE.out; omega, by omega, by omega, vi (by omega), vi (by omega), vi (by have := HST.out; omega), vi (by have := HTS.out; omega)⟩
                  case measure => first | (simp [intOf]; done) | (simp [intOf]; omega)
                · have hjn : k < i := by omega
                  obtain ⟨D, hDe⟩ : ∃ D, D = dv ((l.drop k).take j) := ⟨_, rfl⟩
                  obtain ⟨T, hTe⟩ : ∃ T, T = 10 ^ j := ⟨_, rfl⟩
                  rw [← hDe, ← hTe] at hD9
                  rw [← hTe] at hT9
                  rw [← hDe, ← hTe]
                  have HDE := Lib.hid hDe
                  have HTE := Lib.hid hTe
                  have hT32 : T < 4294967296 := by omega
                  have hD32 : D < 4294967296 := by omega
                  clear hDe hTe hD9 hT9 hkz
                  by_cases hj1 : j < 9
                  · have hi1 : ¬ i < l.length := fun h => hgo ⟨hj1, h⟩
                    have hz1 : decide (((j : Nat) : Int) < 9) = true := by simp; omega
                    have hz2 : decide (((i : Nat) : Int) < (((bstr l).size : Nat) : Int)) = false := by rw [hsz]; simp; omega
                    have hz3 : l.length ≤ i := by omega
                    clear hgo hi1 hij
                    have hfin : Hid (val L * T + D = dv (l.take i)) := by
                      show _ = _
                      have h0 := HE.out
                      rw [HLv.out, h0, dv_split l k j (by omega), HDE.out, HTE.out]
                    have HM := Lib.hid (show k < i by have := HE.out; omega)
                    have HI := Lib.hid hil
                    clear hjn
                    go_wp2_with fail
                    have hr : Row (wr.alloc (Obj.cells #[Value.int IntKind.u32 (T : Int)] 28)) 28 wr.heap.size [T] := row_new rfl rfl
                    refine (ref_times A _ L [T] _ _ c 1 rfl rfl (by have := HLL.out; simp; omega) _ (ho.rd.alloc _) (hr.rd0 (Sm.cons hT32 Sm.nil) (by simp))).mono ?_
                    rw [show val [T] = T by simp [val]]
                    rintro e w1 ⟨A1, c1, rfl, hle1, ho1, hb1⟩
                    have hs1 := hb1.size
                    simp only [World.size_alloc] at hs1
                    have hb01 : Below wr.heap.size wr w1 := ((Below.refl _ _).alloc (Nat.le_refl _) _).trans (hb1.mono (by simp))
                    have hlm : (limbs (val L * T)).length ≤ 131072 := by
                      have h1 := limbs_mul_le (val L) T
                      have h2 : (limbs T).length ≤ 1 := (length_limbs_le _ _).2 (by simpa using hT32)
                      have h3 : (limbs (val L)).length ≤ L.length := limbs_length_le ho.sm
                      have := HLL.out
                      omega
                    have HLM := Lib.hid hlm
                    clear hlm
                    obtain ⟨M, hMe⟩ : ∃ M, M = val L * T := ⟨_, rfl⟩
                    rw [← hMe] at ho1 hle1 HLM ⊢
                    have HFN := Lib.hid (show M + D = dv (l.take i) by rw [hMe]; exact hfin.out)
                    clear hMe hfin
                    go_wp2_with fail
                    have hr2 : Row (w1.alloc (Obj.cells #[Value.int IntKind.u32 (D : Int)] 28)) 28 w1.heap.size [D] := row_new rfl rfl
                    have hsm2 : Sm [D] := Sm.cons hD32 Sm.nil
                    refine (ref_Trim _ [D] _ 1 rfl (Nat.le_refl _) _ (hr2.rd0 hsm2 (by simp))).mono ?_
                    rintro e w2 ⟨rfl, rfl⟩
                    have ho2 : Own (w1.alloc (Obj.cells #[Value.int IntKind.u32 (D : Int)] 28)) 28 w1.heap.size (some ⟨w1.heap.size, 0, none⟩) 1 (limbs (val [D])) := (hr2.own hsm2 (by simp) (Nat.le_refl _) 1 (Nat.le_refl _) (by simp)).trim
                    rw [show val [D] = D by simp [val]] at ho2 ⊢
                    go_wp2_with fail
                    refine (ref_plus A1 _ (limbs M) (limbs D) M D rfl rfl _ _ c1 1 rfl rfl (by
                      have h2 : (limbs D).length ≤ 1 := (length_limbs_le _ _).2 (by simpa using hD32)
                      have := HLM.out
                      omega) _ (ho1.rd.alloc _) ho2.rd).mono ?_
                    rw [HFN.out]
                    rintro e w3 ⟨A3, c3, rfl, hle3, ho3, hb3⟩
                    have hs3 := hb3.size
                    simp only [World.size_alloc] at hs3
                    have hb03 : Below wr.heap.size wr w3 := hb01.trans (((Below.refl _ _).alloc (Nat.le_refl _) _).trans (hb3.mono (by simp)) |>.mono (by omega))
                    have zr := cell_lt c0
                    simp only at zr
                    have c03 := (hb03.cell (p := ⟨w.heap.size, 0, none⟩) zr).trans c0
                    have f03 := (hb03.frozen (p := ⟨w.heap.size, 0, none⟩) zr).trans f0
                    have hbl3 := hbl.trans (hb03.mono hbl.size)
                    clear c0 f0 hbl ho ho1 hb1 hb01 hr hr2 hsm2 ho2 hb3 hb03
                    go_wp2
                    go_roundw
                    case rel => exact ⟨i, A3, c3, HI.out, rfl, rfl, hle3, ho3.mono (by simp; omega), c03, f03, hbl3⟩
                    case measure => have := HM.out; have := HI.out; simp [intOf]; omega
                  · have hz1 : decide (((j : Nat) : Int) < 9) = false := by simp; omega
                    clear hgo hj1 hij
                    have hfin : Hid (val L * T + D = dv (l.take i)) := by
                      show _ = _
                      have h0 := HE.out
                      rw [HLv.out, h0, dv_split l k j (by omega), HDE.out, HTE.out]
                    have HM := Lib.hid (show k < i by have := HE.out; omega)
                    have HI := Lib.hid hil
                    clear hjn
                    go_wp2_with fail
                    have hr : Row (wr.alloc (Obj.cells #[Value.int IntKind.u32 (T : Int)] 28)) 28 wr.heap.size [T] := row_new rfl rfl
                    refine (ref_times A _ L [T] _ _ c 1 rfl rfl (by have := HLL.out; simp; omega) _ (ho.rd.alloc _) (hr.rd0 (Sm.cons hT32 Sm.nil) (by simp))).mono ?_
                    rw [show val [T] = T by simp [val]]
                    rintro e w1 ⟨A1, c1, rfl, hle1, ho1, hb1⟩
                    have hs1 := hb1.size
                    simp only [World.size_alloc] at hs1
                    have hb01 : Below wr.heap.size wr w1 := ((Below.refl _ _).alloc (Nat.le_refl _) _).trans (hb1.mono (by simp))
                    have hlm : (limbs (val L * T)).length ≤ 131072 := by
                      have h1 := limbs_mul_le (val L) T
                      have h2 : (limbs T).length ≤ 1 := (length_limbs_le _ _).2 (by simpa using hT32)
                      have h3 : (limbs (val L)).length ≤ L.length := limbs_length_le ho.sm
                      have := HLL.out
                      omega
                    have HLM := Lib.hid hlm
                    clear hlm
                    obtain ⟨M, hMe⟩ : ∃ M, M = val L * T := ⟨_, rfl⟩
                    rw [← hMe] at ho1 hle1 HLM ⊢
                    have HFN := Lib.hid (show M + D = dv (l.take i) by rw [hMe]; exact hfin.out)
                    clear hMe hfin
                    go_wp2_with fail
                    have hr2 : Row (w1.alloc (Obj.cells #[Value.int IntKind.u32 (D : Int)] 28)) 28 w1.heap.size [D] := row_new rfl rfl
                    have hsm2 : Sm [D] := Sm.cons hD32 Sm.nil
                    refine (ref_Trim _ [D] _ 1 rfl (Nat.le_refl _) _ (hr2.rd0 hsm2 (by simp))).mono ?_
                    rintro e w2 ⟨rfl, rfl⟩
                    have ho2 : Own (w1.alloc (Obj.cells #[Value.int IntKind.u32 (D : Int)] 28)) 28 w1.heap.size (some ⟨w1.heap.size, 0, none⟩) 1 (limbs (val [D])) := (hr2.own hsm2 (by simp) (Nat.le_refl _) 1 (Nat.le_refl _) (by simp)).trim
                    rw [show val [D] = D by simp [val]] at ho2 ⊢
                    go_wp2_with fail
                    refine (ref_plus A1 _ (limbs M) (limbs D) M D rfl rfl _ _ c1 1 rfl rfl (by
                      have h2 : (limbs D).length ≤ 1 := (length_limbs_le _ _).2 (by simpa using hD32)
                      have := HLM.out
                      omega) _ (ho1.rd.alloc _) ho2.rd).mono ?_
                    rw [HFN.out]
                    rintro e w3 ⟨A3, c3, rfl, hle3, ho3, hb3⟩
                    have hs3 := hb3.size
                    simp only [World.size_alloc] at hs3
                    have hb03 : Below wr.heap.size wr w3 := hb01.trans (((Below.refl _ _).alloc (Nat.le_refl _) _).trans (hb3.mono (by simp)) |>.mono (by omega))
                    have zr := cell_lt c0
                    simp only at zr
                    have c03 := (hb03.cell (p := ⟨w.heap.size, 0, none⟩) zr).trans c0
                    have f03 := (hb03.frozen (p := ⟨w.heap.size, 0, none⟩) zr).trans f0
                    have hbl3 := hbl.trans (hb03.mono hbl.size)
                    clear c0 f0 hbl ho ho1 hb1 hb01 hr hr2 hsm2 ho2 hb3 hb03
                    go_wp2
                    go_roundw
                    case rel => exact ⟨i, A3, c3, HI.out, rfl, rfl, hle3, ho3.mono (by simp; omega), c03, f03, hbl3⟩
                    case measure => have := HM.out; have := HI.out; simp [intOf]; omega
            · obtain rfl : k = l.length := by omega
              have hz : decide (((l.length : Nat) : Int) < ((l.length : Nat) : Int)) = false := by simp
              rw [List.take_length] at ho hlc ⊢
              obtain ⟨L, hLe⟩ : ∃ L, L = limbs (dv l) := ⟨_, rfl⟩
              rw [← hLe] at ho hlc ⊢
              have HLe := Lib.hid hLe
              clear hLe hk hk1
              go_wp2_with fail
              refine (ref_nat A L.length c _).mono ?_
              rintro e w2 ⟨rfl, hb2⟩
              have ho2 := ho.below hb2 (Nat.le_refl _)
              have c2 := (hb2.cell (p := ⟨w.heap.size, 0, none⟩) (cell_lt c0)).trans c0
              have f2 := (below_frozen hb2 (b := w.heap.size) (o := 0) (cell_lt c0)).trans f0
              have z2 := cell_lt c2
              simp only at z2
              have hbl2 := hbl.trans (hb2.mono hbl.size)
              clear ho hlc c0 f0 hb2 hbl
              go_wp2
              have e := parseL_ok HL.out HN.out HD.out
              rw [← HLe.out] at e
              rw [e]
              (try simp only [Exit.inBlock, Exit.then]); refine bodyPost_ret (by simp (maxDischargeDepth := 9) [results, Try.results28, go_sem, c2, z2]; try rfl) rfl ?_
              exact ⟨A, c, rfl, (ho2.setCell (p := ⟨w.heap.size, 0, none⟩) (Nat.lt_succ_self _) _).mono (by omega), hbl2.setCell (p := ⟨w.heap.size, 0, none⟩) (Nat.le_refl _) _⟩
end Go.Proofs.Ytkepjhgafpbecaa
