/- Walk of the document's pack: Unpack, the floats. -/
import Derived.Test.YtefhannaofknnaaDoorPkRu
namespace Go.Proofs.YtefhannaofknnaaDoor
open Go.RowKit
set_option linter.unusedVariables false
set_option linter.unusedSimpArgs false
set_option maxHeartbeats 4000000
set_option maxRecDepth 100000

theorem src_cells {w : World} {b off : Nat} {l : List Nat} (h : RdK .u8 w (some ⟨b, off, none⟩) l) (j : Nat) (v : Value) (hv : (ints .u8 l)[j]? = some v) : w.cell? (Addr.add ⟨b, off, none⟩ j) = some v := by
  rcases Nat.lt_or_ge j l.length with hj | hj
  · obtain ⟨b', off', e, hc⟩ := h (by omega)
    injection e with e
    injection e with e1 e2
    subst e1 e2
    rw [ints_get _ _ _ hj] at hv
    cases hv
    by_cases h0 : j = 0
    · subst h0; simpa [Addr.add] using hc 0 hj
    · simpa [Addr.add, h0] using hc j hj
  · rw [List.getElem?_eq_none (by rw [ints_length]; exact hj)] at hv
    cases hv
theorem one_cells (k : IntKind) (l : List Nat) (v : Value) (hv : v ∈ ints k l) : v.oneCell' = true := by
  obtain ⟨x, _, rfl⟩ := List.mem_map.1 hv
  rfl
theorem splice_zeros {W L n : Nat} {b zs : List Nat} (hz : zs = List.replicate W 0) (hb : b.length = n) (h : L + n ≤ W) : splice (ints .u8 zs) L (ints .u8 b) = ints .u8 (List.replicate L 0 ++ b ++ List.replicate (W - L - n) 0) := by
  subst hz hb
  unfold splice ints
  rw [List.length_map, ← List.map_take, ← List.map_drop, ← List.map_append, ← List.map_append, List.take_replicate, List.drop_replicate, List.append_assoc, Nat.min_eq_left (by omega), Nat.sub_add_eq]
theorem bs_rep {n : Nat} : Bs (List.replicate n 0) := fun x hx => by rw [List.eq_of_mem_replicate hx]; decide
def Clean (B : List Nat) (a M j : Nat) : Prop := ∀ k, a ≤ k → k < j → nth B k = 0 ∧ k < M
theorem ref_unpack_main (E F : Nat) (hE1 : 2 ≤ E) (hE2 : E ≤ 11) (hF1 : 1 ≤ F) (hF2 : F ≤ 52) (s : List Nat) (hb : Bts s) (w : World) (hl : s.length ≤ 20000) :
    Calls Tryd.prog 25 #[.agg #[.int .i64 (E : Int), .int .i64 (F : Int)], .string (bstr s)] w (UnpAns w (unpS (E : Int) (F : Int) s)) := by
  have HC := Lib.hid (chkF_of hE1 hE2 hF1 hF2)
  have hsz := bstr_size s
  have hg : decide ((1048576 : Int) < ((s.length : Nat) : Int)) = false := by simp; omega
  have hidx := fun (i : Nat) (hi : i < s.length) (W : World) => run_index_bstr (P := Tryd.prog) 9 (by kernel_rfl) s hb .i64 i (i : Int) rfl hi W
  obtain ⟨R, hR⟩ : ∃ R, R = unpS (E : Int) (F : Int) s := ⟨_, rfl⟩
  rw [← hR]
  have hR2 : R = if 8 * s.length < 17 then (([], ((s.length : Nat) : Int), 270) : List Nat × Int × Int)
      else if 65536 < takeW (bo s) 0 17 then ([], 0, 270)
      else match unF (1 + E + F) (bo s) (takeW (bo s) 0 17) ⟨17, (0, 0), 0⟩ [] with
        | none => ([], ((s.length : Nat) : Int), 270)
        | some (.inl a) => ([], ((a / 8 : Nat) : Int), 270)
        | some (.inr (u, out)) => if 7 < 8 * s.length - u.at_ ∨ takeW (bo s) u.at_ (8 * s.length - u.at_) ≠ 0 then ([], ((u.at_ / 8 : Nat) : Int), 270) else (out, 0, 0) := by
    rw [hR]; unfold unpS
    rw [if_neg (by rw [chkF_of hE1 hE2 hF1 hF2]; simp), if_neg (by omega), Int.toNat_natCast, Int.toNat_natCast]
    rfl
  have HR := Lib.hid hR2
  clear hR hR2
  go_enter Tryd.func25, Tryd.ntmps25
  go_wp2_with fail
  refine (ref_Check _ _ _).mono ?_
  rintro r w1 ⟨rfl, hb1⟩
  rw [HC.out]
  have hb01 : Below w.heap.size w w1 := ((Below.refl w.heap.size w).alloc (Nat.le_refl _) _).trans (hb1.mono (by simp))
  have hz1 : w.heap.size < w1.heap.size := by have := hb1.size; simp at this; omega
  have f0 : w1.cell? ⟨w.heap.size, 0, none⟩ = some (.int .i64 (E : Int)) := by rw [hb1.cell (by simp)]; simp
  have f1 : w1.cell? ⟨w.heap.size, 1, none⟩ = some (.int .i64 (F : Int)) := by rw [hb1.cell (by simp)]; simp
  clear hb1
  go_wp2
  go_loopw [7, 8] (fun v7 v8 wr => ∃ i : Nat, i ≤ s.length ∧ v8 = .int .i64 (i : Int) ∧ OwnR wr (w.heap.size + 1) 5 .u8 v7 (bo (s.take i)) ∧ Below w.heap.size w wr ∧ w.heap.size + 1 ≤ wr.heap.size ∧ wr.cell? ⟨w.heap.size, 0, none⟩ = some (.int .i64 (E : Int)) ∧ wr.cell? ⟨w.heap.size, 1, none⟩ = some (.int .i64 (F : Int))) (fun _ v8 _ => s.length - (intOf v8).toNat)
  case atStart => exact ⟨0, Nat.zero_le _, rfl, by rw [List.take_zero]; exact OwnR.nil _ _ _ _, hb01, hz1, f0, f1⟩
  case round =>
    clear hb01 hz1 f0 f1
    obtain ⟨i, hi, rfl, hown, hbl, hz, f0, f1⟩ := hrel
    by_cases hi1 : i < s.length
    · have hx := hidx i hi1
      have hxb := hb.nth i
      have htk : bo (s.take (i + 1)) = bo (s.take i) ++ nb (nth s i) 8 := by rw [take_snoc s i hi1, bo_snoc]
      obtain ⟨x, hxe⟩ : ∃ x, x = nth s i := ⟨_, rfl⟩
      rw [← hxe] at hx hxb htk
      have HT := Lib.hid htk
      have hg9 : decide (((i : Nat) : Int) < ((s.length : Nat) : Int)) = true := by simp; omega
      have hux : IntKind.u64.wrap (x : Int) = (x : Int) := by rw [IntKind.wrap_u64]; omega
      have hnum := fun w1 => ref_number x 8 (by omega) (by decide) (x : Int) 8 rfl rfl w1
      have hbl9 : (bo (s.take i)).length ≤ 160000 := by rw [bo_length, List.length_take]; omega
      clear hidx htk hxe
      go_wp2_with fail
      refine (hnum _).mono ?_
      rintro r w5 ⟨v5, rfl, hown5, hb5⟩
      obtain ⟨A5, c5, rfl⟩ := hown5.len.2
      have hrd5 := hown5.rdK
      have hn8 : (nb x 8).length = 8 := nb_length _ _
      obtain ⟨l5, hl5⟩ : ∃ l5, l5 = nb x 8 := ⟨_, rfl⟩
      rw [← hl5] at hrd5 hn8
      rw [← hl5, hn8]
      have HN := Lib.hid hn8
      have HL := Lib.hid hl5
      have hown' := hown.below hb5 (Nat.le_refl _)
      have hb05 := hbl.trans (hb5.mono hbl.size)
      have hz5 := hb5.size
      have g0 := cell_keep hb5 f0
      have g1 := cell_keep hb5 f1
      clear hn8 hl5 hown5 hown hb5 f0 f1
      go_wp2_with (first
        | (at_builtin
           refine wpList_apps elem8 rfl _ _ rfl hown' rfl A5 l5 8 c5 HN.out.symm rfl hrd5 (.inl (by rw [HN.out]; omega)) (by omega) (fun v9 w9 hown9 hgr9 hb9 => ?_)
           have n0 : w9.cell? ⟨w.heap.size, 0, none⟩ = some (.int .i64 (E : Int)) := (hb9.cell (p := ⟨w.heap.size, 0, none⟩) (Nat.lt_succ_self _)).trans g0
           have n1 : w9.cell? ⟨w.heap.size, 1, none⟩ = some (.int .i64 (F : Int)) := (hb9.cell (p := ⟨w.heap.size, 1, none⟩) (Nat.lt_succ_self _)).trans g1
           have hbw9 := hb05.trans (hb9.mono (Nat.le_succ _))
           have hz9 := hb9.size
           clear g0 g1 hown' hrd5 hgr9 hb9 hb05))
      go_roundw
      case rel => exact ⟨i + 1, hi1, vi (by omega), by rw [HT.out, ← HL.out]; exact hown9, hbw9, by omega, n0, n1⟩
      case measure => first | (simp [intOf]; done) | (simp [intOf]; omega)
    · obtain rfl : i = s.length := by omega
      rw [List.take_length] at hown
      have hg9 : decide (((s.length : Nat) : Int) < ((s.length : Nat) : Int)) = false := by simp
      have hBb := bs_bo s
      have hBl := bo_length s
      generalize bo s = B at hown hBb hBl HR
      obtain ⟨A7, c7, e7, hcap7⟩ := hown.cap
      subst e7
      have hrB := hown.rdK
      obtain ⟨N8, hN8⟩ : ∃ N8, N8 = 8 * s.length := ⟨_, rfl⟩
      rw [hBl] at hcap7 ⊢
      rw [← hN8] at hBl hcap7 ⊢
      have HN8 := Lib.hid hN8
      have hNb : N8 ≤ 160000 := by omega
      have hR1 := HR.out
      rw [← hN8] at hR1
      clear hN8 hown hidx
      by_cases h17 : N8 < 17
      · rw [if_pos h17] at hR1
        have hg17 : decide ((N8 : Int) < 17) = true := by simp; omega
        have HR1 := Lib.hid hR1
        clear hR1
        go_wp2
        go_returns
        rw [HR1.out]
        exact ⟨_, rfl, OwnR.nil _ _ _ _, hbl⟩
      · rw [if_neg h17] at hR1
        have hg17 : decide ((N8 : Int) < 17) = false := by simp; omega
        have hi17 : (17 : Int) ≤ (c7 : Int) := by omega
        have hl17 : (B.take 17).length = 17 := by rw [List.length_take]; omega
        have hwth := fun w1 hr => ref_worth A7 (B.take 17) 17 c7 hl17.symm (hBb.take 17) (by rw [hl17]; decide) w1 hr
        have hcb := wv_lt (hBb.take 17)
        rw [hl17] at hcb
        have etk : takeW B 0 17 = wv (B.take 17) := by unfold takeW; rw [List.drop_zero]
        rw [etk] at hR1
        obtain ⟨cnt, hcnt⟩ : ∃ cnt, cnt = wv (B.take 17) := ⟨_, rfl⟩
        rw [← hcnt] at hR1 hwth hcb
        have hcb2 : cnt < 131072 := hcb
        have huc : IntKind.i64.wrap (cnt : Int) = (cnt : Int) := IntWalk.i64_in _ (by omega)
        have HR1 := Lib.hid hR1
        clear hR1 hcnt etk hl17 hcb
        go_wp2_with fail
        refine (hwth _ (hrB.take 17)).mono ?_
        rintro r wq ⟨rfl, hbq⟩
        have hbl2 := hbl.trans (hbq.mono hbl.size)
        have g0 := cell_keep hbq f0
        have g1 := cell_keep hbq f1
        have hrq := hrB.below hbq
        have hzq := hbq.size
        clear hbl hbq f0 f1 hrB hwth
        by_cases hc2 : 65536 < cnt
        · have hgc : decide ((65536 : Int) < (cnt : Int)) = true := by simp; omega
          have hR3 := HR1.out
          rw [if_pos hc2] at hR3
          have HR3 := Lib.hid hR3
          clear hR3
          go_wp2
          go_returns
          rw [HR3.out]
          exact ⟨_, rfl, OwnR.nil _ _ _ _, hbl2⟩
        · have hgc : decide ((65536 : Int) < (cnt : Int)) = false := by simp; omega
          have hR3 := HR1.out
          rw [if_neg hc2] at hR3
          have HR3 := Lib.hid hR3
          obtain ⟨W, hWe⟩ : ∃ W, W = 1 + E + F := ⟨_, rfl⟩
          rw [← hWe] at hR3
          have hW64 : W ≤ 64 := by omega
          have hwd := fun w1 => ref_width (E : Int) (F : Int) W (by omega) (by omega) (by omega) w1
          have hqQ : w.heap.size < wq.heap.size := by omega
          have HR4 := Lib.hid hR3
          have HWE := Lib.hid hWe
          clear hR3 HR3 HR1 HR hWe
          have hQk : Blk (wq.alloc (.cells #[.int .i64 0, .int .i64 0] 77)) wq.heap.size 77 #[.int .i64 ((0 : Nat) : Int), .int .i64 ((0 : Nat) : Int)] := Blk.new _ _ _
          have hQb : Below wq.heap.size wq (wq.alloc (.cells #[.int .i64 0, .int .i64 0] 77)) := (Below.refl _ _).alloc (Nat.le_refl _) _
          have hQz : wq.heap.size < (wq.alloc (.cells #[.int .i64 0, .int .i64 0] 77)).heap.size := by simp
          obtain ⟨U0, hU0⟩ : ∃ U0, U0 = unF W B cnt ⟨17, (0, 0), 0⟩ [] := ⟨_, rfl⟩
          have HR5 := HR4.out
          rw [← hU0] at HR5
          have HRR := Lib.hid HR5
          have hU1 : unF W B (cnt - 0) ⟨17, (0, 0), 0⟩ [] = U0 := by rw [Nat.sub_zero, hU0]
          clear HR5 HR4 hU0
          go_wp2
          go_loopw [10, 12, 13, 14] (fun v10 v12 v13 v14 wr => ∃ (i : Nat) (u : Ust) (out : List Nat), i ≤ cnt ∧ v10 = .int .i64 (u.at_ : Int) ∧ v13 = .int .u64 (u.before : Int) ∧ v14 = .int .i64 (i : Int) ∧ OwnR wr (wq.heap.size + 1) 34 .u64 v12 out ∧
            Blk wr wq.heap.size 77 #[.int .i64 (u.w.1 : Int), .int .i64 (u.w.2 : Int)] ∧ Below wq.heap.size wq wr ∧ wq.heap.size < wr.heap.size ∧ Win W u.w ∧ u.at_ ≤ N8 ∧ u.before < 2 ^ W ∧ out.length = i ∧ unF W B (cnt - i) u out = U0) (fun _ _ _ v14 _ => cnt - (intOf v14).toNat)
          case atStart => exact ⟨0, ⟨17, (0, 0), 0⟩, [], Nat.zero_le _, rfl, rfl, rfl, OwnR.nil _ _ _ _, hQk, hQb, hQz, .inl rfl, by simp only; omega, Nat.two_pow_pos _, rfl, hU1⟩
          case round =>
            clear hQk hQb hQz hU1
            obtain ⟨i, ⟨a, ⟨L0, S0⟩, bef⟩, out, hi, rfl, rfl, rfl, hown, hk, hbx, hz, hwin, ha, hbf, hol, hun⟩ := hrel
            simp only at hk hwin ha hbf hun ⊢
            have hbw : Below w.heap.size w wr := hbl2.trans (hbx.mono hbl2.size)
            by_cases hi1 : i < cnt
            · obtain ⟨Rn, hRe⟩ : ∃ Rn, N8 = a + Rn := ⟨N8 - a, by omega⟩
              have hle1 : N8 ≤ a + Rn := by omega
              have hle2 : a + Rn ≤ N8 := by omega
              have hs1 : N8 - a = Rn := by omega
              clear hRe
              have hg9 : decide (((i : Nat) : Int) < (cnt : Int)) = true := by simp; omega
              have hst : U0 = match pieceU W B ⟨a, (L0, S0), bef⟩ with
                  | none => none
                  | some none => some (.inl a)
                  | some (some u') => unF W B (cnt - (i + 1)) u' (out ++ [u'.before]) := by
                rw [← hun, show cnt - i = (cnt - (i + 1)) + 1 by omega]
                rfl
              have HST := Lib.hid hst
              have k0 : wr.cell? ⟨wq.heap.size, 0, none⟩ = some (.int .i64 (L0 : Int)) := hk.cell 0
              have k1 : wr.cell? ⟨wq.heap.size, 1, none⟩ = some (.int .i64 (S0 : Int)) := hk.cell 1
              have hws : L0 + S0 ≤ 64 := by
                rcases hwin with e | e
                · cases e; decide
                · have := e.2; simp only at this; omega
              have hBl2 : B.length - a = Rn := by omega
              clear hst hun
              rcases Nat.eq_zero_or_pos Rn with rfl | hRn
              · have hR9 := HRR.out
                rw [HST.out, pu_end (by simp only; omega)] at hR9
                simp only at hR9
                have HR9 := Lib.hid hR9
                clear hR9
                go_wp2
                all_goals (
                  go_returns
                  rw [HR9.out]
                  exact ⟨_, rfl, OwnR.nil _ _ _ _, hbw⟩)
              · obtain ⟨b7, off7, rfl, hc7⟩ := hrq (by omega)
                have hrw := hrq.below hbx
                have bx0 := cell_keep hbx g0
                have bx1 := cell_keep hbx g1
                have y0 := cell_keep hbx (hc7 a (by omega))
                have hca : ¬ c7 = a := by omega
                have ha0 : (0 : Int) ≤ (a : Int) := by omega
                have ha1 : (a : Int) ≤ (N8 : Int) := by omega
                have ha2 : (N8 : Int) ≤ (c7 : Int) := by omega
                have hb0 := hBb.nth a
                have ht0 : takeW B a 1 = nth B a := takeW_one (by omega)
                obtain ⟨x0, hx0⟩ : ∃ x0, x0 = nth B a := ⟨_, rfl⟩
                rw [← hx0] at y0 hb0 ht0
                have HC7 := Lib.hid (fun (j : Nat) (hj : j < B.length) => cell_keep hbx (hc7 j hj))
                have HX0 := Lib.hid hx0
                have HT0 := Lib.hid ht0
                clear hx0 ht0 hc7
                rcases (show x0 = 0 ∨ x0 = 1 by omega) with rfl | rfl
                · -- one bit: 0
                  obtain ⟨X, hX0⟩ : ∃ X : Nat, X = 0 := ⟨_, rfl⟩
                  have hsh : Shape W B ⟨a, (L0, S0), bef⟩ X 1 := by rw [hX0]; exact shape0 (by simp only; omega) HT0.out
                  have hcs : (¬ 1 < Rn ∧ ¬ 14 ≤ Rn) ∨ (1 < Rn ∧ ¬ 14 ≤ Rn) ∨ (1 < Rn ∧ 14 ≤ Rn) := by omega
                  rcases hcs with ⟨q1, q2⟩ | ⟨q1, q2⟩ | ⟨q1, q2⟩
                  all_goals (
                    go_wp2_with fail
                    refine (hwd _).mono ?_
                    rintro r w5 ⟨rfl, hb5⟩
                    have hmk := make8 W (by omega) w5
                    have hx5 := hbx.trans (hb5.mono hbx.size)
                    have hkt5 := hk.below hb5 hk.lt
                    have how5 := hown.below hb5 (Nat.le_refl _)
                    have z5 := hb5.size
                    obtain ⟨xs, hxe⟩ : ∃ xs, xs = List.replicate W 0 := ⟨_, rfl⟩
                    have hxl : xs.length = W := by rw [hxe]; simp
                    have hxv : wv xs = X := by rw [hxe, wv_zeros, hX0]
                    have hXb : Bs xs := by rw [hxe]; intro x hx; rw [List.eq_of_mem_replicate hx]; decide
                    rw [← hxe] at hmk
                    have hba : Below w5.heap.size w5 (w5.alloc (.cells (ints .u8 xs).toArray 5)) := (Below.refl _ _).alloc (Nat.le_refl _) _
                    have hxs : RowK (w5.alloc (.cells (ints .u8 xs).toArray 5)) 5 .u8 w5.heap.size xs := rowK_new rfl rfl
                    have hkt := hkt5.below hba hkt5.lt
                    have howt := how5.below hba (Nat.le_refl _)
                    have kt0 : (w5.alloc (.cells (ints .u8 xs).toArray 5)).cell? ⟨wq.heap.size, 0, none⟩ = some (.int .i64 (L0 : Int)) := hkt.cell 0
                    have kt1 : (w5.alloc (.cells (ints .u8 xs).toArray 5)).cell? ⟨wq.heap.size, 1, none⟩ = some (.int .i64 (S0 : Int)) := hkt.cell 1
                    have hbt := hx5.trans (hba.mono hx5.size)
                    clear hX0 hxe hb5 hx5 hkt5 how5 hba hrw bx0 bx1 y0 hbx hown hk k0 k1
                    go_wp2_with (simp only [hmk])
                    clear hmk
                    generalize w5.alloc (.cells (ints .u8 xs).toArray 5) = wt at *
                    obtain ⟨gx, hgxe⟩ : ∃ gx, gx = w5.heap.size := ⟨_, rfl⟩
                    rw [← hgxe] at hxs ⊢
                    have hgx : wq.heap.size < gx := by omega
                    clear hgxe
                    have hpf := pu_full hW64 hBb hwin (show a ≤ B.length by omega) hbf hsh
                    simp only at hpf
                    have hXl := hsh.1
                    have hp3 := fun w1 hr => ref_piece (some ⟨gx, 0, none⟩) xs W W hxl.symm (Nat.le_refl _) hXb (by rw [hxl]; exact hW64) (L0, S0) (by rw [hxl]; exact hwin) w1 hr
                    rw [hxl, hxv] at hp3
                    have hwo := fun w1 hr => ref_worth (some ⟨gx, 0, none⟩) xs W W hxl.symm hXb (by rw [hxl]; exact hW64) w1 hr
                    rw [hxv] at hwo
                    have hwinp := win_piece hW64 hXl hwin
                    have hpl1 := (piece_len hW64 hXl hwin).1
                    have hbsp := bs_piece W X (L0, S0)
                    generalize pieceS W X (L0, S0) = ps at hp3 hpf hwinp hpl1 hbsp
                    obtain ⟨pb, pw⟩ := ps
                    simp only at hp3 hpf hwinp hpl1 hbsp
                    have hrs := (hrq.below hbt).sub a (1) (by omega)
                    have hrl : ((B.drop a).take (1)).length = 1 := by rw [List.length_take, List.length_drop]; omega
                    have hbtt : Bts ((B.drop a).take (1)) := fun x hx => Nat.lt_trans ((hBb.drop a).take (1) x hx) (by decide)
                    have hbtp : Bts pb := fun x hx => Nat.lt_trans (hbsp x hx) (by decide)
                    have hsm := fun A8 n2 c1 c2 (h : n2 = 1) w1 hr1 hr2 => ref_same A8 (some ⟨b7, off7 + a, none⟩) pb ((B.drop a).take (1)) pb.length n2 c1 c2 rfl (by rw [hrl]; exact h) hpl1 (by rw [hrl]; omega) hbtp hbtt w1 hr1 hr2
                    have hxz := hxs.lt
                    have hqg : wq.heap.size < gx := hgx
                    clear hbtt hbtp hbsp hpl1 hrl
                    refine (hp3 _ hxs.rd).mono ?_
                    rintro r w7 ⟨v7, rfl, hown7, hb7⟩
                    obtain ⟨A8, c8, rfl, _⟩ := hown7.cap
                    have hkt7 := hkt.below hb7 hkt.lt
                    have hxs7 := hxs.below hb7 hxs.lt
                    have how7 := howt.below hb7 (Nat.le_refl _)
                    have hbt7 := hbt.trans (hb7.mono hbt.size)
                    have hrs7 := hrs.below hb7
                    have hrp7 := hown7.rdK
                    have z7 := hb7.size
                    clear hb7 hown7 hkt hxs howt hbt hrs hp3
                    by_cases heq : pb = (B.drop a).take (1)
                    · rw [if_pos heq] at hpf
                      have hsm1 := hsm A8
                      rw [decide_eq_true heq] at hsm1
                      have HPF := Lib.hid hpf
                      clear hpf heq hsm
                      go_wp2_with fail
                      have eS : Blk (w7.alloc (.cells #[.int .i64 (pw.1 : Int), .int .i64 (pw.2 : Int)] 77)) w7.heap.size 77 #[.int .i64 (pw.1 : Int), .int .i64 (pw.2 : Int)] := Blk.new _ _ _
                      have hkS := hkt7.alloc (.cells #[.int .i64 (pw.1 : Int), .int .i64 (pw.2 : Int)] 77)
                      have hxS := hxs7.alloc (.cells #[.int .i64 (pw.1 : Int), .int .i64 (pw.2 : Int)] 77)
                      have howS := how7.alloc (.cells #[.int .i64 (pw.1 : Int), .int .i64 (pw.2 : Int)] 77)
                      have hba : Below w7.heap.size w7 (w7.alloc (.cells #[.int .i64 (pw.1 : Int), .int .i64 (pw.2 : Int)] 77)) := (Below.refl _ _).alloc (Nat.le_refl _) _
                      have hrsS := hrs7.below hba
                      have hrpS := hrp7.below hba
                      have hbtS := hbt7.trans (hba.mono hbt7.size)
                      have zS := hba.size
                      generalize w7.alloc (.cells #[.int .i64 (pw.1 : Int), .int .i64 (pw.2 : Int)] 77) = wS at *
                      clear hkt7 hxs7 how7 hrs7 hrp7 hba hbt7
                      refine (hsm1 _ _ _ (by omega) wS hrpS hrsS).mono ?_
                      rintro r w9 ⟨rfl, hb9⟩
                      have e9 := eS.below hb9 eS.lt
                      have hk9 := hkS.below hb9 hkS.lt
                      have hx9 := hxS.below hb9 hxS.lt
                      have how9 := howS.below hb9 (Nat.le_refl _)
                      have hbt9 := hbtS.trans (hb9.mono hbtS.size)
                      have z9 := hb9.size
                      have p0 : w9.cell? ⟨w7.heap.size, 0, none⟩ = some (.int .i64 (pw.1 : Int)) := e9.cell 0
                      have p1 : w9.cell? ⟨w7.heap.size, 1, none⟩ = some (.int .i64 (pw.2 : Int)) := e9.cell 1
                      have q0 := hk9.frozen 0
                      have q1 := hk9.frozen 1
                      have q2 := hk9.cell 0
                      have q3 := hk9.cell 1
                      have q4 := hk9.lt
                      clear eS hkS hxS howS hb9 hrsS hrpS hbtS hsm1
                      have hszr : 1 ≤ Rn := by have := hsh.2.1; simp only at this; omega
                      have hBXl := xor_lt hbf hXl
                      have hpow : 2 ^ W ≤ 18446744073709551616 := Nat.pow_le_pow_right (n := 2) (j := 64) (by decide) hW64
                      have hbit : bits BinOp.xor IntKind.u64 (bef : Int) (X : Int) = ((bef ^^^ X : Nat) : Int) := u64_xor_nat _ _ (by omega) (by omega)
                      obtain ⟨BX, hBX⟩ : ∃ BX, BX = bef ^^^ X := ⟨_, rfl⟩
                      have HPF2 := HPF.out
                      rw [← hBX] at hBXl hbit HPF2
                      have HP := Lib.hid HPF2
                      have hol2 : out.length ≤ 65536 := by omega
                      clear hBX HPF2 HPF hpow
                      go_wp2_with fail
                      have hkA : Blk ((w9.setCell ⟨wq.heap.size, 0, none⟩ (.int .i64 (pw.1 : Int))).setCell ⟨wq.heap.size, 1, none⟩ (.int .i64 (pw.2 : Int))) wq.heap.size 77 #[.int .i64 (pw.1 : Int), .int .i64 (pw.2 : Int)] := (hk9.set_ 0 (.int .i64 (pw.1 : Int))).set_ 1 (.int .i64 (pw.2 : Int))
                      have hxA : RowK ((w9.setCell ⟨wq.heap.size, 0, none⟩ (.int .i64 (pw.1 : Int))).setCell ⟨wq.heap.size, 1, none⟩ (.int .i64 (pw.2 : Int))) 5 .u8 gx xs := (hx9.far (Nat.ne_of_gt hqg) _).far (Nat.ne_of_gt hqg) _
                      have howA := how9.same (w' := (w9.setCell ⟨wq.heap.size, 0, none⟩ (.int .i64 (pw.1 : Int))).setCell ⟨wq.heap.size, 1, none⟩ (.int .i64 (pw.2 : Int))) (fun g hg => by
                        have := (how9.lt g hg).1
                        rw [Below.heap_setCell _ _ _ g (show g ≠ wq.heap.size by omega), Below.heap_setCell _ _ _ g (show g ≠ wq.heap.size by omega)])
                      have hbtA : Below wq.heap.size wq ((w9.setCell ⟨wq.heap.size, 0, none⟩ (.int .i64 (pw.1 : Int))).setCell ⟨wq.heap.size, 1, none⟩ (.int .i64 (pw.2 : Int))) := (hbt9.setCell (Nat.le_refl _) _).setCell (Nat.le_refl _) _
                      generalize (w9.setCell ⟨wq.heap.size, 0, none⟩ (.int .i64 (pw.1 : Int))).setCell ⟨wq.heap.size, 1, none⟩ (.int .i64 (pw.2 : Int)) = w10 at *
                      clear e9 hk9 hx9 how9 hbt9 z9 p0 p1 q0 q1 q2 q3 q4
                      refine (hwo w10 hxA.rd).mono ?_
                      rintro r w11 ⟨rfl, hb11⟩
                      have hk11 := (hkA.below hb11 hkA.lt).alloc (.cells #[.int .u64 (BX : Int)] 34)
                      have how11 := howA.below hb11 (Nat.le_refl _)
                      have hbt11 := hbtA.trans (hb11.mono hbtA.size)
                      have z11 := (hkA.below hb11 hkA.lt).lt
                      clear hkA hxA howA hbtA hb11 hwo
                      go_wp2_with (first
                        | (at_builtin
                           refine wpList_app elem64 rfl _ _ rfl (how11.alloc _) rfl ⟨_, 0, none⟩ rfl BX ?c1 ?c2 ?c3 (fun v12 w12 hown12 hgr12 hb12 => ?_)
                           case c1 => simp [go_sem]
                           case c2 => omega
                           case c3 => simp only [World.size_alloc]; omega
                           have hk12 := hk11.below hb12 (Nat.lt_succ_self _)
                           have hbt12 := (hbt11.alloc hbt11.size _).trans (hb12.mono (Nat.le_succ _))
                           have z12 := hk12.lt
                           clear hk11 how11 hbt11 hgr12 hb12))
                      go_roundw
                      case rel =>
                        refine ⟨i + 1, ⟨a + (1), pw, BX⟩, out ++ [BX], hi1, vi (by simp only; omega), rfl, vi (by omega), hown12, hk12, hbt12, z12, hwinp, by simp only; omega, hBXl, by simp; omega, ?_⟩
                        have := HST.out
                        rw [HP.out] at this
                        exact this.symm
                      case measure => first | (simp [intOf]; done) | (simp [intOf]; omega)
                    · rw [if_neg heq] at hpf
                      have hsm1 := hsm A8
                      rw [decide_eq_false heq] at hsm1
                      have hR9 := HRR.out
                      rw [HST.out, hpf] at hR9
                      simp only at hR9
                      have HR9 := Lib.hid hR9
                      clear hpf heq hsm hR9
                      go_wp2_with fail
                      have hba : Below w7.heap.size w7 (w7.alloc (.cells #[.int .i64 (pw.1 : Int), .int .i64 (pw.2 : Int)] 77)) := (Below.refl _ _).alloc (Nat.le_refl _) _
                      have hrsS := hrs7.below hba
                      have hrpS := hrp7.below hba
                      have hbtS := hbt7.trans (hba.mono hbt7.size)
                      refine (hsm1 _ _ _ (by omega) _ hrpS hrsS).mono ?_
                      rintro r w9 ⟨rfl, hb9⟩
                      have hbt9 := hbl2.trans ((hbtS.trans (hb9.mono hbtS.size)).mono hbl2.size)
                      clear hrsS hrpS hbtS hsm1 hba
                      go_wp2
                      go_returns
                      rw [HR9.out]
                      exact ⟨_, rfl, OwnR.nil _ _ _ _, hbt9⟩)
                · -- the first bit: 1
                  rcases Nat.lt_or_ge Rn 2 with h2 | h2
                  · obtain rfl : Rn = 1 := by omega
                    have hR9 := HRR.out
                    rw [HST.out, pu_one (by simp only; omega) (by simp only; rw [HT0.out]; decide) (by simp only; omega)] at hR9
                    simp only at hR9
                    have HR9 := Lib.hid hR9
                    clear hR9
                    go_wp2
                    go_returns
                    rw [HR9.out]
                    exact ⟨_, rfl, OwnR.nil _ _ _ _, hbw⟩

                  · have y1 : wr.cell? ⟨b7, off7 + a + 1, none⟩ = some (.int .u8 ((nth B (a + 1) : Nat) : Int)) := by rw [Nat.add_assoc]; exact HC7.out (a + 1) (by omega)
                    have hb1 := hBb.nth (a + 1)
                    have ht1 : takeW B (a + 1) 1 = nth B (a + 1) := takeW_one (by omega)
                    have q1 : 1 < Rn := h2
                    obtain ⟨x1, hx1⟩ : ∃ x1, x1 = nth B (a + 1) := ⟨_, rfl⟩
                    rw [← hx1] at y1 hb1 ht1
                    have HX1 := Lib.hid hx1
                    have HT1 := Lib.hid ht1
                    clear hx1 ht1
                    rcases (show x1 = 0 ∨ x1 = 1 by omega) with rfl | rfl
                    · by_cases hsz : Rn < 2 + S0
                      · have hg30 : decide ((Rn : Int) < 2 + (S0 : Int)) = true := by simp; omega
                        have hR9 := HRR.out
                        rw [HST.out, pu_short0 (by simp only; omega) (by simp only; rw [HT0.out]; decide) (by simp only; rw [HT1.out]; decide) (by simp only; omega)] at hR9
                        simp only at hR9
                        have HR9 := Lib.hid hR9
                        clear hR9
                        go_wp2
                        go_returns
                        rw [HR9.out]
                        exact ⟨_, rfl, OwnR.nil _ _ _ _, hbw⟩

                      · obtain ⟨hle, hsh⟩ := shape1 (u := ⟨a, (L0, S0), bef⟩) hBb hwin (by simp only; omega) (by simp only; rw [HT0.out]; decide) (by simp only; rw [HT1.out]; decide) (by simp only; omega)
                        simp only at hle hsh
                        obtain ⟨SZ, hSZ⟩ : ∃ SZ, SZ = 2 + S0 := ⟨_, rfl⟩
                        obtain ⟨X, hX0⟩ : ∃ X, X = takeW B (a + 2) S0 * 2 ^ (W - L0 - S0) := ⟨_, rfl⟩
                        rw [← hX0, ← hSZ] at hsh
                        have HX := Lib.hid hX0
                        have e25 : Hid ((2 : Int) + (S0 : Int) = (SZ : Int)) := Lib.hid (by omega)
                        have hg30 : decide ((Rn : Int) < 2 + (S0 : Int)) = false := by simp; omega
                        have hW1 : 1 ≤ W := by have := HWE.out; omega
                        have hSr : SZ ≤ Rn := by omega
                        have hL0W : L0 < W := by
                          rcases hwin with e | e
                          · cases e; omega
                          · have := e.2; have := e.1; simp only at *; omega
                        clear hX0
                        go_wp2_with fail
                        refine (hwd _).mono ?_
                        rw [e25.out]
                        rintro r w5 ⟨rfl, hb5⟩
                        have hmk := make8 W (by omega) w5
                        have hx5 := hbx.trans (hb5.mono hbx.size)
                        have hkt5 := hk.below hb5 hk.lt
                        have how5 := hown.below hb5 (Nat.le_refl _)
                        have z5 := hb5.size
                        obtain ⟨zs, hze⟩ : ∃ zs, zs = List.replicate W 0 := ⟨_, rfl⟩
                        have hzl : zs.length = W := by rw [hze]; simp
                        rw [← hze] at hmk
                        have HZE := Lib.hid hze
                        have hba : Below w5.heap.size w5 (w5.alloc (.cells (ints .u8 zs).toArray 5)) := (Below.refl _ _).alloc (Nat.le_refl _) _
                        have hxs : RowK (w5.alloc (.cells (ints .u8 zs).toArray 5)) 5 .u8 w5.heap.size zs := rowK_new rfl rfl
                        have hkt := hkt5.below hba hkt5.lt
                        have kt0 : (w5.alloc (.cells (ints .u8 zs).toArray 5)).cell? ⟨wq.heap.size, 0, none⟩ = some (.int .i64 (L0 : Int)) := hkt.cell 0
                        have kt1 : (w5.alloc (.cells (ints .u8 zs).toArray 5)).cell? ⟨wq.heap.size, 1, none⟩ = some (.int .i64 (S0 : Int)) := hkt.cell 1
                        have y1t : (w5.alloc (.cells (ints .u8 zs).toArray 5)).cell? ⟨b7, off7 + a + 1, none⟩ = some (.int .u8 (0 : Int)) := cell_keep hba (cell_keep hb5 y1)
                        have hktk : Blk ((w5.alloc (.cells (ints .u8 zs).toArray 5)).alloc (.cells #[.int .i64 (L0 : Int), .int .i64 (S0 : Int)] 77)) (w5.heap.size + 1) 77 #[.int .i64 (L0 : Int), .int .i64 (S0 : Int)] := by
                          have := Blk.new (w5.alloc (.cells (ints .u8 zs).toArray 5)) 77 #[.int .i64 (L0 : Int), .int .i64 (S0 : Int)]
                          simpa using this
                        have hxsk := hxs.alloc (.cells #[.int .i64 (L0 : Int), .int .i64 (S0 : Int)] 77)
                        have hbk : Below w5.heap.size w5 ((w5.alloc (.cells (ints .u8 zs).toArray 5)).alloc (.cells #[.int .i64 (L0 : Int), .int .i64 (S0 : Int)] 77)) := hba.alloc hba.size _
                        have zb7 : b7 < w5.heap.size + 1 := by have := cell_lt y1t; simpa using this
                        have zk := hkt.lt
                        clear hze hb5 hba bx0 bx1 y0 hown hk k0 k1 y1 hkt hxs
                        have hbits : ((B.drop (a + 2)).take (S0)).length = S0 := by rw [List.length_take, List.length_drop]; omega
                        have hrb := (hrq.sub (a + 2) (S0) (by omega)).below (hx5.trans (hbk.mono hx5.size))
                        have hcs : (ints .u8 ((B.drop (a + 2)).take (S0))).length = S0 := by rw [ints_length, hbits]
                        obtain ⟨bitl, hbe⟩ : ∃ bitl, bitl = (B.drop (a + 2)).take (S0) := ⟨_, rfl⟩
                        rw [← hbe] at hbits hrb hcs
                        have hbB : Bs bitl := by rw [hbe]; exact (hBb.drop _).take _
                        have hbv : wv bitl = takeW B (a + 2) (S0) := by rw [hbe]; rfl
                        have HBV := Lib.hid hbv
                        have HBI := Lib.hid hbits
                        have HCS := Lib.hid hcs
                        clear hbe hbv hbits hcs

                        go_wp2_with (first
                          | (simp only [hmk])
                          | ((with_reducible (show wpList _ _ _ (⟨some 149, _, _, _, _, _⟩ :: _) _ _))
                             focus   (refine wpList_copy_splice (o := ⟨some 149, _, _, _, _, _⟩) rfl (.tmp 147) (.tmp 148) 53 53 rfl 5 (by kernel_rfl) (by kernel_rfl) ?dp ?sp ?dl ?dc ?sl ?sc ?h1 ?h2 w5.heap.size L0 (ints .u8 zs) 5 ?c1 (ints .u8 bitl) ?c2 ?c3 ?c4 ?c5 w5.heap.size w5 hbk (Nat.le_refl _) (fun wc HG hbc => ?_)
                                      case h1 => rfl
                                      case h2 => rfl
                                      case c1 => exact hxsk
                                      case c2 => rw [HCS.out]; simp only [Nat.min_def]; split <;> omega
                                      case c3 =>
                                        intro hp
                                        rw [HCS.out] at hp
                                        first
                                          | exact ⟨rfl, _, rfl, src_cells hrb⟩
                                          | (rw [if_neg (by omega), Nat.add_assoc off7 a 2]; exact ⟨rfl, _, rfl, src_cells hrb⟩)
                                          | (exfalso; omega)
                                      case c4 => rw [HCS.out, ints_length, hzl]; omega
                                      case c5 => exact one_cells _ _
                                      obtain ⟨xs, hxe⟩ : ∃ xs, xs = List.replicate L0 0 ++ bitl ++ List.replicate (W - L0 - S0) 0 := ⟨_, rfl⟩
                                      have hxs : RowK wc 5 .u8 w5.heap.size xs := by
                                        have := HG.out
                                        rw [splice_zeros HZE.out HBI.out (by omega), ← hxe] at this
                                        exact this
                                      have hxl : xs.length = W := by rw [hxe]; simp only [List.length_append, List.length_replicate, HBI.out]; omega
                                      have hXb : Bs xs := by
                                        rw [hxe]
                                        exact (bs_rep.append hbB).append bs_rep
                                      have hxv : wv xs = X := by
                                        rw [hxe, wv_laid _ _ _ _ HBI.out (by omega), HBV.out]
                                        have := HX.out; rw [this]
                                      have hkt := hkt5.below hbc hkt5.lt
                                      have howt := how5.below hbc (Nat.le_refl _)
                                      have hbt := hx5.trans (hbc.mono hx5.size)
                                      replace kt0 : wc.cell? ⟨wq.heap.size, 0, none⟩ = some (.int .i64 (L0 : Int)) := hkt.cell 0
                                      replace kt1 : wc.cell? ⟨wq.heap.size, 1, none⟩ = some (.int .i64 (S0 : Int)) := hkt.cell 1
                                      clear hxe HG hbc hbk hxsk hktk hrb hkt5 how5 hx5 hmk y1t)))
                        all_goals (
                          obtain ⟨gx, hgxe⟩ : ∃ gx, gx = w5.heap.size := ⟨_, rfl⟩
                          rw [← hgxe] at hxs ⊢
                          have hgx : wq.heap.size < gx := by omega
                          clear hgxe
                          have hpf := pu_full hW64 hBb hwin (show a ≤ B.length by omega) hbf hsh
                          simp only at hpf
                          have hXl := hsh.1
                          have hp3 := fun w1 hr => ref_piece (some ⟨gx, 0, none⟩) xs W W hxl.symm (Nat.le_refl _) hXb (by rw [hxl]; exact hW64) (L0, S0) (by rw [hxl]; exact hwin) w1 hr
                          rw [hxl, hxv] at hp3
                          have hwo := fun w1 hr => ref_worth (some ⟨gx, 0, none⟩) xs W W hxl.symm hXb (by rw [hxl]; exact hW64) w1 hr
                          rw [hxv] at hwo
                          have hwinp := win_piece hW64 hXl hwin
                          have hpl1 := (piece_len hW64 hXl hwin).1
                          have hbsp := bs_piece W X (L0, S0)
                          generalize pieceS W X (L0, S0) = ps at hp3 hpf hwinp hpl1 hbsp
                          obtain ⟨pb, pw⟩ := ps
                          simp only at hp3 hpf hwinp hpl1 hbsp
                          have hrs := (hrq.below hbt).sub a (SZ) (by omega)
                          have hrl : ((B.drop a).take (SZ)).length = SZ := by rw [List.length_take, List.length_drop]; omega
                          have hbtt : Bts ((B.drop a).take (SZ)) := fun x hx => Nat.lt_trans ((hBb.drop a).take (SZ) x hx) (by decide)
                          have hbtp : Bts pb := fun x hx => Nat.lt_trans (hbsp x hx) (by decide)
                          have hsm := fun A8 n2 c1 c2 (h : n2 = SZ) w1 hr1 hr2 => ref_same A8 (some ⟨b7, off7 + a, none⟩) pb ((B.drop a).take (SZ)) pb.length n2 c1 c2 rfl (by rw [hrl]; exact h) hpl1 (by rw [hrl]; omega) hbtp hbtt w1 hr1 hr2
                          have hxz := hxs.lt
                          have hqg : wq.heap.size < gx := hgx
                          clear hbtt hbtp hbsp hpl1 hrl
                          refine (hp3 _ hxs.rd).mono ?_
                          rintro r w7 ⟨v7, rfl, hown7, hb7⟩
                          obtain ⟨A8, c8, rfl, _⟩ := hown7.cap
                          have hkt7 := hkt.below hb7 hkt.lt
                          have hxs7 := hxs.below hb7 hxs.lt
                          have how7 := howt.below hb7 (Nat.le_refl _)
                          have hbt7 := hbt.trans (hb7.mono hbt.size)
                          have hrs7 := hrs.below hb7
                          have hrp7 := hown7.rdK
                          have z7 := hb7.size
                          clear hb7 hown7 hkt hxs howt hbt hrs hp3
                          by_cases heq : pb = (B.drop a).take (SZ)
                          · rw [if_pos heq] at hpf
                            have hsm1 := hsm A8
                            rw [decide_eq_true heq] at hsm1
                            have HPF := Lib.hid hpf
                            clear hpf heq hsm
                            go_wp2_with fail
                            have eS : Blk (w7.alloc (.cells #[.int .i64 (pw.1 : Int), .int .i64 (pw.2 : Int)] 77)) w7.heap.size 77 #[.int .i64 (pw.1 : Int), .int .i64 (pw.2 : Int)] := Blk.new _ _ _
                            have hkS := hkt7.alloc (.cells #[.int .i64 (pw.1 : Int), .int .i64 (pw.2 : Int)] 77)
                            have hxS := hxs7.alloc (.cells #[.int .i64 (pw.1 : Int), .int .i64 (pw.2 : Int)] 77)
                            have howS := how7.alloc (.cells #[.int .i64 (pw.1 : Int), .int .i64 (pw.2 : Int)] 77)
                            have hba : Below w7.heap.size w7 (w7.alloc (.cells #[.int .i64 (pw.1 : Int), .int .i64 (pw.2 : Int)] 77)) := (Below.refl _ _).alloc (Nat.le_refl _) _
                            have hrsS := hrs7.below hba
                            have hrpS := hrp7.below hba
                            have hbtS := hbt7.trans (hba.mono hbt7.size)
                            have zS := hba.size
                            generalize w7.alloc (.cells #[.int .i64 (pw.1 : Int), .int .i64 (pw.2 : Int)] 77) = wS at *
                            clear hkt7 hxs7 how7 hrs7 hrp7 hba hbt7
                            refine (hsm1 _ _ _ (by omega) wS hrpS hrsS).mono ?_
                            rintro r w9 ⟨rfl, hb9⟩
                            have e9 := eS.below hb9 eS.lt
                            have hk9 := hkS.below hb9 hkS.lt
                            have hx9 := hxS.below hb9 hxS.lt
                            have how9 := howS.below hb9 (Nat.le_refl _)
                            have hbt9 := hbtS.trans (hb9.mono hbtS.size)
                            have z9 := hb9.size
                            have p0 : w9.cell? ⟨w7.heap.size, 0, none⟩ = some (.int .i64 (pw.1 : Int)) := e9.cell 0
                            have p1 : w9.cell? ⟨w7.heap.size, 1, none⟩ = some (.int .i64 (pw.2 : Int)) := e9.cell 1
                            have q0 := hk9.frozen 0
                            have q1 := hk9.frozen 1
                            have q2 := hk9.cell 0
                            have q3 := hk9.cell 1
                            have q4 := hk9.lt
                            clear eS hkS hxS howS hb9 hrsS hrpS hbtS hsm1
                            have hszr : SZ ≤ Rn := by have := hsh.2.1; simp only at this; omega
                            have hBXl := xor_lt hbf hXl
                            have hpow : 2 ^ W ≤ 18446744073709551616 := Nat.pow_le_pow_right (n := 2) (j := 64) (by decide) hW64
                            have hbit : bits BinOp.xor IntKind.u64 (bef : Int) (X : Int) = ((bef ^^^ X : Nat) : Int) := u64_xor_nat _ _ (by omega) (by omega)
                            obtain ⟨BX, hBX⟩ : ∃ BX, BX = bef ^^^ X := ⟨_, rfl⟩
                            have HPF2 := HPF.out
                            rw [← hBX] at hBXl hbit HPF2
                            have HP := Lib.hid HPF2
                            have hol2 : out.length ≤ 65536 := by omega
                            clear hBX HPF2 HPF hpow
                            go_wp2_with fail
                            have hkA : Blk ((w9.setCell ⟨wq.heap.size, 0, none⟩ (.int .i64 (pw.1 : Int))).setCell ⟨wq.heap.size, 1, none⟩ (.int .i64 (pw.2 : Int))) wq.heap.size 77 #[.int .i64 (pw.1 : Int), .int .i64 (pw.2 : Int)] := (hk9.set_ 0 (.int .i64 (pw.1 : Int))).set_ 1 (.int .i64 (pw.2 : Int))
                            have hxA : RowK ((w9.setCell ⟨wq.heap.size, 0, none⟩ (.int .i64 (pw.1 : Int))).setCell ⟨wq.heap.size, 1, none⟩ (.int .i64 (pw.2 : Int))) 5 .u8 gx xs := (hx9.far (Nat.ne_of_gt hqg) _).far (Nat.ne_of_gt hqg) _
                            have howA := how9.same (w' := (w9.setCell ⟨wq.heap.size, 0, none⟩ (.int .i64 (pw.1 : Int))).setCell ⟨wq.heap.size, 1, none⟩ (.int .i64 (pw.2 : Int))) (fun g hg => by
                              have := (how9.lt g hg).1
                              rw [Below.heap_setCell _ _ _ g (show g ≠ wq.heap.size by omega), Below.heap_setCell _ _ _ g (show g ≠ wq.heap.size by omega)])
                            have hbtA : Below wq.heap.size wq ((w9.setCell ⟨wq.heap.size, 0, none⟩ (.int .i64 (pw.1 : Int))).setCell ⟨wq.heap.size, 1, none⟩ (.int .i64 (pw.2 : Int))) := (hbt9.setCell (Nat.le_refl _) _).setCell (Nat.le_refl _) _
                            generalize (w9.setCell ⟨wq.heap.size, 0, none⟩ (.int .i64 (pw.1 : Int))).setCell ⟨wq.heap.size, 1, none⟩ (.int .i64 (pw.2 : Int)) = w10 at *
                            clear e9 hk9 hx9 how9 hbt9 z9 p0 p1 q0 q1 q2 q3 q4
                            refine (hwo w10 hxA.rd).mono ?_
                            rintro r w11 ⟨rfl, hb11⟩
                            have hk11 := (hkA.below hb11 hkA.lt).alloc (.cells #[.int .u64 (BX : Int)] 34)
                            have how11 := howA.below hb11 (Nat.le_refl _)
                            have hbt11 := hbtA.trans (hb11.mono hbtA.size)
                            have z11 := (hkA.below hb11 hkA.lt).lt
                            clear hkA hxA howA hbtA hb11 hwo
                            go_wp2_with (first
                              | (at_builtin
                                 refine wpList_app elem64 rfl _ _ rfl (how11.alloc _) rfl ⟨_, 0, none⟩ rfl BX ?c1 ?c2 ?c3 (fun v12 w12 hown12 hgr12 hb12 => ?_)
                                 case c1 => simp [go_sem]
                                 case c2 => omega
                                 case c3 => simp only [World.size_alloc]; omega
                                 have hk12 := hk11.below hb12 (Nat.lt_succ_self _)
                                 have hbt12 := (hbt11.alloc hbt11.size _).trans (hb12.mono (Nat.le_succ _))
                                 have z12 := hk12.lt
                                 clear hk11 how11 hbt11 hgr12 hb12))
                            go_roundw
                            case rel =>
                              refine ⟨i + 1, ⟨a + (SZ), pw, BX⟩, out ++ [BX], hi1, vi (by simp only; omega), rfl, vi (by omega), hown12, hk12, hbt12, z12, hwinp, by simp only; omega, hBXl, by simp; omega, ?_⟩
                              have := HST.out
                              rw [HP.out] at this
                              exact this.symm
                            case measure => first | (simp [intOf]; done) | (simp [intOf]; omega)
                          · rw [if_neg heq] at hpf
                            have hsm1 := hsm A8
                            rw [decide_eq_false heq] at hsm1
                            have hR9 := HRR.out
                            rw [HST.out, hpf] at hR9
                            simp only at hR9
                            have HR9 := Lib.hid hR9
                            clear hpf heq hsm hR9
                            go_wp2_with fail
                            have hba : Below w7.heap.size w7 (w7.alloc (.cells #[.int .i64 (pw.1 : Int), .int .i64 (pw.2 : Int)] 77)) := (Below.refl _ _).alloc (Nat.le_refl _) _
                            have hrsS := hrs7.below hba
                            have hrpS := hrp7.below hba
                            have hbtS := hbt7.trans (hba.mono hbt7.size)
                            refine (hsm1 _ _ _ (by omega) _ hrpS hrsS).mono ?_
                            rintro r w9 ⟨rfl, hb9⟩
                            have hbt9 := hbl2.trans ((hbtS.trans (hb9.mono hbtS.size)).mono hbl2.size)
                            clear hrsS hrpS hbtS hsm1 hba
                            go_wp2
                            go_returns
                            rw [HR9.out]
                            exact ⟨_, rfl, OwnR.nil _ _ _ _, hbt9⟩)
                    · by_cases h14 : Rn < 14
                      · have q2 : ¬ 14 ≤ Rn := by omega
                        have hR9 := HRR.out
                        rw [HST.out, pu_short1 (by simp only; omega) (by simp only; rw [HT0.out]; decide) (by simp only; rw [HT1.out]) (by simp only; omega)] at hR9
                        simp only at hR9
                        have HR9 := Lib.hid hR9
                        clear hR9
                        go_wp2
                        go_returns
                        rw [HR9.out]
                        exact ⟨_, rfl, OwnR.nil _ _ _ _, hbw⟩

                      · have q2 : 14 ≤ Rn := by omega
                        have hl8 : ((B.drop (a + 8)).take 6).length = 6 := by rw [List.length_take, List.length_drop]; omega
                        have hr8 : RdK .u8 wr (some ⟨b7, off7 + a + 8, none⟩) ((B.drop (a + 8)).take 6) := by rw [Nat.add_assoc]; exact hrw.sub (a + 8) 6 (by omega)
                        have hw8 := fun c w1 hr => ref_worth (some ⟨b7, off7 + a + 8, none⟩) ((B.drop (a + 8)).take 6) 6 c hl8.symm ((hBb.drop _).take _) (by rw [hl8]; decide) w1 hr
                        have hS6 := wv_lt ((hBb.drop (a + 8)).take 6)
                        rw [hl8] at hS6
                        have hSe : takeW B (a + 8) 6 = wv ((B.drop (a + 8)).take 6) := rfl
                        obtain ⟨S, hS⟩ : ∃ S, S = wv ((B.drop (a + 8)).take 6) := ⟨_, rfl⟩
                        rw [← hS] at hw8 hS6 hSe
                        have HSE := Lib.hid hSe
                        have hS64 : S < 64 := hS6
                        have hu8 : IntKind.i64.wrap (S : Int) = (S : Int) := IntWalk.i64_in _ (by omega)
                        have i8 : ¬ c7 - a = 8 := by omega
                        clear hS hSe hl8 hS6
                        go_wp2_with fail
                        refine (hw8 _ _ hr8).mono ?_
                        rintro r w4 ⟨rfl, hb4⟩
                        replace hbw := hbw.trans (hb4.mono hbw.size)
                        replace hk := hk.below hb4 hk.lt
                        replace hown := hown.below hb4 (Nat.le_refl _)
                        replace hbx := hbx.trans (hb4.mono hbx.size)
                        replace y0 := cell_keep hb4 y0
                        replace y1 := cell_keep hb4 y1
                        replace bx0 := cell_keep hb4 bx0
                        replace bx1 := cell_keep hb4 bx1
                        replace k0 := cell_keep hb4 k0
                        replace k1 := cell_keep hb4 k1
                        have hz4 := hb4.size
                        clear hb4 hw8 hr8 i8
                        by_cases hsz : Rn < 14 + (S + 1)
                        · have hg30 : decide ((Rn : Int) < 14 + (S : Int) + 1) = true := by simp; omega
                          have hR9 := HRR.out
                          rw [HST.out, pu_short2 (by simp only; omega) (by simp only; rw [HT0.out]; decide) (by simp only; rw [HT1.out]) (by simp only; rw [HSE.out]; omega)] at hR9
                          simp only at hR9
                          have HR9 := Lib.hid hR9
                          clear hR9
                          go_wp2
                          go_returns
                          rw [HR9.out]
                          exact ⟨_, rfl, OwnR.nil _ _ _ _, hbw⟩

                        · obtain ⟨SZ, hSZ⟩ : ∃ SZ, SZ = 14 + (S + 1) := ⟨_, rfl⟩
                          obtain ⟨S1, hS1⟩ : ∃ S1, S1 = S + 1 := ⟨_, rfl⟩
                          have e27 : Hid ((14 : Int) + (S : Int) + 1 = (SZ : Int)) := Lib.hid (by omega)
                          have hg30 : decide ((Rn : Int) < 14 + (S : Int) + 1) = false := by simp; omega
                          have hW1 : 1 ≤ W := by have := HWE.out; omega
                          have hl2 : ((B.drop (a + 2)).take 6).length = 6 := by rw [List.length_take, List.length_drop]; omega
                          have hw2 := fun c w1 hr => ref_worth (some ⟨b7, off7 + a + 2, none⟩) ((B.drop (a + 2)).take 6) 6 c hl2.symm ((hBb.drop _).take _) (by rw [hl2]; decide) w1 hr
                          have hL6 := wv_lt ((hBb.drop (a + 2)).take 6)
                          rw [hl2] at hL6
                          have hLe : takeW B (a + 2) 6 = wv ((B.drop (a + 2)).take 6) := rfl
                          obtain ⟨L, hL⟩ : ∃ L, L = wv ((B.drop (a + 2)).take 6) := ⟨_, rfl⟩
                          have hr2 := (hrq.sub (a + 2) 6 (by omega))
                          rw [← Nat.add_assoc] at hr2
                          rw [← hL] at hw2 hL6 hLe
                          have HLE := Lib.hid hLe
                          have hL64 : L < 64 := hL6
                          have hu2 : IntKind.i64.wrap (L : Int) = (L : Int) := IntWalk.i64_in _ (by omega)
                          have i2 : ¬ c7 - a = 2 := by omega
                          have i14 : ¬ c7 - a = 14 := by omega
                          have hSZ1 : SZ ≤ Rn := by omega
                          have hSZ2 : 15 ≤ SZ := by omega
                          have hSZ3 : SZ ≤ 78 := by omega
                          have hSSZ : S1 + 14 ≤ SZ := by omega
                          have hSSZ2 : SZ ≤ S1 + 14 := by omega
                          have HSZ := Lib.hid hSZ
                          have HS1 := Lib.hid hS1
                          clear hL hLe hl2 hL6 hSZ hS1
                          go_wp2_with fail
                          refine (hwd _).mono ?_
                          rw [e27.out]
                          rintro r w5 ⟨rfl, hb5⟩
                          have hmk := make8 W (by omega) w5
                          have hx5 := hbx.trans (hb5.mono hbx.size)
                          have hkt5 := hk.below hb5 hk.lt
                          have how5 := hown.below hb5 (Nat.le_refl _)
                          have z5 := hb5.size
                          obtain ⟨zs, hze⟩ : ∃ zs, zs = List.replicate W 0 := ⟨_, rfl⟩
                          have hzl : zs.length = W := by rw [hze]; simp
                          rw [← hze] at hmk
                          have HZE := Lib.hid hze
                          have hba : Below w5.heap.size w5 (w5.alloc (.cells (ints .u8 zs).toArray 5)) := (Below.refl _ _).alloc (Nat.le_refl _) _
                          have hxs : RowK (w5.alloc (.cells (ints .u8 zs).toArray 5)) 5 .u8 w5.heap.size zs := rowK_new rfl rfl
                          have hkt := hkt5.below hba hkt5.lt
                          have kt0 : (w5.alloc (.cells (ints .u8 zs).toArray 5)).cell? ⟨wq.heap.size, 0, none⟩ = some (.int .i64 (L0 : Int)) := hkt.cell 0
                          have kt1 : (w5.alloc (.cells (ints .u8 zs).toArray 5)).cell? ⟨wq.heap.size, 1, none⟩ = some (.int .i64 (S0 : Int)) := hkt.cell 1
                          have y1t : (w5.alloc (.cells (ints .u8 zs).toArray 5)).cell? ⟨b7, off7 + a + 1, none⟩ = some (.int .u8 (1 : Int)) := cell_keep hba (cell_keep hb5 y1)
                          have hktk : Blk ((w5.alloc (.cells (ints .u8 zs).toArray 5)).alloc (.cells #[.int .i64 (L0 : Int), .int .i64 (S0 : Int)] 77)) (w5.heap.size + 1) 77 #[.int .i64 (L0 : Int), .int .i64 (S0 : Int)] := by
                            have := Blk.new (w5.alloc (.cells (ints .u8 zs).toArray 5)) 77 #[.int .i64 (L0 : Int), .int .i64 (S0 : Int)]
                            simpa using this
                          have hxsk := hxs.alloc (.cells #[.int .i64 (L0 : Int), .int .i64 (S0 : Int)] 77)
                          have hbk : Below w5.heap.size w5 ((w5.alloc (.cells (ints .u8 zs).toArray 5)).alloc (.cells #[.int .i64 (L0 : Int), .int .i64 (S0 : Int)] 77)) := hba.alloc hba.size _
                          have zb7 : b7 < w5.heap.size + 1 := by have := cell_lt y1t; simpa using this
                          have zk := hkt.lt
                          clear hze hb5 hba bx0 bx1 y0 hown hk k0 k1 y1 hkt hxs
                          go_wp2_with (simp only [hmk])
                          clear hmk kt0 kt1 y1t

                          refine (hw2 _ _ (hr2.below (hx5.trans (hbk.mono hx5.size)))).mono ?_
                          rintro r w6 ⟨rfl, hb6⟩
                          have ht6 := hktk.below hb6 hktk.lt
                          have hx6 := hxsk.below hb6 hxsk.lt
                          have hb56 := hbk.trans (hb6.mono hbk.size)
                          have f0 := ht6.frozen 0
                          have f1 := ht6.frozen 1
                          have t0 : w6.cell? ⟨w5.heap.size + 1, 0, none⟩ = some (.int .i64 (L0 : Int)) := ht6.cell 0
                          have t1 : w6.cell? ⟨w5.heap.size + 1, 1, none⟩ = some (.int .i64 (S0 : Int)) := ht6.cell 1
                          have z6 : w5.heap.size + 1 < w6.heap.size := ht6.lt
                          have hbZ : Below w5.heap.size w5 ((w6.setCell ⟨w5.heap.size + 1, 0, none⟩ (.int .i64 (L : Int))).setCell ⟨w5.heap.size + 1, 1, none⟩ (.int .i64 ((SZ : Int) - 14))) := (hb56.setCell (Nat.le_succ _) _).setCell (Nat.le_succ _) _
                          have hxZ : RowK ((w6.setCell ⟨w5.heap.size + 1, 0, none⟩ (.int .i64 (L : Int))).setCell ⟨w5.heap.size + 1, 1, none⟩ (.int .i64 ((SZ : Int) - 14))) 5 .u8 w5.heap.size zs := (hx6.far (Nat.ne_of_lt (Nat.lt_succ_self _)) _).far (Nat.ne_of_lt (Nat.lt_succ_self _)) _
                          clear hb6 hktk hxsk hbk hw2 hr2 ht6 hx6 hb56
                          have hbk := hbZ
                          have hxsk := hxZ
                          clear hbZ hxZ
                          by_cases hWL : W < L + S1
                          · have hg39 : decide ((W : Int) < (L : Int) + ((SZ : Int) - 14)) = true := by simp; omega
                            have hbwZ := hbl2.trans ((hx5.trans (hbk.mono hx5.size)).mono hbl2.size)
                            have hR9 := HRR.out
                            rw [HST.out, pu_wide (by simp only; rw [HT0.out]; decide) (by simp only; rw [HT1.out]) (by simp only; rw [HSE.out, ← HS1.out]; omega) (by simp only; rw [HSE.out, HLE.out, ← HS1.out]; exact hWL)] at hR9
                            simp only at hR9
                            have HR9 := Lib.hid hR9
                            clear hR9
                            go_wp2
                            go_returns
                            rw [HR9.out]
                            exact ⟨_, rfl, OwnR.nil _ _ _ _, hbwZ⟩

                          · have hg39 : decide ((W : Int) < (L : Int) + ((SZ : Int) - 14)) = false := by simp; omega
                            have hsh := shape2 (W := W) (B := B) (u := ⟨a, (L0, S0), bef⟩) hBb (by simp only; rw [HT0.out]; decide) (by simp only; rw [HT1.out]) (by simp only; rw [HSE.out, ← HS1.out]; omega) (by simp only; rw [HSE.out, HLE.out, ← HS1.out]; exact hWL)
                            simp only at hsh
                            rw [HSE.out, HLE.out, ← HS1.out] at hsh
                            obtain ⟨X, hX0⟩ : ∃ X, X = takeW B (a + 14) S1 * 2 ^ (W - L - S1) := ⟨_, rfl⟩
                            rw [← hX0, show 14 + S1 = SZ by omega] at hsh
                            have HX := Lib.hid hX0
                            have hLW : ¬ W = L := by omega
                            clear hX0
                            have hbits : ((B.drop (a + 14)).take (S1)).length = S1 := by rw [List.length_take, List.length_drop]; omega
                            have hrb := (hrq.sub (a + 14) (S1) (by omega)).below (hx5.trans (hbk.mono hx5.size))
                            have hcs : (ints .u8 ((B.drop (a + 14)).take (S1))).length = S1 := by rw [ints_length, hbits]
                            obtain ⟨bitl, hbe⟩ : ∃ bitl, bitl = (B.drop (a + 14)).take (S1) := ⟨_, rfl⟩
                            rw [← hbe] at hbits hrb hcs
                            have hbB : Bs bitl := by rw [hbe]; exact (hBb.drop _).take _
                            have hbv : wv bitl = takeW B (a + 14) (S1) := by rw [hbe]; rfl
                            have HBV := Lib.hid hbv
                            have HBI := Lib.hid hbits
                            have HCS := Lib.hid hcs
                            clear hbe hbv hbits hcs

                            go_wp2_with (first
                              | ((with_reducible (show wpList _ _ _ (⟨some 149, _, _, _, _, _⟩ :: _) _ _))
                                 focus   (refine wpList_copy_splice (o := ⟨some 149, _, _, _, _, _⟩) rfl (.tmp 147) (.tmp 148) 53 53 rfl 5 (by kernel_rfl) (by kernel_rfl) ?dpz ?spz ?dlz ?dcz ?slz ?scz ?h1z ?h2z w5.heap.size L (ints .u8 zs) 5 ?c1z (ints .u8 bitl) ?c2z ?c3z ?c4z ?c5z w5.heap.size w5 hbk (Nat.le_refl _) (fun wc HG hbc => ?_)
                                          case h1z => rfl
                                          case h2z => rfl
                                          case c1z => exact hxsk
                                          case c2z => rw [HCS.out]; simp only [Nat.min_def]; split <;> omega
                                          case c3z =>
                                            intro hp
                                            first
                                              | exact ⟨rfl, _, rfl, src_cells hrb⟩
                                              | (rw [Nat.add_assoc off7 a 14]; exact ⟨rfl, _, rfl, src_cells hrb⟩)
                                              | (rw [if_neg (by omega), Nat.add_assoc off7 a 14]; exact ⟨rfl, _, rfl, src_cells hrb⟩)
                                          case c4z => rw [HCS.out, ints_length, hzl]; omega
                                          case c5z => exact one_cells _ _
                                          obtain ⟨xs, hxe⟩ : ∃ xs, xs = List.replicate L 0 ++ bitl ++ List.replicate (W - L - S1) 0 := ⟨_, rfl⟩
                                          have hxs : RowK wc 5 .u8 w5.heap.size xs := by
                                            have := HG.out
                                            rw [splice_zeros HZE.out HBI.out (by omega), ← hxe] at this
                                            exact this
                                          have hxl : xs.length = W := by rw [hxe]; simp only [List.length_append, List.length_replicate, HBI.out]; omega
                                          have hXb : Bs xs := by
                                            rw [hxe]
                                            exact (bs_rep.append hbB).append bs_rep
                                          have hxv : wv xs = X := by
                                            rw [hxe, wv_laid _ _ _ _ HBI.out (by omega), HBV.out]
                                            have := HX.out; rw [this]
                                          have hkt := hkt5.below hbc hkt5.lt
                                          have howt := how5.below hbc (Nat.le_refl _)
                                          have hbt := hx5.trans (hbc.mono hx5.size)
                                          have kt0 : wc.cell? ⟨wq.heap.size, 0, none⟩ = some (.int .i64 (L0 : Int)) := hkt.cell 0
                                          have kt1 : wc.cell? ⟨wq.heap.size, 1, none⟩ = some (.int .i64 (S0 : Int)) := hkt.cell 1
                                          clear hxe HG hbc hbk hxsk  hrb hkt5 how5 hx5 t0 t1 f0 f1)))
                            all_goals (
                              obtain ⟨gx, hgxe⟩ : ∃ gx, gx = w5.heap.size := ⟨_, rfl⟩
                              rw [← hgxe] at hxs ⊢
                              have hgx : wq.heap.size < gx := by omega
                              clear hgxe
                              have hpf := pu_full hW64 hBb hwin (show a ≤ B.length by omega) hbf hsh
                              simp only at hpf
                              have hXl := hsh.1
                              have hp3 := fun w1 hr => ref_piece (some ⟨gx, 0, none⟩) xs W W hxl.symm (Nat.le_refl _) hXb (by rw [hxl]; exact hW64) (L0, S0) (by rw [hxl]; exact hwin) w1 hr
                              rw [hxl, hxv] at hp3
                              have hwo := fun w1 hr => ref_worth (some ⟨gx, 0, none⟩) xs W W hxl.symm hXb (by rw [hxl]; exact hW64) w1 hr
                              rw [hxv] at hwo
                              have hwinp := win_piece hW64 hXl hwin
                              have hpl1 := (piece_len hW64 hXl hwin).1
                              have hbsp := bs_piece W X (L0, S0)
                              generalize pieceS W X (L0, S0) = ps at hp3 hpf hwinp hpl1 hbsp
                              obtain ⟨pb, pw⟩ := ps
                              simp only at hp3 hpf hwinp hpl1 hbsp
                              have hrs := (hrq.below hbt).sub a (SZ) (by omega)
                              have hrl : ((B.drop a).take (SZ)).length = SZ := by rw [List.length_take, List.length_drop]; omega
                              have hbtt : Bts ((B.drop a).take (SZ)) := fun x hx => Nat.lt_trans ((hBb.drop a).take (SZ) x hx) (by decide)
                              have hbtp : Bts pb := fun x hx => Nat.lt_trans (hbsp x hx) (by decide)
                              have hsm := fun A8 n2 c1 c2 (h : n2 = SZ) w1 hr1 hr2 => ref_same A8 (some ⟨b7, off7 + a, none⟩) pb ((B.drop a).take (SZ)) pb.length n2 c1 c2 rfl (by rw [hrl]; exact h) hpl1 (by rw [hrl]; omega) hbtp hbtt w1 hr1 hr2
                              have hxz := hxs.lt
                              have hqg : wq.heap.size < gx := hgx
                              clear hbtt hbtp hbsp hpl1 hrl
                              refine (hp3 _ hxs.rd).mono ?_
                              rintro r w7 ⟨v7, rfl, hown7, hb7⟩
                              obtain ⟨A8, c8, rfl, _⟩ := hown7.cap
                              have hkt7 := hkt.below hb7 hkt.lt
                              have hxs7 := hxs.below hb7 hxs.lt
                              have how7 := howt.below hb7 (Nat.le_refl _)
                              have hbt7 := hbt.trans (hb7.mono hbt.size)
                              have hrs7 := hrs.below hb7
                              have hrp7 := hown7.rdK
                              have z7 := hb7.size
                              clear hb7 hown7 hkt hxs howt hbt hrs hp3
                              by_cases heq : pb = (B.drop a).take (SZ)
                              · rw [if_pos heq] at hpf
                                have hsm1 := hsm A8
                                rw [decide_eq_true heq] at hsm1
                                have HPF := Lib.hid hpf
                                clear hpf heq hsm
                                go_wp2_with fail
                                have eS : Blk (w7.alloc (.cells #[.int .i64 (pw.1 : Int), .int .i64 (pw.2 : Int)] 77)) w7.heap.size 77 #[.int .i64 (pw.1 : Int), .int .i64 (pw.2 : Int)] := Blk.new _ _ _
                                have hkS := hkt7.alloc (.cells #[.int .i64 (pw.1 : Int), .int .i64 (pw.2 : Int)] 77)
                                have hxS := hxs7.alloc (.cells #[.int .i64 (pw.1 : Int), .int .i64 (pw.2 : Int)] 77)
                                have howS := how7.alloc (.cells #[.int .i64 (pw.1 : Int), .int .i64 (pw.2 : Int)] 77)
                                have hba : Below w7.heap.size w7 (w7.alloc (.cells #[.int .i64 (pw.1 : Int), .int .i64 (pw.2 : Int)] 77)) := (Below.refl _ _).alloc (Nat.le_refl _) _
                                have hrsS := hrs7.below hba
                                have hrpS := hrp7.below hba
                                have hbtS := hbt7.trans (hba.mono hbt7.size)
                                have zS := hba.size
                                generalize w7.alloc (.cells #[.int .i64 (pw.1 : Int), .int .i64 (pw.2 : Int)] 77) = wS at *
                                clear hkt7 hxs7 how7 hrs7 hrp7 hba hbt7
                                refine (hsm1 _ _ _ (by omega) wS hrpS hrsS).mono ?_
                                rintro r w9 ⟨rfl, hb9⟩
                                have e9 := eS.below hb9 eS.lt
                                have hk9 := hkS.below hb9 hkS.lt
                                have hx9 := hxS.below hb9 hxS.lt
                                have how9 := howS.below hb9 (Nat.le_refl _)
                                have hbt9 := hbtS.trans (hb9.mono hbtS.size)
                                have z9 := hb9.size
                                have p0 : w9.cell? ⟨w7.heap.size, 0, none⟩ = some (.int .i64 (pw.1 : Int)) := e9.cell 0
                                have p1 : w9.cell? ⟨w7.heap.size, 1, none⟩ = some (.int .i64 (pw.2 : Int)) := e9.cell 1
                                have q0 := hk9.frozen 0
                                have q1 := hk9.frozen 1
                                have q2 := hk9.cell 0
                                have q3 := hk9.cell 1
                                have q4 := hk9.lt
                                clear eS hkS hxS howS hb9 hrsS hrpS hbtS hsm1
                                have hszr : SZ ≤ Rn := by have := hsh.2.1; simp only at this; omega
                                have hBXl := xor_lt hbf hXl
                                have hpow : 2 ^ W ≤ 18446744073709551616 := Nat.pow_le_pow_right (n := 2) (j := 64) (by decide) hW64
                                have hbit : bits BinOp.xor IntKind.u64 (bef : Int) (X : Int) = ((bef ^^^ X : Nat) : Int) := u64_xor_nat _ _ (by omega) (by omega)
                                obtain ⟨BX, hBX⟩ : ∃ BX, BX = bef ^^^ X := ⟨_, rfl⟩
                                have HPF2 := HPF.out
                                rw [← hBX] at hBXl hbit HPF2
                                have HP := Lib.hid HPF2
                                have hol2 : out.length ≤ 65536 := by omega
                                clear hBX HPF2 HPF hpow
                                go_wp2_with fail
                                have hkA : Blk ((w9.setCell ⟨wq.heap.size, 0, none⟩ (.int .i64 (pw.1 : Int))).setCell ⟨wq.heap.size, 1, none⟩ (.int .i64 (pw.2 : Int))) wq.heap.size 77 #[.int .i64 (pw.1 : Int), .int .i64 (pw.2 : Int)] := (hk9.set_ 0 (.int .i64 (pw.1 : Int))).set_ 1 (.int .i64 (pw.2 : Int))
                                have hxA : RowK ((w9.setCell ⟨wq.heap.size, 0, none⟩ (.int .i64 (pw.1 : Int))).setCell ⟨wq.heap.size, 1, none⟩ (.int .i64 (pw.2 : Int))) 5 .u8 gx xs := (hx9.far (Nat.ne_of_gt hqg) _).far (Nat.ne_of_gt hqg) _
                                have howA := how9.same (w' := (w9.setCell ⟨wq.heap.size, 0, none⟩ (.int .i64 (pw.1 : Int))).setCell ⟨wq.heap.size, 1, none⟩ (.int .i64 (pw.2 : Int))) (fun g hg => by
                                  have := (how9.lt g hg).1
                                  rw [Below.heap_setCell _ _ _ g (show g ≠ wq.heap.size by omega), Below.heap_setCell _ _ _ g (show g ≠ wq.heap.size by omega)])
                                have hbtA : Below wq.heap.size wq ((w9.setCell ⟨wq.heap.size, 0, none⟩ (.int .i64 (pw.1 : Int))).setCell ⟨wq.heap.size, 1, none⟩ (.int .i64 (pw.2 : Int))) := (hbt9.setCell (Nat.le_refl _) _).setCell (Nat.le_refl _) _
                                generalize (w9.setCell ⟨wq.heap.size, 0, none⟩ (.int .i64 (pw.1 : Int))).setCell ⟨wq.heap.size, 1, none⟩ (.int .i64 (pw.2 : Int)) = w10 at *
                                clear e9 hk9 hx9 how9 hbt9 z9 p0 p1 q0 q1 q2 q3 q4
                                refine (hwo w10 hxA.rd).mono ?_
                                rintro r w11 ⟨rfl, hb11⟩
                                have hk11 := (hkA.below hb11 hkA.lt).alloc (.cells #[.int .u64 (BX : Int)] 34)
                                have how11 := howA.below hb11 (Nat.le_refl _)
                                have hbt11 := hbtA.trans (hb11.mono hbtA.size)
                                have z11 := (hkA.below hb11 hkA.lt).lt
                                clear hkA hxA howA hbtA hb11 hwo
                                go_wp2_with (first
                                  | (at_builtin
                                     refine wpList_app elem64 rfl _ _ rfl (how11.alloc _) rfl ⟨_, 0, none⟩ rfl BX ?c1 ?c2 ?c3 (fun v12 w12 hown12 hgr12 hb12 => ?_)
                                     case c1 => simp [go_sem]
                                     case c2 => omega
                                     case c3 => simp only [World.size_alloc]; omega
                                     have hk12 := hk11.below hb12 (Nat.lt_succ_self _)
                                     have hbt12 := (hbt11.alloc hbt11.size _).trans (hb12.mono (Nat.le_succ _))
                                     have z12 := hk12.lt
                                     clear hk11 how11 hbt11 hgr12 hb12))
                                go_roundw
                                case rel =>
                                  refine ⟨i + 1, ⟨a + (SZ), pw, BX⟩, out ++ [BX], hi1, vi (by simp only; omega), rfl, vi (by omega), hown12, hk12, hbt12, z12, hwinp, by simp only; omega, hBXl, by simp; omega, ?_⟩
                                  have := HST.out
                                  rw [HP.out] at this
                                  exact this.symm
                                case measure => first | (simp [intOf]; done) | (simp [intOf]; omega)
                              · rw [if_neg heq] at hpf
                                have hsm1 := hsm A8
                                rw [decide_eq_false heq] at hsm1
                                have hR9 := HRR.out
                                rw [HST.out, hpf] at hR9
                                simp only at hR9
                                have HR9 := Lib.hid hR9
                                clear hpf heq hsm hR9
                                go_wp2_with fail
                                have hba : Below w7.heap.size w7 (w7.alloc (.cells #[.int .i64 (pw.1 : Int), .int .i64 (pw.2 : Int)] 77)) := (Below.refl _ _).alloc (Nat.le_refl _) _
                                have hrsS := hrs7.below hba
                                have hrpS := hrp7.below hba
                                have hbtS := hbt7.trans (hba.mono hbt7.size)
                                refine (hsm1 _ _ _ (by omega) _ hrpS hrsS).mono ?_
                                rintro r w9 ⟨rfl, hb9⟩
                                have hbt9 := hbl2.trans ((hbtS.trans (hb9.mono hbtS.size)).mono hbl2.size)
                                clear hrsS hrpS hbtS hsm1 hba
                                go_wp2
                                go_returns
                                rw [HR9.out]
                                exact ⟨_, rfl, OwnR.nil _ _ _ _, hbt9⟩)
            · obtain rfl : i = cnt := by omega
              have hg9 : decide (((i : Nat) : Int) < ((i : Nat) : Int)) = false := by simp
              have hU2 : U0 = some (.inr (⟨a, (L0, S0), bef⟩, out)) := by rw [← hun, Nat.sub_self]; rfl
              have hR9 := HRR.out
              rw [hU2] at hR9
              simp only at hR9
              have hro := rest_ok hBb (n := s.length) (at_ := a) (hBl.trans HN8.out) (by omega)
              rw [← HN8.out] at hro
              obtain ⟨M, hM⟩ : ∃ M, M = (a + 7) / 8 * 8 := ⟨_, rfl⟩
              rw [← hM] at hro
              have hMi : ((a : Int) + 7) / 8 * 8 = (M : Int) := by omega
              have hMb : M ≤ 200000 := by omega
              have HM := Lib.hid hM
              have HRO := Lib.hid hro
              have HR9 := Lib.hid hR9
              clear hM hro hR9 hU2 hun
              have hrw := hrq.below hbx
              have HMI := Lib.hid hMi
              clear hMi
              go_wp2
              go_loopw [22] (fun v22 wx => ∃ j : Nat, a ≤ j ∧ j ≤ N8 ∧ v22 = .int .i64 (j : Int) ∧ Clean B a M j ∧ wx = wr) (fun v22 _ => N8 - (intOf v22).toNat)
              case atStart => exact ⟨a, Nat.le_refl _, ha, rfl, fun k h1 h2 => by omega, rfl⟩
              case round =>
                obtain ⟨j, hj0, hj1, rfl, hcl, rfl⟩ := hrel
                by_cases hj2 : j < N8
                · obtain ⟨b7, off7, rfl, hc7⟩ := hrw (by omega)
                  have y0 := hc7 j (by omega)
                  have hb0 := hBb.nth j
                  have hgj : decide (((j : Nat) : Int) < (N8 : Int)) = true := by simp; omega
                  obtain ⟨x0, hx0⟩ : ∃ x0, x0 = nth B j := ⟨_, rfl⟩
                  rw [← hx0] at y0 hb0
                  have HX0 := Lib.hid hx0
                  clear hx0 hc7
                  rcases (show x0 = 0 ∨ x0 = 1 by omega) with rfl | rfl
                  · by_cases hMj : M ≤ j
                    · have hgM : decide ((M : Int) ≤ (j : Int)) = true := by simp; omega
                      have hR8 : R = ([], ((a / 8 : Nat) : Int), 270) := by rw [HR9.out, if_pos (HRO.out.2 ⟨j, hj0, by omega, .inr hMj⟩)]
                      have HR8 := Lib.hid hR8
                      have hMi := HMI.out
                      clear hR8
                      go_wp2
                      go_returns
                      rw [HR8.out]
                      exact ⟨_, rfl, OwnR.nil _ _ _ _, hbw⟩
                    · have hgM : decide ((M : Int) ≤ (j : Int)) = false := by simp; omega
                      have hMi := HMI.out
                      go_wp2
                      go_roundw
                      case rel =>
                        refine ⟨j + 1, by omega, hj2, vi (by omega), fun k h1 h2 => ?_, by simp⟩
                        rcases Nat.lt_or_ge k j with g | g
                        · exact hcl k h1 g
                        · obtain rfl : k = j := by omega
                          exact ⟨HX0.out.symm, by omega⟩
                      case measure => first | (simp [intOf]; done) | (simp [intOf]; omega)
                  · have hR8 : R = ([], ((a / 8 : Nat) : Int), 270) := by rw [HR9.out, if_pos (HRO.out.2 ⟨j, hj0, by omega, .inl (by rw [← HX0.out]; decide)⟩)]
                    have HR8 := Lib.hid hR8
                    clear hR8
                    go_wp2
                    go_returns
                    rw [HR8.out]
                    exact ⟨_, rfl, OwnR.nil _ _ _ _, hbw⟩
                · obtain rfl : j = N8 := by omega
                  have hgj : decide (((j : Nat) : Int) < ((j : Nat) : Int)) = false := by simp
                  have hR8 : R = (out, 0, 0) := by
                    rw [HR9.out, if_neg]
                    intro h
                    obtain ⟨k, k1, k2, k3⟩ := HRO.out.1 h
                    have := hcl k k1 (by omega)
                    rcases k3 with k3 | k3
                    · exact k3 this.1
                    · omega
                  have HR8 := Lib.hid hR8
                  have hownB := hown.base (B' := w.heap.size) (by have := hbl2.size; omega)
                  clear hR8
                  go_wp2
                  go_returns
                  rw [HR8.out]
                  exact ⟨_, rfl, hownB, hbw⟩

theorem ref_Unpack (e f : Int) (s : List Nat) (hb : Bts s) (w : World) (hl : s.length ≤ 20000 ∨ 1048576 < s.length) :
    Calls Tryd.prog 25 #[.agg #[.int .i64 e, .int .i64 f], .string (bstr s)] w (UnpAns w (unpS e f s)) := by
  by_cases hc : chkF e f = 0
  · rcases hl with hl | hl
    · have hh : 2 ≤ e ∧ e ≤ 11 ∧ 1 ≤ f ∧ f ≤ 52 := by
        unfold chkF at hc
        split at hc
        · omega
        · omega
      obtain ⟨E, rfl⟩ := Int.eq_ofNat_of_zero_le (show 0 ≤ e by omega)
      obtain ⟨F, rfl⟩ := Int.eq_ofNat_of_zero_le (show 0 ≤ f by omega)
      exact ref_unpack_main E F (by omega) (by omega) (by omega) (by omega) s hb w hl
    · exact ref_unpack_long e f s hb w hc hl
  · exact ref_unpack_form e f s hb w hc
end Go.Proofs.YtefhannaofknnaaDoor
