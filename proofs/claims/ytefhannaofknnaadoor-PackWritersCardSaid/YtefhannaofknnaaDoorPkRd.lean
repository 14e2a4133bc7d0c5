/- Walks of the document's pack: Bits. -/
import Derived.Test.YtefhannaofknnaaDoorPkRc
namespace Go.Proofs.YtefhannaofknnaaDoor
open Go.RowKit
set_option linter.unusedVariables false
set_option linter.unusedSimpArgs false
set_option maxHeartbeats 4000000
set_option maxRecDepth 100000

theorem ref_Bits (E F : Nat) (hE1 : 2 ≤ E) (hE2 : E ≤ 11) (hF1 : 1 ≤ F) (hF2 : F ≤ 52) (A : Option Addr) (l : List Nat) (n c : Nat) (hn : n = l.length) (w : World) (hl : l.length ≤ 65536) (hfit : ∀ v ∈ l, v < 2 ^ (1 + E + F)) (hrd : RdK .u64 w A l) :
    Calls Tryd.prog 44 #[.agg #[.int .i64 (E : Int), .int .i64 (F : Int)], .slice A n c] w (BitsAns w (packB (1 + E + F) l)) := by
  subst hn
  obtain ⟨W, hWe⟩ : ∃ W, W = 1 + E + F := ⟨_, rfl⟩
  rw [← hWe] at hfit ⊢
  have hW64 : W ≤ 64 := by omega
  have hwd := fun w1 => ref_width (E : Int) (F : Int) W (by omega) (by omega) (by omega) w1
  have hnum := fun w1 => ref_number l.length 17 (by omega) (by decide) (l.length : Int) 17 rfl rfl w1
  have hpow : 2 ^ W ≤ 18446744073709551616 := Nat.pow_le_pow_right (n := 2) (j := 64) (by decide) hW64
  have hu : IntKind.u64.wrap ((l.length : Nat) : Int) = ((l.length : Nat) : Int) := by rw [IntKind.wrap_u64]; omega
  have HW := Lib.hid hWe
  clear hWe
  go_enter Tryd.func44, Tryd.ntmps44
  go_wp2_with fail
  have hb0 : Below w.heap.size w (w.alloc (.cells #[.int .i64 (E : Int), .int .i64 (F : Int)] 23)) := (Below.refl w.heap.size w).alloc (Nat.le_refl _) _
  refine (hnum _).mono ?_
  rintro r w1 ⟨v1, rfl, hown, hb1⟩
  have hb01 := hb0.trans (hb1.mono (by simp))
  have hz1 : w.heap.size < w1.heap.size := by have := hb1.size; simp at this; omega
  have f0 : w1.cell? ⟨w.heap.size, 0, none⟩ = some (.int .i64 (E : Int)) := by rw [hb1.cell (by simp)]; simp
  have f1 : w1.cell? ⟨w.heap.size, 1, none⟩ = some (.int .i64 (F : Int)) := by rw [hb1.cell (by simp)]; simp
  have hown1 : OwnR (w1.alloc (.cells #[.int .i64 0, .int .i64 0] 77)) (w.heap.size + 1) 5 .u8 v1 (nb l.length 17 ++ (wst W (l.take 0)).bs) := by
    have h := hown.alloc (.cells #[.int .i64 0, .int .i64 0] 77)
    simp only [World.size_alloc] at h
    rw [List.take_zero, show (wst W []).bs = [] from rfl, List.append_nil]
    exact h
  have hk1 : Blk (w1.alloc (.cells #[.int .i64 0, .int .i64 0] 77)) w1.heap.size 77 #[.int .i64 (((wst W (l.take 0)).w.1 : Nat) : Int), .int .i64 (((wst W (l.take 0)).w.2 : Nat) : Int)] := Blk.new _ _ _
  have hb02 : Below w.heap.size w (w1.alloc (.cells #[.int .i64 0, .int .i64 0] 77)) := hb01.alloc hb01.size _
  have g0 : (w1.alloc (.cells #[.int .i64 0, .int .i64 0] 77)).cell? ⟨w.heap.size, 0, none⟩ = some (.int .i64 (E : Int)) := by rw [World.cell?_alloc_lt _ _ _ hz1]; exact f0
  have g1 : (w1.alloc (.cells #[.int .i64 0, .int .i64 0] 77)).cell? ⟨w.heap.size, 1, none⟩ = some (.int .i64 (F : Int)) := by rw [World.cell?_alloc_lt _ _ _ hz1]; exact f1
  obtain ⟨Q, hQ⟩ : ∃ Q, Q = w1.heap.size := ⟨_, rfl⟩
  have hQw : w.heap.size < Q := by omega
  rw [← hQ] at hk1
  have HQ := Lib.hid hQ
  have hbf0 : (wst W (l.take 0)).before = 0 := rfl
  clear hown hb1 hb0 hb01 f0 f1
  go_wp2_with fail
  rw [← hQ]
  clear hQ hz1
  go_loopw [5, 6, 8] (fun v5 v6 v8 wr => ∃ i : Nat, i ≤ l.length ∧ v6 = .int .u64 (((wst W (l.take i)).before : Nat) : Int) ∧ v8 = .int .i64 (i : Int) ∧ OwnR wr (w.heap.size + 1) 5 .u8 v5 (nb l.length 17 ++ (wst W (l.take i)).bs) ∧
    Blk wr Q 77 #[.int .i64 (((wst W (l.take i)).w.1 : Nat) : Int), .int .i64 (((wst W (l.take i)).w.2 : Nat) : Int)] ∧ Below w.heap.size w wr ∧ wr.cell? ⟨w.heap.size, 0, none⟩ = some (.int .i64 (E : Int)) ∧ wr.cell? ⟨w.heap.size, 1, none⟩ = some (.int .i64 (F : Int))) (fun _ _ v8 _ => l.length - (intOf v8).toNat)
  case atStart => exact ⟨0, Nat.zero_le _, by rw [hbf0]; rfl, rfl, hown1, hk1, hb02, g0, g1⟩
  case round =>
    clear hown1 hk1 hb02 g0 g1 hbf0
    obtain ⟨i, hi, rfl, rfl, hown, hk, hbl, f0, f1⟩ := hrel
    obtain ⟨hwin, hbef, hbs1, hbs2⟩ := wst_ok hW64 (l.take i) (fun v hv => hfit v (List.mem_of_mem_take hv))
    have hti : (l.take i).length = i := by rw [List.length_take]; omega
    rw [hti] at hbs1 hbs2
    have hbs3 : i * (14 + W) ≤ 65536 * 78 := Nat.mul_le_mul (by omega) (by omega)
    by_cases hi1 : i < l.length
    · obtain ⟨b0, off, rfl, hcellw⟩ := hrd (by omega)
      have hb0l := cell_lt (hcellw i hi1)
      have hx := cell_keep hbl (hcellw i hi1)
      have hne1 : Q ≠ w.heap.size := by omega
      have hne2 : w.heap.size ≠ Q := by omega
      have hne3 : Q ≠ b0 := by have : b0 < w.heap.size := hb0l; omega
      have hne4 : b0 ≠ Q := fun h => hne3 h.symm
      have hvf : nth l i < 2 ^ W := by rw [nth_lt _ hi1]; exact hfit _ (List.getElem_mem hi1)
      have hsn := wst_snoc W (l.take i) (nth l i)
      rw [← take_snoc l i hi1] at hsn
      obtain ⟨b, hb⟩ : ∃ b, b = nth l i := ⟨_, rfl⟩
      rw [← hb] at hx hvf hsn
      obtain ⟨st, hst⟩ : ∃ st, st = wst W (l.take i) := ⟨_, rfl⟩
      rw [← hst] at hwin hbef hbs1 hbs2 hown hk hsn ⊢
      obtain ⟨sbs, sbef, swd⟩ := st
      simp only at hwin hbef hbs1 hbs2 hown hk
      unfold Wst.step at hsn
      simp only at hsn
      obtain ⟨X, hX⟩ : ∃ X, X = sbef ^^^ b := ⟨_, rfl⟩
      have hXl : X < 2 ^ W := by rw [hX]; exact xor_lt hbef hvf
      have hxor : bits BinOp.xor IntKind.u64 (b : Int) (sbef : Int) = (X : Int) := by
        rw [u64_xor_nat _ _ (by omega) (by omega), hX, Nat.xor_comm]
      rw [← hX] at hsn
      have hn2 := fun w1 => ref_number X W (by omega) hW64 (X : Int) (W : Int) rfl rfl w1
      have hwv : wv (nb X W) = X := by rw [wv_nb, Nat.mod_eq_of_lt hXl]
      have hp3 := fun A c hcap w1 hr => ref_piece A (nb X W) W c (nb_length _ _).symm hcap (bs_nb _ _) (by rw [nb_length]; exact hW64) swd (by rw [nb_length]; exact hwin) w1 hr
      rw [nb_length, hwv] at hp3
      obtain ⟨hpl1, hpl2⟩ := piece_len hW64 hXl hwin
      generalize pieceS W X swd = ps at hp3 hsn hpl2
      obtain ⟨pb, pw⟩ := ps
      simp only at hp3 hsn hpl2
      have HS := Lib.hid hsn
      have hg9 : decide (((i : Nat) : Int) < ((l.length : Nat) : Int)) = true := by simp; omega
      have hkl := hk.lt
      have k0 : wr.cell? ⟨Q, 0, none⟩ = some (.int .i64 ((swd.1 : Nat) : Int)) := hk.cell 0
      have k1 : wr.cell? ⟨Q, 1, none⟩ = some (.int .i64 ((swd.2 : Nat) : Int)) := hk.cell 1
      have hnl : (nb X W).length = W := nb_length _ _
      have HNL := Lib.hid hnl
      clear hsn hX hwv hst hcellw hb hnl hpl1
      go_wp2
      go_region_with (first
        | (go_at_call 47; (with_reducible refine (hwd _).mono ?_); rintro r w5 ⟨rfl, hb5⟩; have hx5 : Below wr.heap.size wr w5 := (Below.drew (Below.refl _ _)).trans hb5; have f05 := cell_keep hx5 f0; have f15 := cell_keep hx5 f1; have x05 := cell_keep hx5 hx; have k05 := cell_keep hx5 k0; have k15 := cell_keep hx5 k1)
        | (go_at_call 46; (with_reducible refine (hn2 _).mono ?_); rintro r w6 ⟨v6, rfl, hown6, hb6⟩; obtain ⟨A6, c6, rfl, hcap6⟩ := hown6.cap; rw [HNL.out] at hcap6; rw [HNL.out]; have hx6 := hx5.trans (hb6.mono hx5.size); have k06 := cell_keep hx6 k0; have k16 := cell_keep hx6 k1)
        | (go_at_call 48; (with_reducible refine (hp3 _ _ hcap6 _ hown6.rdK).mono ?_); rintro r w7 ⟨v7, rfl, hown7, hb7⟩; have hx7 := hx6.trans (hb7.mono hx6.size); have e07 := And.intro (cell_keep hx7 f0) (And.intro (cell_keep hx7 f1) (cell_keep hx7 hx)); have hk7 := hk.below hx7 hkl; have q0 := hk7.frozen 0; have q1 := hk7.frozen 1; have q2 := hk7.cell 0; have q3 := hk7.cell 1; have q4 := hk7.lt))
      all_goals (
        obtain ⟨A7, c7, rfl, _⟩ := hown7.cap
        have hwl7 := hbl.size
        have hsz6 := hx6.size
        have hk8 : Blk ((w7.setCell ⟨Q, 0, none⟩ (.int .i64 (pw.1 : Int))).setCell ⟨Q, 1, none⟩ (.int .i64 (pw.2 : Int))) Q 77 #[.int .i64 (pw.1 : Int), .int .i64 (pw.2 : Int)] := (hk7.set_ 0 (.int .i64 (pw.1 : Int))).set_ 1 (.int .i64 (pw.2 : Int))
        have hb7w := hbl.trans (hx7.mono hbl.size)
        have hb8 : Below w.heap.size w ((w7.setCell ⟨Q, 0, none⟩ (.int .i64 (pw.1 : Int))).setCell ⟨Q, 1, none⟩ (.int .i64 (pw.2 : Int))) := (hb7w.setCell (Nat.le_of_lt hQw) _).setCell (Nat.le_of_lt hQw) _
        have hne7 := (hown.below hx7 (Nat.le_refl _)).ne hk7 (by decide)
        have hown8 : OwnR ((w7.setCell ⟨Q, 0, none⟩ (.int .i64 (pw.1 : Int))).setCell ⟨Q, 1, none⟩ (.int .i64 (pw.2 : Int))) (w.heap.size + 1) 5 .u8 _ (nb l.length 17 ++ sbs) := (hown.below hx7 (Nat.le_refl _)).same (fun g hg => by
          have := hne7 g hg
          rw [Below.heap_setCell _ _ _ g this, Below.heap_setCell _ _ _ g this])
        have hown78 : OwnR ((w7.setCell ⟨Q, 0, none⟩ (.int .i64 (pw.1 : Int))).setCell ⟨Q, 1, none⟩ (.int .i64 (pw.2 : Int))) w6.heap.size 5 .u8 (.slice A7 pb.length c7) pb := hown7.same (fun g hg => by
          have := (hown7.lt g hg).1
          rw [Below.heap_setCell _ _ _ g (show g ≠ Q by omega), Below.heap_setCell _ _ _ g (show g ≠ Q by omega)])
        have m0 : ((w7.setCell ⟨Q, 0, none⟩ (.int .i64 (pw.1 : Int))).setCell ⟨Q, 1, none⟩ (.int .i64 (pw.2 : Int))).cell? ⟨w.heap.size, 0, none⟩ = some (.int .i64 (E : Int)) := (World.cell?_setCell_far _ _ _ _ (by first | exact hne1 | exact hne2 | exact hne3 | exact hne4)).trans ((World.cell?_setCell_far _ _ _ _ (by first | exact hne1 | exact hne2 | exact hne3 | exact hne4)).trans e07.1)
        have m1 : ((w7.setCell ⟨Q, 0, none⟩ (.int .i64 (pw.1 : Int))).setCell ⟨Q, 1, none⟩ (.int .i64 (pw.2 : Int))).cell? ⟨w.heap.size, 1, none⟩ = some (.int .i64 (F : Int)) := (World.cell?_setCell_far _ _ _ _ (by first | exact hne1 | exact hne2 | exact hne3 | exact hne4)).trans ((World.cell?_setCell_far _ _ _ _ (by first | exact hne1 | exact hne2 | exact hne3 | exact hne4)).trans e07.2.1)
        have mx : ((w7.setCell ⟨Q, 0, none⟩ (.int .i64 (pw.1 : Int))).setCell ⟨Q, 1, none⟩ (.int .i64 (pw.2 : Int))).cell? ⟨b0, off + i, none⟩ = some (.int .u64 (b : Int)) := (World.cell?_setCell_far _ _ _ _ (by first | exact hne1 | exact hne2 | exact hne3 | exact hne4)).trans ((World.cell?_setCell_far _ _ _ _ (by first | exact hne1 | exact hne2 | exact hne3 | exact hne4)).trans e07.2.2)
        have hz8 : w.heap.size + 1 ≤ ((w7.setCell ⟨Q, 0, none⟩ (.int .i64 (pw.1 : Int))).setCell ⟨Q, 1, none⟩ (.int .i64 (pw.2 : Int))).heap.size := by have := hb7w.size; have := hk7.lt; simp; omega
        have hne8 := hne7
        generalize ((w7.setCell ⟨Q, 0, none⟩ (.int .i64 (pw.1 : Int))).setCell ⟨Q, 1, none⟩ (.int .i64 (pw.2 : Int))) = w8 at *
        have hrd8 := hown78.rdK
        clear hown7 hown hown6 hk7 q0 q1 q2 q3 q4 e07 hb5 hb6 hb7 hx5 hx6 hx7 hb7w f0 f1 hx hk k0 k1 k05 k15 k06 k16 f05 f15 x05 hown78 hne7
        go_wp2_with (first
          | (at_builtin
             refine wpList_apps elem8 rfl _ _ rfl hown8 rfl A7 pb pb.length c7 rfl rfl hrd8 (.inl (by simp only [List.length_append, nb_length]; omega)) hz8 (fun v9 w9 hown9 hgr9 hb9 => ?_)
             have hk9 := hk8.grown hgr9 (fun e => hne8 Q e.symm rfl)
             have n0 : w9.cell? ⟨w.heap.size, 0, none⟩ = some (.int .i64 (E : Int)) := (hb9.cell (p := ⟨w.heap.size, 0, none⟩) (Nat.lt_succ_self _)).trans m0
             have n1 : w9.cell? ⟨w.heap.size, 1, none⟩ = some (.int .i64 (F : Int)) := (hb9.cell (p := ⟨w.heap.size, 1, none⟩) (Nat.lt_succ_self _)).trans m1
             have nx : w9.cell? ⟨b0, off + i, none⟩ = some (.int .u64 (b : Int)) := (hb9.cell (p := ⟨b0, off + i, none⟩) (Nat.lt_succ_of_lt hb0l)).trans mx
             have hbw9 := hb8.trans (hb9.mono (Nat.le_succ _))
             clear m0 m1 mx hown8 hk8 hrd8 hgr9 hb9 hb8))
        go_roundw
        case rel =>
          refine ⟨i + 1, hi1, by rw [HS.out], vi (by omega), ?_, ?_, hbw9, n0, n1⟩
          · rw [HS.out, ← List.append_assoc]; exact hown9
          · rw [HS.out]; exact hk9
        case measure => first | (simp [intOf]; done) | (simp [intOf]; omega))
    · obtain rfl : i = l.length := by omega
      have hg9 : decide (((l.length : Nat) : Int) < ((l.length : Nat) : Int)) = false := by simp
      rw [List.take_length] at hown
      go_wp2
      go_ret
      refine ⟨_, rfl, ?_, hbl⟩
      have e : packB W l = nb l.length 17 ++ (wst W l).bs := rfl
      rw [e]
      exact hown.base (Nat.le_succ _)
end Go.Proofs.YtefhannaofknnaaDoor
