/- Walk: Put, where it tells a window anew. -/
import Derived.Test.YtefhannaofknnaaDoorPkI
import Derived.IntWalk
namespace Go.Proofs.YtefhannaofknnaaDoor
open Go.RowKit
set_option linter.unusedVariables false
set_option linter.unusedSimpArgs false
set_option maxHeartbeats 4000000
set_option maxRecDepth 100000

theorem put_newX (X : Nat → Prop) (cv : Value) (w : World) (B p E F : Nat) (l : List Nat) (b : Nat) (hb64 : b < 18446744073709551616) (hB : B ≤ w.heap.size) (hE1 : 2 ≤ E) (hE2 : E ≤ 11) (hF1 : 1 ≤ F) (hF2 : F ≤ 52) (hT : Tab w) (hB0 : 0 < B) (hX : ∀ x, X x → x < w.heap.size) (hax : Ap X p cv) (h : WrC w B p E F l cv) (hn : fitE E F b = 0 ∧ l.length < 65536) (hx0 : (wst (1 + E + F) l).before ^^^ b ≠ 0) (hho : ¬ holdsS (1 + E + F) (wst (1 + E + F) l).w ((wst (1 + E + F) l).before ^^^ b)) :
    Calls Tryd.prog 15 #[.pointer (some ⟨p, 0, none⟩), .int .u64 (b : Int)] w fun en w' => en = .returned (.int .i64 0) ∧ ∃ cv', WrC w' B p E F (l ++ [b]) cv' ∧ Kp X B w w' ∧ Ap X p cv' := by
  obtain ⟨hf, hlt⟩ := hn
  obtain ⟨hblk, hown, hBp, hfit, hl⟩ := h
  have hW : 1 + E + F ≤ 64 := by omega
  have hb := (fit_lt ⟨hE1, hE2⟩ ⟨hF1, hF2⟩).1 hf
  obtain ⟨hwin, hbef, _, hbl⟩ := wst_ok hW l hfit
  have hbits := bs_wst (1 + E + F) l
  have hfit2 : ∀ v ∈ l ++ [b], v < 2 ^ (1 + E + F) := by
    intro v hv
    rcases List.mem_append.1 hv with hv | hv
    · exact hfit v hv
    · simp at hv; rw [hv]; exact hb
  have hx := xor_lt hbef hb
  have hstep := wst_snoc (1 + E + F) l b
  have hpow : 2 ^ (1 + E + F) ≤ 2 ^ 64 := Nat.pow_le_pow_right (by decide) hW
  have hbl2 : (wst (1 + E + F) l).bs.length ≤ 65536 * 78 := Nat.le_trans hbl (Nat.mul_le_mul hl (by omega))
  have hbx : bits BinOp.xor IntKind.u64 ((wst (1 + E + F) l).before : Int) (b : Int) = (((wst (1 + E + F) l).before ^^^ b : Nat) : Int) := u64_xor_nat _ _ (by omega) hb64
  obtain ⟨W, hWe⟩ : ∃ W, W = 1 + E + F := ⟨_, rfl⟩
  have HW := Lib.hid hWe
  rw [← hWe] at hblk hown hfit hW hb hwin hbef hbits hfit2 hx hstep hpow hbl2 hbx
  obtain ⟨st, hst⟩ : ∃ st, st = wst W l := ⟨_, rfl⟩
  rw [← hWe, ← hst] at hx0 hho
  rw [← hst] at hblk hown hwin hbef hbits hx hstep hbl2 hbx
  unfold Wst.step at hstep
  obtain ⟨bs, bef, lead, size⟩ := st
  simp only at hown hwin hbef hbits hx hstep hbl2 hbx
  obtain ⟨x, hxe⟩ : ∃ x, x = bef ^^^ b := ⟨_, rfl⟩
  simp only at hx0 hho
  rw [← hxe] at hx hstep hbx hx0 hho
  obtain ⟨n, hne⟩ : ∃ n, n = l.length := ⟨_, rfl⟩
  rw [← hne] at hblk hlt
  have hx64 : x < 18446744073709551616 := by omega
  have c0 := (hblk.cell 0)
  have c1 := (hblk.cell 1)
  have c3 := (hblk.cell 3)
  have c5 := (hblk.cell 5)
  have c8 := (hblk.cell 8)
  simp only [wrCells] at c0 c1 c3 c5 c8
  have hz := hblk.lt
  have HF := Lib.hid hf
  have HP := Lib.hid hpow
  have HST := Lib.hid hstep
  have HFT := Lib.hid hfit2
  have HNE := Lib.hid hne
  have hn0 : (((n : Nat) : Int) == 65536) = false := by rw [beq_eq_false_iff_ne]; omega
  have hbse : bs.length ≤ 65536 * 78 := hbl2
  clear hf hl hbl hbl2 hpow hstep hWe hst hxe hne hfit hfit2
  go_enter Tryd.func15, Tryd.ntmps15
  go_wp2_with fail
  refine (writer_made p 8 _ c3).mono ?_
  rintro r w1 ⟨rfl, hb1⟩
  have d0 := cell_keep hb1 c0
  have d1 := cell_keep hb1 c1
  have d5 := cell_keep hb1 c5
  have d8 := cell_keep hb1 c8
  go_wp2_with fail
  refine (forms_Fits _ _ _ b rfl hb64 _).mono ?_
  rintro r w2 ⟨rfl, hb2⟩
  rw [HF.out]
  have e0 := cell_keep hb2 d0
  have e1 := cell_keep hb2 d1
  have e5 := cell_keep hb2 d5
  have e8 := cell_keep hb2 d8
  have hb02 := hb1.trans (hb2.mono hb1.size)
  have hk2 := hblk.below hb02 hblk.lt
  have ho2 := hown.below hb02 (Nat.le_refl _)
  have ef5 := hk2.frozen 5
  have ef8 := hk2.frozen 8
  have hz2 := hk2.lt
  clear c0 c1 c3 c5 c8 d0 d1 d5 d8 hb1 hb2 hblk hown hz
  go_wp2_with fail
  have hk3 := (hk2.set_ 5 (.int .u64 (b : Int))).set_ 8 (.int .i64 ((n : Int) + 1))
  have ho3 := (ho2.far (p := ⟨p, 5, none⟩) (ho2.apart hk2 (by decide)) (.int .u64 (b : Int))).far (p := ⟨p, 8, none⟩) (ho2.apart hk2 (by decide)) (.int .i64 ((n : Int) + 1))
  have hb3 : Kp X B w ((w2.setCell ⟨p, 5, none⟩ (.int .u64 (b : Int))).setCell ⟨p, 8, none⟩ (.int .i64 ((n : Int) + 1))) := ((Kp.of hB hb02).setCell hBp hax.1 _).setCell hBp hax.1 _
  generalize (w2.setCell ⟨p, 5, none⟩ (.int .u64 (b : Int))).setCell ⟨p, 8, none⟩ (.int .i64 ((n : Int) + 1)) = w3 at *
  have hk3' : Blk w3 p 59 (wrCells E F cv ⟨bs, b, lead, size⟩ (n + 1)) := hk3
  refine (pack_width E F hE2 hF2 _).mono ?_
  rintro r w4 ⟨rfl, hb4⟩
  rw [← HW.out]
  have hk4 := hk3'.below hb4 hk3'.lt
  have ho4 := ho3.below hb4 (Nat.le_refl _)
  have hb04 : Kp X B w w4 := hb3.trans (Kp.of (Nat.le_trans hB hb3.size) hb4)
  clear hk2 ho2 e0 e1 e5 e8 ef5 ef8 hk3 ho3 hb3 hb4 hk3' hb02 hz2
  have hsh : Sht w4 B p 2 59 (wrCells E F cv ⟨bs, b, lead, size⟩ (n + 1)) cv bs := ⟨hk4, rfl, rfl, rfl, ho4, hbits⟩
  have f6 := hk4.cell 6
  have f7 := hk4.cell 7
  simp only [wrCells] at f6 f7
  have hz4 := hk4.lt
  have hs4 := hb04.size
  have hwh := win_holds W lead size x hW hx64 hwin
  rw [decide_eq_false hho] at hwh
  have hx0b : ((x : Int) == 0) = false := by rw [beq_eq_false_iff_ne]; omega
  obtain ⟨t1, t2, t3, t4⟩ := top_bit hx0 hx64
  obtain ⟨t5, t6, t7⟩ := low_bit hx0 hx64
  have t8 := (libBit_le x W hW hx64).2 hx
  have hpc : pieceS W x (lead, size) = ([1, 1] ++ (nb (W - Lib.bitLen x) 6 ++ nb (Lib.bitLen x - Lib.ctz 64 x - 1) 6 ++ nb (x / 2 ^ Lib.ctz 64 x) (Lib.bitLen x - Lib.ctz 64 x)), (W - Lib.bitLen x, Lib.bitLen x - Lib.ctz 64 x)) := by unfold pieceS; rw [if_neg hx0, if_neg hho]
  obtain ⟨m, hm⟩ : ∃ m, m = Lib.bitLen x := ⟨_, rfl⟩
  have HM := Lib.hid hm
  have htz := fun w h => bits_tz x hx64 hx0 w h
  obtain ⟨k, hk⟩ : ∃ k, k = Lib.ctz 64 x := ⟨_, rfl⟩
  rw [← hm] at t1 t2 t5 t8
  rw [← hk] at t5 htz
  rw [← hm, ← hk] at hpc
  obtain ⟨ld, hld⟩ : ∃ ld, ld = W - m := ⟨_, rfl⟩
  obtain ⟨s2, hs2⟩ : ∃ s2, s2 = m - k := ⟨_, rfl⟩
  obtain ⟨s3, hs3⟩ : ∃ s3, s3 = s2 - 1 := ⟨_, rfl⟩
  have hI1 : (W : Int) - (m : Int) = (ld : Int) := by omega
  have hI2 : (W : Int) - (ld : Int) = (m : Int) := by omega
  have hI3 : (m : Int) - (k : Int) = (s2 : Int) := by omega
  have hI4 : (s2 : Int) - 1 = (s3 : Int) := by omega
  have hk64 : k < 64 := by omega
  have hld64 : ld < 64 := by omega
  have hs264 : s2 ≤ 64 := by omega
  have hs364 : s3 < 64 := by omega
  have hY64 : x / 2 ^ k < 18446744073709551616 := Nat.lt_of_le_of_lt (Nat.div_le_self _ _) hx64
  have hYI : (x : Int) / 2 ^ k = ((x / 2 ^ k : Nat) : Int) := by simp
  obtain ⟨Y, hY⟩ : ∃ Y, Y = x / 2 ^ k := ⟨_, rfl⟩
  rw [← hY] at hpc hYI hY64
  rw [← hld, ← hs2, ← hs3] at hpc
  have HPC := Lib.hid hpc
  clear hx0 hho hpc hY hm hk hld hs2 hs3 t2 t3 t4 t6 t7
  go_wp2_with fail
  refine (hwh _).mono ?_
  rintro r w5 ⟨rfl, hb5⟩
  have hs5 := hsh.below hb5
  have hb05 : Kp X B w w5 := hb04.trans (Kp.of (by omega) hb5)
  have hz5 := hb05.size
  clear hsh hb5 hb04 ho4 hk4 f6 f7
  go_wp2_with fail
  refine (len64_n m HM.out hx64 _).mono ?_
  rintro r w6 ⟨rfl, rfl⟩
  go_wp2_with fail
  refine (htz _ (hT.base hb05.1 hB0)).mono ?_
  rintro r w6 ⟨rfl, rfl⟩
  have f6 := hs5.blk.cell 6
  have f7 := hs5.blk.cell 7
  have ff6 := hs5.blk.frozen 6
  have ff7 := hs5.blk.frozen 7
  have fz := hs5.blk.lt
  simp only [wrCells] at f6 f7
  clear hwh htz
  go_wp2_with fail
  have hk7 := (hs5.blk.set_ 6 (.int .i64 (ld : Int))).set_ 7 (.int .i64 (s2 : Int))
  have hap := hs5.own.apart hs5.blk (by decide)
  have ho7 := (hs5.own.far (p := ⟨p, 6, none⟩) hap (.int .i64 (ld : Int))).far (p := ⟨p, 7, none⟩) hap (.int .i64 (s2 : Int))
  have hb07 : Kp X B w ((w6.setCell ⟨p, 6, none⟩ (.int .i64 (ld : Int))).setCell ⟨p, 7, none⟩ (.int .i64 (s2 : Int))) := (hb05.setCell hBp hax.1 _).setCell hBp hax.1 _
  generalize (w6.setCell ⟨p, 6, none⟩ (.int .i64 (ld : Int))).setCell ⟨p, 7, none⟩ (.int .i64 (s2 : Int)) = w7 at *
  have hk7' : Blk w7 p 59 (wrCells E F cv ⟨bs, b, ld, s2⟩ (n + 1)) := hk7
  have hs7 : Sht w7 B p 2 59 (wrCells E F cv ⟨bs, b, ld, s2⟩ (n + 1)) cv bs := ⟨hk7', rfl, rfl, rfl, ho7, hbits⟩
  have hz7 := hb07.size
  clear hk7 ho7 hap hs5 hb05 f6 f7 ff6 ff7 fz hk7'
  refine (sheet_putX X p 2 _ _ cv bs B 3 2 (by decide) (by decide) (by omega) _ (by omega) hBp (by decide) (fun x hx => Nat.lt_of_lt_of_le (hX x hx) (show w.heap.size ≤ _ from (hb07).size)) hax hs7).mono ?_
  rintro r w8 ⟨rfl, cv8, hs8, hb8, ha8⟩
  rw [shtPut_wr (m := bs.length + 2) (bs' := bs ++ nb 3 2) (by simp only [List.length_append, nb_length])] at hs8
  have hb08 := hb07.trans hb8
  have hz8 := hb08.size
  have gl : (bs ++ nb 3 2).length = bs.length + 2 := by simp
  clear hs7 hb8 hb07
  go_wp2_with fail
  refine (sheet_putX X p 2 _ _ cv8 (bs ++ nb 3 2) B ld 6 (by omega) (by decide) (by omega) _ (by omega) hBp (by decide) (fun x hx => Nat.lt_of_lt_of_le (hX x hx) (show w.heap.size ≤ _ from (hb08).size)) ha8 hs8).mono ?_
  rintro r w9 ⟨rfl, cv9, hs9, hb9, ha9⟩
  rw [shtPut_wr (m := (bs ++ nb 3 2).length + 6) (bs' := bs ++ nb 3 2 ++ nb ld 6) (by simp only [List.length_append, nb_length])] at hs9
  have hb09 := hb08.trans hb9
  have hz9 := hb09.size
  have gl9 : (bs ++ nb 3 2 ++ nb ld 6).length = bs.length + 8 := by simp
  have f7 := hs9.blk.cell 7
  have fz := hs9.blk.lt
  simp only [wrCells] at f7
  clear hs8 hb9 hb08 gl
  have hv2 : IntKind.i64.wrap (s3 : Int) = (s3 : Int) := IntWalk.i64_in _ (by omega)
  have hv3 : IntKind.u64.wrap (s3 : Int) = (s3 : Int) := by rw [IntKind.wrap_u64]; omega
  go_wp2_with fail
  go_still_tail 10, (by kernel_rfl)
  change wpList _ _ _ _ _ w9.drew
  have hs9' := hs9.below (Below.refl w9.heap.size w9).drew
  go_wp2_with fail
  refine (sheet_putX X p 2 _ _ cv9 (bs ++ nb 3 2 ++ nb ld 6) B s3 6 (by omega) (by decide) (by omega) _ (by show B ≤ w9.heap.size; omega) hBp (by decide) (fun x hx => Nat.lt_of_lt_of_le (hX x hx) (show w.heap.size ≤ _ from (Kp.drew hb09).size)) ha9 hs9').mono ?_
  rintro r w10 ⟨rfl, cv10, hs10, hb10, ha10⟩
  rw [shtPut_wr (m := (bs ++ nb 3 2 ++ nb ld 6).length + 6) (bs' := bs ++ nb 3 2 ++ nb ld 6 ++ nb s3 6) (by simp only [List.length_append, nb_length])] at hs10
  have hb010 := (Kp.drew hb09).trans hb10
  have hz10 := hb010.size
  have gl10 : (bs ++ nb 3 2 ++ nb ld 6 ++ nb s3 6).length = bs.length + 14 := by simp
  have f7' := hs10.blk.cell 7
  have fz' := hs10.blk.lt
  simp only [wrCells] at f7'
  clear hs9 hs9' hb10 hb09 gl9 f7 fz
  go_wp2_with fail
  go_still_tail 11, (by kernel_rfl)
  change wpList _ _ _ _ _ w10.drew
  have hs10' := hs10.below (Below.refl w10.heap.size w10).drew
  go_wp2_with fail
  refine (sheet_putX X p 2 _ _ cv10 (bs ++ nb 3 2 ++ nb ld 6 ++ nb s3 6) B Y s2 hY64 hs264 (by omega) _ (by show B ≤ w10.heap.size; omega) hBp (by decide) (fun x hx => Nat.lt_of_lt_of_le (hX x hx) (show w.heap.size ≤ _ from (Kp.drew hb010).size)) ha10 hs10').mono ?_
  rintro r w11 ⟨rfl, cv', hs11, hb11, haf⟩
  have hbf := (Kp.drew hb010).trans hb11
  have hpc := HPC.out
  rw [shtPut_wr (m := (bs ++ nb 3 2 ++ nb ld 6 ++ nb s3 6).length + s2) (bs' := bs ++ nb 3 2 ++ nb ld 6 ++ nb s3 6 ++ nb Y s2) (by simp only [List.length_append, nb_length])] at hs11
  rw [show bs ++ nb 3 2 ++ nb ld 6 ++ nb s3 6 ++ nb Y s2 = bs ++ ([1, 1] ++ (nb ld 6 ++ nb s3 6 ++ nb Y s2)) by simp only [List.append_assoc]; rfl] at hs11
  have hfb := hs11.blk
  have hfo := hs11.own
  clear hs11 hs10 hs10' hv2 hv3 hI1 hI2 hI3 hI4 hYI f7' fz'

  go_wp2
  go_ret
  refine ⟨rfl, cv', ⟨?_, ?_, hBp, by rw [← HW.out]; exact HFT.out, by rw [List.length_append, ← HNE.out]; simp; omega⟩, hbf, haf⟩
  · rw [← HW.out, HST.out, List.length_append, ← HNE.out]
    rw [hpc]
    exact hfb
  · rw [← HW.out, HST.out, hpc]
    exact hfo
end Go.Proofs.YtefhannaofknnaaDoor
