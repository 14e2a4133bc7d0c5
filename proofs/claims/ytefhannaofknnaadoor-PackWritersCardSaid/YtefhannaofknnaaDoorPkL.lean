/- Walks: Put, whole; Bytes. -/
import Derived.Test.YtefhannaofknnaaDoorPkJ
import Derived.Test.YtefhannaofknnaaDoorPkK
namespace Go.Proofs.YtefhannaofknnaaDoor
open Go.RowKit
set_option linter.unusedVariables false
set_option linter.unusedSimpArgs false
set_option maxHeartbeats 4000000
set_option maxRecDepth 100000

/-- What Put answers, and which blocks stay. -/
def PutX (w : World) (B p E F : Nat) (l : List Nat) (b : Nat) (cv : Value) (en : Ending) (w' : World) : Prop :=
  if fitE E F b = 0 ∧ l.length < 65536 then en = .returned (.int .i64 0) ∧ ∃ cv', WrC w' B p E F (l ++ [b]) cv' ∧ Below B w w' ∧
    (∀ k, k < w.heap.size → k ≠ p → cv.ownBlock ≠ some k → w'.heap[k]? = w.heap[k]?) ∧ (∀ g, cv'.ownBlock = some g → cv.ownBlock = some g ∨ w.heap.size ≤ g)
  else en = .returned (.int .i64 (if fitE E F b = 0 then 4 else fitE E F b)) ∧ Below w.heap.size w w'
theorem writer_PutX (w : World) (B p E F : Nat) (l : List Nat) (b : Nat) (cv : Value) (hb64 : b < 18446744073709551616) (hB : B ≤ w.heap.size) (hE1 : 2 ≤ E) (hE2 : E ≤ 11) (hF1 : 1 ≤ F) (hF2 : F ≤ 52) (hT : Tab w) (hB0 : 0 < B) (h : WrC w B p E F l cv) :
    Calls Tryd.prog 15 #[.pointer (some ⟨p, 0, none⟩), .int .u64 (b : Int)] w (PutX w B p E F l b cv) := by
  by_cases hn : fitE E F b = 0 ∧ l.length < 65536
  · have e : PutX w B p E F l b cv = fun en w' => en = .returned (.int .i64 0) ∧ ∃ cv', WrC w' B p E F (l ++ [b]) cv' ∧ Below B w w' ∧
        (∀ k, k < w.heap.size → k ≠ p → cv.ownBlock ≠ some k → w'.heap[k]? = w.heap[k]?) ∧ (∀ g, cv'.ownBlock = some g → cv.ownBlock = some g ∨ w.heap.size ≤ g) := by
      funext en w'; unfold PutX; rw [if_pos hn]
    rw [e]
    have hX : ∀ x, (x < w.heap.size ∧ x ≠ p ∧ cv.ownBlock ≠ some x) → x < w.heap.size := fun x hx => hx.1
    have hax : Ap (fun x => x < w.heap.size ∧ x ≠ p ∧ cv.ownBlock ≠ some x) p cv := ⟨fun hx => hx.2.1 rfl, fun g hg hx => hx.2.2 hg⟩
    have key : ∀ (en : Ending) (w' : World), (en = .returned (.int .i64 0) ∧ ∃ cv', WrC w' B p E F (l ++ [b]) cv' ∧ Kp (fun x => x < w.heap.size ∧ x ≠ p ∧ cv.ownBlock ≠ some x) B w w' ∧ Ap (fun x => x < w.heap.size ∧ x ≠ p ∧ cv.ownBlock ≠ some x) p cv') →
        en = .returned (.int .i64 0) ∧ ∃ cv', WrC w' B p E F (l ++ [b]) cv' ∧ Below B w w' ∧
        (∀ k, k < w.heap.size → k ≠ p → cv.ownBlock ≠ some k → w'.heap[k]? = w.heap[k]?) ∧ (∀ g, cv'.ownBlock = some g → cv.ownBlock = some g ∨ w.heap.size ≤ g) := by
      rintro en w' ⟨h1, cv', h2, h3, h4⟩
      refine ⟨h1, cv', h2, h3.1, fun k k1 k2 k3 => h3.2 k ⟨k1, k2, k3⟩ k1, fun g hg => ?_⟩
      by_cases h5 : cv.ownBlock = some g
      · exact .inl h5
      · right
        have h6 := h2.2.1.apart h2.1 (by decide) g hg
        have h7 := h4.2 g hg
        rcases Nat.lt_or_ge g w.heap.size with h8 | h8
        · exact absurd ⟨h8, h6, h5⟩ h7
        · exact h8
    by_cases hx0 : (wst (1 + E + F) l).before ^^^ b = 0
    · exact (put_sameX _ cv w B p E F l b hb64 hB hE1 hE2 hF1 hF2 hX hax h hn hx0).mono key
    · by_cases hho : holdsS (1 + E + F) (wst (1 + E + F) l).w ((wst (1 + E + F) l).before ^^^ b)
      · exact (put_inX _ cv w B p E F l b hb64 hB hE1 hE2 hF1 hF2 hX hax h hn hx0 hho).mono key
      · exact (put_newX _ cv w B p E F l b hb64 hB hE1 hE2 hF1 hF2 hT hB0 hX hax h hn hx0 hho).mono key
  · have h1 := put_err w B p E F l b hb64 hB ⟨cv, h⟩ hn
    have e : PutX w B p E F l b cv = PutAns w B p E F l b := by
      funext en w'; unfold PutX PutAns; rw [if_neg hn, if_neg hn]
    rw [e]
    exact h1
theorem writer_Put (w : World) (B p E F : Nat) (l : List Nat) (b : Nat) (hb64 : b < 18446744073709551616) (hB : B ≤ w.heap.size) (hE1 : 2 ≤ E) (hE2 : E ≤ 11) (hF1 : 1 ≤ F) (hF2 : F ≤ 52) (hT : Tab w) (hB0 : 0 < B) (h : Wr w B p E F l) :
    Calls Tryd.prog 15 #[.pointer (some ⟨p, 0, none⟩), .int .u64 (b : Int)] w (PutAns w B p E F l b) := by
  obtain ⟨cv, h⟩ := h
  refine (writer_PutX w B p E F l b cv hb64 hB hE1 hE2 hF1 hF2 hT hB0 h).mono fun en w' ha => ?_
  unfold PutX at ha
  unfold PutAns
  split at ha
  · rw [if_pos (by assumption)]
    obtain ⟨h1, cv', h2, h3, _⟩ := ha
    exact ⟨h1, ⟨cv', h2⟩, h3⟩
  · rw [if_neg (by assumption)]
    exact ha
theorem holds_by8 {bs : List Nat} (h : Bs bs) : Holds8 (by8 bs) bs := fun i hi => ⟨by rw [by8_length]; omega, bt_by8 h i hi⟩
theorem one_bit {bs : List Nat} (j : Nat) (hj : j < bs.length) : wv ((bs.drop j).take 1) = nth bs j := by
  rw [List.drop_eq_getElem_cons hj, List.take_succ_cons, List.take_zero, nth_lt _ hj]
  simp [wv]
theorem writer_Bytes (w : World) (B p E F : Nat) (l : List Nat) (h : Wr w B p E F l) (hE2 : E ≤ 11) (hF2 : F ≤ 52) :
    Calls Tryd.prog 18 #[.pointer (some ⟨p, 0, none⟩)] w (Says w (.tuple #[.string (bstr (by8 (packB (1 + E + F) l))), .int .i64 0])) := by
  have h0 := h
  obtain ⟨cv, hblk, hown, hBp, hfit, hl⟩ := h
  have hbits := bs_wst (1 + E + F) l
  obtain ⟨_, _, _, hbl⟩ := wst_ok (show 1 + E + F ≤ 64 by omega) l hfit
  have hbl2 : (wst (1 + E + F) l).bs.length ≤ 65536 * 78 := Nat.le_trans hbl (Nat.mul_le_mul hl (by omega))
  have hpk : packB (1 + E + F) l = nb l.length 17 ++ (wst (1 + E + F) l).bs := rfl
  rw [hpk]
  obtain ⟨st, hst⟩ : ∃ st, st = wst (1 + E + F) l := ⟨_, rfl⟩
  rw [← hst] at hblk hown hbits hbl2 ⊢
  clear hpk
  obtain ⟨bs, bef, lead, size⟩ := st
  simp only at hbits hbl2 hown ⊢
  obtain ⟨n, hn⟩ : ∃ n, n = l.length := ⟨_, rfl⟩
  rw [← hn] at hblk hl ⊢
  have c3 := hblk.cell 3
  have c4 := hblk.cell 4
  have c8 := hblk.cell 8
  simp only [wrCells] at c3 c4 c8
  have hz := hblk.lt
  obtain ⟨A0, k0, rfl⟩ := hown.len.2
  clear hst hn hbl hfit h0 hBp
  go_enter Tryd.func18, Tryd.ntmps18
  go_wp2_with fail
  refine (writer_made p 8 _ c3).mono ?_
  rintro r w1 ⟨rfl, hb1⟩
  have d4 := cell_keep hb1 c4
  have d8 := cell_keep hb1 c8
  have hk1 := hblk.below hb1 hblk.lt
  have ho1 := hown.below hb1 (Nat.le_refl _)
  have hz1 := hk1.lt
  clear c3 c4 c8 hblk hown hz
  go_wp2_with fail
  have hW1 : Below w1.heap.size w1 (w1.alloc (.cells #[.slice none 0 0, .int .i64 8, .int .i64 0] 55)) := (Below.refl _ _).alloc (Nat.le_refl _) _
  have hs0 : Sht (w1.alloc (.cells #[.slice none 0 0, .int .i64 8, .int .i64 0] 55)) w1.heap.size w1.heap.size 0 55 #[.slice none 0 0, .int .i64 8, .int .i64 0] (.slice none 0 0) [] :=
    ⟨Blk.new _ _ _, rfl, rfl, rfl, by rw [by8_nil]; exact OwnR.nil _ _ _ _, Bs.nil⟩
  refine (sheet_put w1.heap.size 0 _ _ (.slice none 0 0) [] w1.heap.size n 17 (by omega) (by decide) (by decide) _ (by simp) (Nat.le_refl _) (by decide) hs0).mono ?_
  rintro r w2 ⟨rfl, cv2, hs2, hb2⟩
  have hb12 : Below w1.heap.size w1 w2 := hW1.trans hb2
  have hz2 := hb12.size
  have hs2' : Sht w2 w1.heap.size w1.heap.size 0 55 #[cv2, .int .i64 8, .int .i64 ((17 : Nat) : Int)] cv2 (nb n 17 ++ []) := by
    have := hs2
    rw [List.nil_append] at this
    rw [List.append_nil]
    exact this
  clear hs0 hW1 hs2 hb2
  go_wp2
  go_loopw [5] (fun v5 wr => ∃ (j : Nat) (cv' : Value), j ≤ bs.length ∧ v5 = .int .i64 (j : Int) ∧ Sht wr w1.heap.size w1.heap.size 0 55 #[cv', .int .i64 8, .int .i64 ((17 + j : Nat) : Int)] cv' (nb n 17 ++ bs.take j) ∧ Below w1.heap.size w1 wr) (fun v5 _ => bs.length - (intOf v5).toNat)
  case atStart => exact ⟨0, cv2, Nat.zero_le _, rfl, by simpa using hs2', hb12⟩
  case round =>
    clear hs2' hb12 hz2
    obtain ⟨j, cv', hj, rfl, hs, hb⟩ := hrel
    have e4 := cell_keep hb d4
    have hk2 := hk1.below hb hk1.lt
    have ho2 := ho1.below hb (Nat.le_refl _)
    have hz2 := hb.size
    by_cases hj1 : j < bs.length
    · have HTK := Lib.hid (take_snoc bs j hj1)
      have hx2 : nth bs j < 2 := hbits.nth j
      go_wp2_with fail
      refine (sheet_take p 2 _ _ A0 k0 (by8 bs) bs j 1 _ hk2 rfl rfl ho2.rdK (by8_byte hbits) hbits (holds_by8 hbits) (by omega) (by decide) (by omega)).mono ?_
      rintro r w3 ⟨rfl, hb3⟩
      rw [one_bit j hj1]
      have hs3 := hs.below hb3
      have hb13 := hb.trans (hb3.mono hz2)
      have hz3 := hb13.size
      go_wp2_with fail
      refine (sheet_put w1.heap.size 0 _ _ cv' (nb n 17 ++ bs.take j) w1.heap.size (nth bs j) 1 (by omega) (by decide) (by simp; omega) _ hz3 (Nat.le_refl _) (by decide) hs3).mono ?_
      rintro r w4 ⟨rfl, cv4, hs4, hb4⟩
      have hs4' : Sht w4 w1.heap.size w1.heap.size 0 55 #[cv4, .int .i64 8, .int .i64 ((17 + (j + 1) : Nat) : Int)] cv4 (nb n 17 ++ bs.take (j + 1)) := by
        have e1 : nb n 17 ++ bs.take (j + 1) = nb n 17 ++ bs.take j ++ nb (nth bs j) 1 := by
          rw [HTK.out, List.append_assoc]
          congr 2
          simp only [nb, List.nil_append]
          rw [Nat.mod_eq_of_lt hx2]
        have e2 : 17 + (j + 1) = (nb n 17 ++ bs.take j).length + 1 := by simp; omega
        rw [e1, e2]
        exact hs4
      have hb14 := hb13.trans hb4
      clear hs hb hs3 hb3 hb13 hs4 hb4 e4 hk2 ho2
      go_wp2
      go_roundw
      case rel => exact ⟨j + 1, cv4, hj1, vi (by omega), hs4', hb14⟩
      case measure => first | (simp [intOf]; done) | (simp [intOf]; omega)
    · obtain rfl : j = bs.length := by omega
      have hdr : bs.take bs.length = bs := List.take_length
      rw [hdr] at hs
      have hg : decide (((bs.length : Nat) : Int) < ((bs.length : Nat) : Int)) = false := by simp
      have f0 := hs.blk.cell 0
      have fz := hs.blk.lt
      obtain ⟨A9, c9, e9⟩ := hs.own.len.2
      have hol := hs.own
      rw [e9] at hol
      obtain ⟨g, rfl, _, _, _, _, hcell⟩ := hol.addr (by rw [by8_length]; simp; omega)
      have hconv := run_bytes (P := Tryd.prog) wr 53 5 9 (by kernel_rfl) (by kernel_rfl) (by kernel_rfl) g 0 _ c9 (by8 (nb n 17 ++ bs)) rfl (by intro i hi; rw [Nat.zero_add]; exact hcell i hi)
      have f0' : wr.cell? ⟨w1.heap.size, 0, none⟩ = some (.slice (some ⟨g, 0, none⟩) (by8 (nb n 17 ++ bs)).length c9) := by rw [f0, ← e9]; rfl
      have hbf := hb1.trans (hb.mono hb1.size)
      obtain ⟨L, hL⟩ : ∃ L, L = by8 (nb n 17 ++ bs) := ⟨_, rfl⟩
      rw [← hL] at hconv f0'
      have HL := Lib.hid hL
      clear hL hcell hol e9 f0 hs hb hdr
      go_wp2
      go_ret2
      exact ⟨by rw [← HL.out]; rfl, hbf⟩
end Go.Proofs.YtefhannaofknnaaDoor
