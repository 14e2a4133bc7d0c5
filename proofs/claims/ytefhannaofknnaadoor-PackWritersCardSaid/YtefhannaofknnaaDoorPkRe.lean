/- Walks of the document's pack: Size, Pack. -/
import Derived.Test.YtefhannaofknnaaDoorPkRd
namespace Go.Proofs.YtefhannaofknnaaDoor
open Go.RowKit
set_option linter.unusedVariables false
set_option linter.unusedSimpArgs false
set_option maxHeartbeats 4000000
set_option maxRecDepth 100000

theorem ref_Size (e f : Int) (A : Option Addr) (l : List Nat) (n c : Nat) (hn : n = l.length) (w : World) (hl64 : ∀ v ∈ l, v < 18446744073709551616) (hrd : RdK .u64 w A l) :
    Calls Tryd.prog 23 #[.agg #[.int .i64 e, .int .i64 f], .slice A n c] w (Says w (.tuple #[.int .i64 (sizeS e f l).1, .int .i64 (sizeS e f l).2])) := by
  subst hn
  have hb0 : Below w.heap.size w (w.alloc (.cells #[.int .i64 e, .int .i64 f] 23)) := (Below.refl w.heap.size w).alloc (Nat.le_refl _) _
  by_cases hr : rowErr e f l = 0
  · obtain ⟨E, F, rfl, rfl, hE1, hE2, hF1, hF2, hl, hfit⟩ := rowErr_ok hr
    have hsz := sizeS_ok hr
    rw [hsz]
    have hA := fun w1 hr1 => ref_asked (E : Int) (F : Int) A l l.length c rfl w1 hl64 hr1
    rw [hr] at hA
    have hB := fun w1 hr1 => ref_Bits E F hE1 hE2 hF1 hF2 A l l.length c rfl w1 hl hfit hr1
    generalize packB (1 + E + F) l = PB at hB
    clear hr hsz
    go_enter Tryd.func23, Tryd.ntmps23
    go_wp2_with fail
    refine (hA _ (hrd.below hb0)).mono ?_
    rintro r w1 ⟨rfl, hb1⟩
    have hb01 := hb0.trans (hb1.mono (by simp))
    have f0 : w1.cell? ⟨w.heap.size, 0, none⟩ = some (.int .i64 (E : Int)) := by rw [hb1.cell (by simp)]; simp
    have f1 : w1.cell? ⟨w.heap.size, 1, none⟩ = some (.int .i64 (F : Int)) := by rw [hb1.cell (by simp)]; simp
    clear hb0 hb1
    go_wp2_with fail
    refine (hB _ (hrd.below hb01)).mono ?_
    rintro r w2 ⟨v2, rfl, hown, hb2⟩
    obtain ⟨A2, c2, rfl⟩ := hown.len.2
    have hb02 := hb01.trans (hb2.mono hb01.size)
    go_wp2
    go_ret2
    exact ⟨rfl, hb02⟩
  · have hz : sizeS e f l = (0, rowErr e f l) := by unfold sizeS; rw [if_neg hr]
    rw [hz]
    have hA := fun w1 hr1 => ref_asked e f A l l.length c rfl w1 hl64 hr1
    generalize rowErr e f l = g at hr hA
    have hg : (g != 0) = true := by simpa using hr
    clear hz hr
    go_enter Tryd.func23, Tryd.ntmps23
    go_wp2_with fail
    refine (hA _ (hrd.below hb0)).mono ?_
    rintro r w1 ⟨rfl, hb1⟩
    have hb01 := hb0.trans (hb1.mono (by simp))
    go_wp2
    go_ret2
    exact ⟨rfl, hb01⟩
theorem bo_byte {S : List Nat} (hS : Bts S) {j : Nat} (hj : j < S.length) : ((bo S).drop (8 * j)).take 8 = nb (nth S j) 8 := by
  have e1 := bo_take S (j + 1)
  rw [take_snoc S j hj, bo_snoc, bo_take] at e1
  have hl : ((bo S).take (8 * j)).length = 8 * j := by rw [List.length_take, bo_length]; omega
  have e2 := congrArg (List.drop (8 * j)) e1
  rw [drop_app _ _ _ hl, List.drop_take, show 8 * (j + 1) - 8 * j = 8 by omega] at e2
  exact e2.symm
theorem ref_Pack_bad (e f : Int) (A : Option Addr) (l : List Nat) (c : Nat) (w : World) (hl64 : ∀ v ∈ l, v < 18446744073709551616) (hrd : RdK .u64 w A l) (hr : ¬ rowErr e f l = 0) :
    Calls Tryd.prog 22 #[.agg #[.int .i64 e, .int .i64 f], .slice A l.length c] w (Says w (.tuple #[.string (packS e f l).1, .int .i64 (packS e f l).2])) := by
  have hb0 : Below w.heap.size w (w.alloc (.cells #[.int .i64 e, .int .i64 f] 23)) := (Below.refl w.heap.size w).alloc (Nat.le_refl _) _
  have hp : packS e f l = (bstr [], rowErr e f l) := by unfold packS; rw [if_neg hr]
  have hbn : bstr [] = ⟨#[]⟩ := rfl
  rw [hp, hbn]
  have hA := fun w1 hr1 => ref_asked e f A l l.length c rfl w1 hl64 hr1
  generalize rowErr e f l = g at hr hA
  have hg : (g != 0) = true := by simpa using hr
  clear hp hr hbn
  go_enter Tryd.func22, Tryd.ntmps22
  go_wp2_with fail
  refine (hA _ (hrd.below hb0)).mono ?_
  rintro r w1 ⟨rfl, hb1⟩
  have hb01 := hb0.trans (hb1.mono (by simp))
  go_wp2
  go_ret2
  exact ⟨rfl, hb01⟩
theorem ref_Pack_ok (E F : Nat) (hE1 : 2 ≤ E) (hE2 : E ≤ 11) (hF1 : 1 ≤ F) (hF2 : F ≤ 52) (A : Option Addr) (l : List Nat) (c : Nat) (w : World) (hl : l.length ≤ 65536) (hfit : ∀ v ∈ l, v < 2 ^ (1 + E + F)) (hl64 : ∀ v ∈ l, v < 18446744073709551616) (hrd : RdK .u64 w A l) (hr : rowErr (E : Int) (F : Int) l = 0) :
    Calls Tryd.prog 22 #[.agg #[.int .i64 (E : Int), .int .i64 (F : Int)], .slice A l.length c] w (Says w (.tuple #[.string (bstr (by8 (packB (1 + E + F) l))), .int .i64 0])) := by
  have hb0 : Below w.heap.size w (w.alloc (.cells #[.int .i64 (E : Int), .int .i64 (F : Int)] 23)) := (Below.refl w.heap.size w).alloc (Nat.le_refl _) _
  have hA := fun w1 hr1 => ref_asked (E : Int) (F : Int) A l l.length c rfl w1 hl64 hr1
  rw [hr] at hA
  have hB := fun w1 hr1 => ref_Bits E F hE1 hE2 hF1 hF2 A l l.length c rfl w1 hl hfit hr1
  have hN1 := (pack_len (W := 1 + E + F) (by omega) hfit).1
  have hN2 := (pack_len (W := 1 + E + F) (by omega) hfit).2
  have hN3 : l.length * (14 + (1 + E + F)) ≤ 65536 * 78 := Nat.mul_le_mul hl (by omega)
  have hbs := bs_pack (1 + E + F) l
  generalize packB (1 + E + F) l = PB at hB hN1 hN2 hbs ⊢
  obtain ⟨S, hS⟩ : ∃ S, S = by8 PB := ⟨_, rfl⟩
  have hbt : Bts S := by rw [hS]; exact by8_byte hbs
  have hSl : S.length = (PB.length + 7) / 8 := by rw [hS, by8_length]
  have hbo := bo_by8 hbs
  rw [← hS] at hbo ⊢
  obtain ⟨P, hP⟩ : ∃ P, P = 8 * ((PB.length + 7) / 8) - PB.length := ⟨_, rfl⟩
  rw [← hP] at hbo
  have hPl : PB.length + P = 8 * S.length := by omega
  have hP7 : P < 8 := by omega
  have HP := Lib.hid hP
  have HBO := Lib.hid hbo
  have hNb : PB.length ≤ 17 + 65536 * 78 := by omega
  have hS1 : 0 < S.length := by omega
  clear hr hS hP hbo hN1 hN2 hN3 hl64 hSl
  go_enter Tryd.func22, Tryd.ntmps22
  go_wp2_with fail
  refine (hA _ (hrd.below hb0)).mono ?_
  rintro r w1 ⟨rfl, hb1⟩
  have hb01 := hb0.trans (hb1.mono (by simp))
  have f0 : w1.cell? ⟨w.heap.size, 0, none⟩ = some (.int .i64 (E : Int)) := by rw [hb1.cell (by simp)]; simp
  have f1 : w1.cell? ⟨w.heap.size, 1, none⟩ = some (.int .i64 (F : Int)) := by rw [hb1.cell (by simp)]; simp
  clear hb0 hb1
  go_wp2_with fail
  refine (hB _ (hrd.below hb01)).mono ?_
  rintro r w2 ⟨v2, rfl, hown, hb2⟩
  have hb02 := hb01.trans (hb2.mono hb01.size)
  have hown0 : OwnR w2 w.heap.size 5 .u8 v2 (PB ++ List.replicate 0 0) := by simpa using hown.base hb01.size
  clear hown hb2 hb01 f0 f1 hA hB hrd
  go_wp2
  go_loopw [7] (fun v7 wr => ∃ k : Nat, k ≤ P ∧ OwnR wr w.heap.size 5 .u8 v7 (PB ++ List.replicate k 0) ∧ Below w.heap.size w wr) (fun v7 _ => 8 * S.length - sliceLen v7)
  case atStart => exact ⟨0, Nat.zero_le _, hown0, hb02⟩
  case round =>
    clear hown0 hb02
    obtain ⟨k, hk, hown, hbl⟩ := hrel
    obtain ⟨A7, c7, rfl⟩ := hown.len.2
    have hll : (PB ++ List.replicate k 0).length = PB.length + k := by simp
    obtain ⟨L, hL⟩ : ∃ L, L = PB.length + k := ⟨_, rfl⟩
    rw [hll, ← hL] at hown ⊢
    have hwz := hbl.size
    by_cases hkP : k < P
    · have hm : (((L : Nat) : Int) % 8 != 0) = true := by
        rw [bne_iff_ne]; omega
      have HLL := Lib.hid hll
      have HL := Lib.hid hL
      have hkb : k < 8 := by omega
      clear hll hL
      go_wp2_with (first
        | (at_builtin
           refine wpList_app elem8 rfl _ _ rfl (hown.alloc _) rfl ⟨_, 0, none⟩ rfl 0 ?c1 ?c2 ?c3 (fun v9 w9 hown9 hgr9 hb9 => ?_)
           case c1 => simp [go_sem]
           case c2 => rw [HLL.out]; omega
           case c3 => simp only [World.size_alloc]; omega
           have hbl9 : Below w.heap.size w w9 := (hbl.alloc hbl.size _).trans hb9
           rw [List.append_assoc, show List.replicate k 0 ++ [0] = List.replicate (k + 1) 0 from (List.replicate_succ' ..).symm] at hown9))
      go_roundw
      case rel => exact ⟨k + 1, hkP, hown9, hbl9⟩
      case measure =>
        obtain ⟨A9, c9, rfl⟩ := hown9.len.2
        simp only [sliceLen, List.length_append, List.length_replicate]
        have := HL.out
        omega
    · obtain rfl : k = P := by omega
      have hm : (((L : Nat) : Int) % 8 != 0) = false := by
        have : (L : Int) % 8 = 0 := by omega
        rw [this]; rfl
      have hLS : L = 8 * S.length := by omega
      rw [← HBO.out] at hown
      have hrb := hown.rdK
      obtain ⟨A8, c8, e8, hcap8⟩ := hown.cap
      rw [bo_length, ← hLS] at e8 hcap8
      injection e8 with e81 e82 e83
      subst e81 e83
      have hwv : ∀ j, j < S.length → wv (((bo S).drop (8 * j)).take 8) = nth S j := fun j hj => by
        rw [bo_byte hbt hj, wv_nb, Nat.mod_eq_of_lt (hbt.nth j)]
      have HWV := Lib.hid hwv
      have HLL := Lib.hid hll
      have HL := Lib.hid hL
      have hSb : S.length ≤ 1000000 := by omega
      clear hll hL hown hwv hkP hm
      have hm : (((L : Nat) : Int) % 8 != 0) = false := by
        have : (L : Int) % 8 = 0 := by omega
        rw [this]; rfl
      have HLS := Lib.hid hLS
      have hL64 : L ≤ 8000000 := by omega
      clear hLS
      obtain ⟨wp, hwp⟩ : ∃ wp, wp = wr := ⟨_, rfl⟩
      subst hwp
      go_wp2
      go_loopw [8, 9] (fun v8 v9 wx => ∃ j I : Nat, j ≤ S.length ∧ I = 8 * j ∧ v9 = .int .i64 (I : Int) ∧ OwnR wx wp.heap.size 5 .u8 v8 (S.take j) ∧ Below wp.heap.size wp wx) (fun _ v9 _ => 8 * S.length - (intOf v9).toNat)
      case atStart => exact ⟨0, 0, Nat.zero_le _, rfl, rfl, OwnR.nil _ _ _ _, Below.refl _ _⟩
      case round =>
        obtain ⟨j, I, hj, hI, rfl, hown, hbx⟩ := hrel
        have hbw := hbl.trans (hbx.mono hbl.size)
        by_cases hj1 : j < S.length
        · obtain ⟨b0, off, rfl, hcell⟩ := (hrb.below hbx) (by rw [bo_length]; omega)
          have hrs := ((hrb.below hbx).sub I 8 (by rw [bo_length]; omega))
          have hws := HWV.out j hj1
          rw [← hI] at hws
          have hbs8 : Bs (((bo S).drop I).take 8) := ((bs_bo S).drop I).take 8
          have hl8 : (((bo S).drop I).take 8).length = 8 := by rw [List.length_take, List.length_drop, bo_length]; omega
          have hwth := fun c w1 hr => ref_worth (some ⟨b0, off + I, none⟩) (((bo S).drop I).take 8) 8 c hl8.symm hbs8 (by rw [hl8]; decide) w1 hr
          rw [hws] at hwth
          have hxb := hbt.nth j
          have htk := take_snoc S j hj1
          obtain ⟨x, hx⟩ : ∃ x, x = nth S j := ⟨_, rfl⟩
          rw [← hx] at hwth hxb htk
          have HT := Lib.hid htk
          have HI := Lib.hid hI
          have hIL : I + 8 ≤ L := by have := HLS.out; omega
          have hg9 : decide (((I : Nat) : Int) < ((L : Nat) : Int)) = true := by simp; omega
          have i0 : (0 : Int) ≤ (I : Int) := by omega
          have i1 : (I : Int) ≤ (I : Int) + 8 := by omega
          have i2 : (I : Int) + 8 ≤ (c7 : Int) := by omega
          have hci : ¬ c7 = I := by omega
          have hux : IntKind.u8.wrap (x : Int) = (x : Int) := by rw [IntKind.wrap_u8]; omega
          have hjS : (S.take j).length ≤ 1000000 := by rw [List.length_take]; omega
          clear hws hl8 hbs8 hx htk hcell hI hm
          go_wp2_with fail
          refine (hwth _ _ hrs).mono ?_
          rintro r w5 ⟨rfl, hb5⟩
          have hown5 := hown.below hb5 (Nat.le_refl _)
          have hx5 := hbx.trans (hb5.mono hbx.size)
          have hz5 := hx5.size
          clear hown hb5 hwth hrs hbw
          go_wp2_with (first
            | (at_builtin
               refine wpList_app elem8 rfl _ _ rfl (hown5.alloc _) rfl ⟨_, 0, none⟩ rfl x ?c1 ?c2 ?c3 (fun v9 w9 hown9 hgr9 hb9 => ?_)
               case c1 => simp [go_sem]
               case c2 => omega
               case c3 => simp only [World.size_alloc]; omega
               have hx9 : Below wp.heap.size wp w9 := (hx5.alloc hx5.size _).trans hb9
               rw [← HT.out] at hown9))
          go_roundw
          case rel => exact ⟨j + 1, I + 8, hj1, by have := HI.out; omega, vi (by omega), hown9, hx9⟩
          case measure => have hls := HLS.out; simp [intOf]; omega
        · obtain rfl : j = S.length := by omega
          rw [List.take_length] at hown
          have hg9 : decide (((I : Nat) : Int) < ((L : Nat) : Int)) = false := by have := HLS.out; simp; omega
          have hIL : ¬ I < L := by have := HLS.out; omega
          obtain ⟨A9, c9, e9⟩ := hown.len.2
          subst e9
          obtain ⟨g, off, rfl, hcell⟩ := hown.rdK hS1
          have hconv := run_bytes (P := Tryd.prog) wr 53 5 9 (by kernel_rfl) (by kernel_rfl) (by kernel_rfl) g off _ c9 S rfl hcell
          clear hcell hown hI hm
          go_wp2
          go_ret2
          exact ⟨rfl, hbw⟩
theorem ref_Pack (e f : Int) (A : Option Addr) (l : List Nat) (n c : Nat) (hn : n = l.length) (w : World) (hl64 : ∀ v ∈ l, v < 18446744073709551616) (hrd : RdK .u64 w A l) :
    Calls Tryd.prog 22 #[.agg #[.int .i64 e, .int .i64 f], .slice A n c] w (Says w (.tuple #[.string (packS e f l).1, .int .i64 (packS e f l).2])) := by
  subst hn
  by_cases hr : rowErr e f l = 0
  · obtain ⟨E, F, rfl, rfl, hE1, hE2, hF1, hF2, hl, hfit⟩ := rowErr_ok hr
    rw [packS_ok hr]
    exact ref_Pack_ok E F hE1 hE2 hF1 hF2 A l c w hl hfit hl64 hrd hr
  · exact ref_Pack_bad e f A l c w hl64 hrd hr
end Go.Proofs.YtefhannaofknnaaDoor
