/- The laws of layer 19: what both sides answer alike is told as equal. -/
import Derived.Test.YtenekbfnlbipiaaGreatDoorBgAQ
import Derived.Test.YtenekbfnlbipiaaGreatDoorSuSo
import Derived.Test.YtenekbfnlbipiaaGreatDoorRows
import Derived.ProofKit
import Derived.OpenShut
import Derived.ShutString
import Derived.ChangeOld
import Derived.SizedLaws
import Derived.Below
import Derived.LaidMore
import Derived.Lay
import Derived.Lib.SmallJoins
import Derived.Lib.LaidTab
import Derived.Stop.Joined
import Derived.Stop.LaidErr
namespace Go.Proofs.YtenekbfnlbipiaaGreatDoor
open Go.RowKit
set_option linter.unusedVariables false
set_option linter.unusedSimpArgs false
set_option maxHeartbeats 4000000
set_option maxRecDepth 100000
namespace Bg
theorem law_some (e f : Int) (b : Nat) (D : Int) (n ok : Bool) (s : ByteArray) (x r : Int)
    (hA : ∀ W, Tab5 W → TabU W → Calls Tryz.prog 6 #[.agg #[.int .i64 e, .int .i64 f], .int .u64 (b : Int), .int .i64 D] W (Says W (.tuple #[.agg #[.bool n, .string s, .int .i64 x], .bool ok, .int .i64 r])))
    (hB : ∀ W, Tz W → Calls Tryz.prog 7 #[.agg #[.int .i64 e, .int .i64 f], .int .u64 (b : Int), .int .i64 D] W (Says W (.tuple #[.agg #[.bool n, .string s, .int .i64 x], .bool ok, .int .i64 r])))
    (w : World) (hT : Tab5 w) (hU : TabU w) (hZ : Tz w) :
    Calls Tryz.prog 3 #[.agg #[.int .i64 e, .int .i64 f], .int .u64 (b : Int), .int .i64 D] w (Says w (.bool true)) := by
  have hv0 : Below w.heap.size w (w.alloc (.cells #[.int .i64 e, .int .i64 f] 23)) := (Below.refl _ _).alloc (Nat.le_refl _) _
  have k1 : Blk (w.alloc (.cells #[.int .i64 e, .int .i64 f] 23)) w.heap.size 23 #[.int .i64 e, .int .i64 f] := Blk.new w _ _
  go_enter Tryz.func3, Tryz.ntmps3
  go_upto_region 1 with fail
  obtain ⟨v0, hvv0⟩ : ∃ v0, v0 = w.alloc (.cells #[.int .i64 e, .int .i64 f] 23) := ⟨_, rfl⟩
  rw [← hvv0] at hv0 k1 ⊢
  clear hvv0
  have hTd : Tab5 v0.drew := hT.below hv0.drew
  have hUd : TabU v0.drew := hU.below hv0.drew
  have hZd : Tz v0 := hZ.below hv0
  have c0 := k1.cell 0
  have c1 := k1.cell 1
  have kz := k1.lt
  simp only [List.getElem?_toArray, List.getElem?_cons_zero, List.getElem?_cons_succ] at c0 c1
  go_region_held3 (fun w' => w'.cell? ⟨w.heap.size, 0, none⟩ = some (.int .i64 e) ∧ w'.cell? ⟨w.heap.size, 1, none⟩ = some (.int .i64 f))
    (first | exact ⟨c0, c1⟩ | exact ⟨a0, a1⟩ | exact ⟨o0, o1⟩ | exact ⟨p0, p1⟩ | exact ⟨q0, q1⟩ | go_keep)
    (first
     | (go_at_call 6; (with_reducible refine (hA _ hTd hUd).mono ?_); rintro e wa ⟨rfl, ba'⟩; have ba : Below v0.heap.size v0 wa := (Below.refl v0.heap.size v0).drew.trans ba'; have a0 := cell_keep ba c0; have a1 := cell_keep ba c1)
     | (go_at_call 7; (with_reducible refine (hB _ ((hZd.below ba).below bo)).mono ?_); rintro e wp ⟨rfl, bp⟩; have p0 := cell_keep bp o0; have p1 := cell_keep bp o1)
     | (go_at_call 5; (with_reducible refine (law19_of _ _ _ _ _ _).mono ?_); rintro e wq ⟨rfl, bq⟩; have q0 := cell_keep bq p0; have q1 := cell_keep bq p1)
     | (go_at_call 5; (with_reducible refine (law19_of _ _ _ _ _ _).mono ?_); rintro e wo ⟨rfl, bo⟩; have o0 := cell_keep bo a0; have o1 := cell_keep bo a1)
     | fail)
  all_goals (
    go_wp2
    go_ret
    exact ⟨rfl, (hv0.trans (ba.mono hv0.size)).trans (((bo.trans (bp.mono bo.size)).trans (bq.mono (bo.trans (bp.mono bo.size)).size)).mono (hv0.trans (ba.mono hv0.size)).size)⟩)
theorem some_walk (e f : Int) (b : Nat) (D : Int) (hb64 : b < 18446744073709551616) (w : World) (hT : Tab5 w) (hU : TabU w) (hZ : Tz w) :
    Calls Tryz.prog 3 #[.agg #[.int .i64 e, .int .i64 f], .int .u64 (b : Int), .int .i64 D] w (Says w (.bool true)) := by
  by_cases hfit : Fo.fitS e f b = 0
  · obtain ⟨E, F, rfl, rfl, hE1, hE2, hF1, hF2, hb⟩ := Fo.fit_ok hfit
    obtain ⟨⟨ng, X, Y⟩, hs⟩ : ∃ z, Fo.splitF E F b = z := ⟨_, rfl⟩
    by_cases hX : X + 1 = 2 ^ E
    · have hO := fun W => open_far hE1 hE2 hF1 hF2 hb hs hX W
      exact law_some _ _ b D _ _ _ _ _ (fun W _ _ => some_err _ _ b _ _ _ _ _ 8 _ D (by decide) hO W) (fun W _ => ref19_some_far E F b X Y ng hE1 hE2 hF1 hF2 hb64 hb hfit hs hX D W) w hT hU hZ
    · by_cases h1 : D < 1
      · by_cases hz : X = 0 ∧ Y = 0
        · obtain ⟨rfl, rfl⟩ := hz
          have hO := fun W => open_nought hE1 hE2 hF1 hF2 hb hs W
          exact law_some _ _ b D _ _ _ _ _ (fun W _ _ => some_places_lo _ _ b _ _ _ _ _ _ D h1 hO W) (fun W _ => ref19_some_lo E F b 0 0 ng hE1 hE2 hF1 hF2 hb64 hb hfit hs hX D h1 W) w hT hU hZ
        · have hO := fun W => open_num hE1 hE2 hF1 hF2 hb hs hX hz W
          exact law_some _ _ b D _ _ _ _ _ (fun W _ _ => some_places_lo _ _ b _ _ _ _ _ _ D h1 hO W) (fun W _ => ref19_some_lo E F b X Y ng hE1 hE2 hF1 hF2 hb64 hb hfit hs hX D h1 W) w hT hU hZ
      · by_cases h2 : 17 < D
        · by_cases hz : X = 0 ∧ Y = 0
          · obtain ⟨rfl, rfl⟩ := hz
            have hO := fun W => open_nought hE1 hE2 hF1 hF2 hb hs W
            exact law_some _ _ b D _ _ _ _ _ (fun W _ _ => some_places_hi _ _ b _ _ _ _ _ _ D h2 hO W) (fun W _ => ref19_some_hi E F b 0 0 ng hE1 hE2 hF1 hF2 hb64 hb hfit hs hX D h2 W) w hT hU hZ
          · have hO := fun W => open_num hE1 hE2 hF1 hF2 hb hs hX hz W
            exact law_some _ _ b D _ _ _ _ _ (fun W _ _ => some_places_hi _ _ b _ _ _ _ _ _ D h2 hO W) (fun W _ => ref19_some_hi E F b X Y ng hE1 hE2 hF1 hF2 hb64 hb hfit hs hX D h2 W) w hT hU hZ
        · obtain ⟨n, rfl⟩ : ∃ n : Nat, D = (n : Int) := ⟨D.toNat, by omega⟩
          by_cases hz : X = 0 ∧ Y = 0
          · obtain ⟨rfl, rfl⟩ := hz
            have hO := fun W => open_nought hE1 hE2 hF1 hF2 hb hs W
            exact law_some _ _ b n _ _ _ _ _ (fun W _ _ => some_no _ _ b _ _ _ _ _ n (by omega) hO W) (fun W _ => ref19_some_nought E F b 0 0 ng hE1 hE2 hF1 hF2 hb64 hb hfit hs hX rfl rfl n (by omega) (by omega) W) w hT hU hZ
          · obtain ⟨b1, b2, b3, b4⟩ := num_bd hE1 hE2 hF1 hF2 hs hX hz
            obtain ⟨P, hP, hP1, hP2⟩ := first_form b1 b2 b3 b4
            have hA := fun W hT hU => some_num hE1 hE2 hF1 hF2 hb hs hX hz hP hP1 hP2 (n := n) (by omega) (by omega) W hT hU
            have hB := fun W hZ => ref19_some_num E F b X Y ng hE1 hE2 hF1 hF2 hb64 hb hfit hs hX hz P hP hP1 hP2 n (by omega) (by omega) W hZ
            generalize someS (mF F X Y) (qF E F X) P n = A at hA hB
            cases A with
            | none => exact law_some _ _ b n _ _ _ _ _ hA hB w hT hU hZ
            | some v => exact law_some _ _ b n _ _ _ _ _ hA hB w hT hU hZ
  · have hO := fun W => open_bad hb64 hfit W
    exact law_some _ _ b D _ _ _ _ _ (fun W _ _ => some_err _ _ b _ _ _ _ _ _ _ D hfit hO W) (fun W _ => ref19_some_bad e f b D hb64 hfit W) w hT hU hZ
end Bg
end Go.Proofs.YtenekbfnlbipiaaGreatDoor
namespace Go.Proofs.YtenekbfnlbipiaaGreatDoor
open Go.ChangeShapes Go.WideShapes Go.ChangeAt Go.WideMaps Go.WideElems Go.RowKit
open Go.RowKit
set_option linter.unusedVariables false
set_option linter.unusedSimpArgs false
set_option maxHeartbeats 4000000
set_option maxRecDepth 100000

def laid6 : List (String × DataW Unit) := [("math/bits.deBruijn32tab", Rows.laid_math_bits_deBruijn32tab), ("math/bits.deBruijn64tab", Rows.laid_math_bits_deBruijn64tab), ("internal/strconv.uint64pow10", Rows.laid_internal_strconv_uint64pow10), ("unicode/utf8.acceptRanges", Rows.laid_unicode_utf8_acceptRanges), ("numeral/power.fives", Rows.laid_numeral_power_fives), ("unicode/utf8.first", Rows.laid_unicode_utf8_first)]
def fiveZ : List Int := (List.range 28).map fun j => ((5 ^ j : Nat) : Int)
theorem g5 : Tryz.prog.globalNamed "numeral/power.fives" = some 0 := by kernel_rfl
theorem t5 : (Tryz.prog.globals[0]?).map (·.type) = some 201 := by kernel_rfl
theorem gU : Tryz.prog.globalNamed "internal/strconv.uint64pow10" = some 1 := by kernel_rfl
theorem tU : (Tryz.prog.globals[1]?).map (·.type) = some 216 := by kernel_rfl
theorem laid_fives {H : Type} : (Rows.laid_numeral_power_fives : DataW H) = Lib.tabData .u64 fiveZ := rfl
theorem laid_tens {H : Type} : (Rows.laid_internal_strconv_uint64pow10 : DataW H) = Lib.tabData .u64 Lib.pow10Tab := rfl
def dB32 : List Int := Lib.deBruijn32tab.map fun n : Nat => (n : Int)
theorem g32 : Tryz.prog.globalNamed "math/bits.deBruijn32tab" = some 5 := by kernel_rfl
theorem t32 : (Tryz.prog.globals[5]?).map (·.type) = some 241 := by kernel_rfl
theorem laid_32 {H : Type} : (Rows.laid_math_bits_deBruijn32tab : DataW H) = Lib.tabData .u8 dB32 := rfl
theorem tz_of6 {W : World} (h : laidMetH Tryz.prog laid6 W) : Bg.Tz W := by
  rw [MakeChecks.laidMetH_plain _ _ _ (by kernel_rfl)] at h
  unfold laid6 at h
  rw [laid_32] at h
  have ht := Lib.tabIs_of_head g32 t32 Tryz.underlying241 Tryz.underlying5 (by kernel_rfl) (by kernel_rfl) h
  intro j hj
  have hl : dB32.length = Lib.deBruijn32tab.length := by unfold dB32; simp
  have h1 := ht.cell g32 j (by rw [hl]; exact hj)
  rw [h1]
  have : dB32.getD j 0 = ((Lib.deBruijn32tab.getD j 0 : Nat) : Int) := by
    unfold dB32
    rw [List.getD_eq_getElem?_getD, List.getElem?_map, List.getElem?_eq_getElem hj, List.getD_eq_getElem?_getD, List.getElem?_eq_getElem hj]
    rfl
  rw [this]
theorem tab5_of6 {W : World} (h : laidMetH Tryz.prog laid6 W) : Tab5 W := by
  rw [MakeChecks.laidMetH_plain _ _ _ (by kernel_rfl)] at h
  unfold laid6 at h
  have h5 := h.tail.tail.tail.tail
  rw [laid_fives] at h5
  have ht := Lib.tabIs_of_head g5 t5 Tryz.underlying201 Tryz.underlying24 (by kernel_rfl) (by kernel_rfl) h5
  intro j hj
  have hl : fiveZ.length = 28 := rfl
  have h1 := ht.cell g5 j (by rw [hl]; exact hj)
  rw [h1]
  have : fiveZ.getD j 0 = ((5 ^ j : Nat) : Int) := by
    unfold fiveZ
    rw [List.getD_eq_getElem?_getD, List.getElem?_map, List.getElem?_range hj]
    rfl
  rw [this]
theorem tabU_of6 {W : World} (h : laidMetH Tryz.prog laid6 W) : TabU W := by
  rw [MakeChecks.laidMetH_plain _ _ _ (by kernel_rfl)] at h
  unfold laid6 at h
  have h5 := h.tail.tail
  rw [laid_tens] at h5
  exact Lib.tabIs_of_head gU tU Tryz.underlying216 Tryz.underlying24 (by kernel_rfl) (by kernel_rfl) h5
set_option maxRecDepth 100000 in
theorem door_met6 (os : Os) (args : Array Value) : laidMetH Tryz.prog laid6 ((World.laidAll Tryz.prog os laid6).forCall (fun _ _ => 0) ⟨#[], args, []⟩).memory := by
  rw [MakeChecks.laidMetH_plain _ _ _ (by kernel_rfl)]
  exact laidMet_laidAll _ (by kernel_rfl) (by kernel_rfl)
end Go.Proofs.YtenekbfnlbipiaaGreatDoor
