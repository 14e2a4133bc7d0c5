/- Walk: PackWriters. -/
import Derived.Test.YtefhannaofknnaaDoorPkWf
import Derived.Test.YtefhannaofknnaaDoorPkTA
namespace Go.Proofs.YtefhannaofknnaaDoor
open Go.RowKit
set_option linter.unusedVariables false
set_option linter.unusedSimpArgs false
set_option maxHeartbeats 4000000
set_option maxRecDepth 100000

/-- A row of ints that came in. -/
def RdI (w : World) (A : Option Addr) (n : Nat) (f : Nat → Int) : Prop := 0 < n → ∃ b off, A = some ⟨b, off, none⟩ ∧ ∀ j, j < n → w.cell? ⟨b, off + j, none⟩ = some (.int .i64 (f j))
theorem RdI.below {w w' : World} {A : Option Addr} {n : Nat} {f : Nat → Int} (h : RdI w A n f) (hb : Below w.heap.size w w') : RdI w' A n f := fun hn => by
  obtain ⟨b, off, e, hc⟩ := h hn
  exact ⟨b, off, e, fun j hj => cell_keep hb (hc j hj)⟩
theorem ref_Size_nil (e f : Int) (w : World) : Calls Tryd.prog 23 #[.agg #[.int .i64 e, .int .i64 f], .slice none 0 0] w (Says w (.tuple #[.int .i64 (sizeS e f []).1, .int .i64 (chkF e f)])) := by
  have h := ref_Size e f none [] 0 0 rfl w (by simp) (fun h => by simp at h)
  have e2 : (sizeS e f []).2 = chkF e f := by
    by_cases hc : chkF e f = 0
    · have hr : rowErr e f [] = 0 := by unfold rowErr; rw [if_neg (by simpa using hc), if_neg (by simp), if_pos (by simp)]
      unfold sizeS; rw [if_pos hr, hc]
    · have hr : rowErr e f [] = 5 := by unfold rowErr; rw [if_pos hc]
      unfold sizeS; rw [if_neg (by rw [hr]; decide), hr, chk_no hc]
  rw [e2] at h
  exact h
/-- Which one is asked. -/
def Turn (n i : Nat) (f : Nat → Int) (T : Int) : Prop := (n ≤ i ∧ T = 0) ∨ (i < n ∧ T = (f i).tmod 8)

theorem writers_ok (E F : Nat) (hE1 : 2 ≤ E) (hE2 : E ≤ 11) (hF1 : 1 ≤ F) (hF2 : F ≤ 52) (A : Option Addr) (l : List Nat) (c : Nat) (A2 : Option Addr) (n2 c2 : Nat) (f : Nat → Int) (w : World) (hl64 : ∀ v ∈ l, v < 18446744073709551616) (hlen : l.length ≤ 17592186044404) (hn2 : n2 ≤ 17592186044404) (hrd : RdK .u64 w A l) (hri : RdI w A2 n2 f) (hT : Tab w) :
    Calls Tryd.prog 8 #[.agg #[.int .i64 (E : Int), .int .i64 (F : Int)], .slice A l.length c, .slice A2 n2 c2] w (Says w (.bool true)) := by
  have HC := Lib.hid (chkF_of hE1 hE2 hF1 hF2)
  have hb0 : Below w.heap.size w (w.alloc (.cells #[.int .i64 (E : Int), .int .i64 (F : Int)] 23)) := (Below.refl w.heap.size w).alloc (Nat.le_refl _) _
  go_enter Tryd.func8, Tryd.ntmps8
  go_wp2_with fail
  refine (awake_any _ (hT.below hb0)).mono ?_
  rintro r w1 ⟨rfl, hb1⟩
  have hb01 := hb0.trans (hb1.mono (by simp))
  have hz1 : w.heap.size < w1.heap.size := by have := hb1.size; simp at this; omega
  have f0 : w1.cell? ⟨w.heap.size, 0, none⟩ = some (.int .i64 (E : Int)) := by rw [hb1.cell (by simp)]; simp
  have f1 : w1.cell? ⟨w.heap.size, 1, none⟩ = some (.int .i64 (F : Int)) := by rw [hb1.cell (by simp)]; simp
  clear hb0 hb1
  go_wp2_with fail
  refine (pack_New _ _ _).mono ?_
  rintro r w2 hna
  unfold NewAns at hna
  rw [if_pos HC.out, Int.toNat_natCast, Int.toNat_natCast] at hna
  obtain ⟨pa, rfl, hpa, ⟨ca, ha⟩, hb2⟩ := hna
  have g0 := cell_keep hb2 f0
  have g1 := cell_keep hb2 f1
  have hpaz := ha.1.lt
  go_wp2_with fail
  refine (pack_New _ _ _).mono ?_
  rintro r w3 hna
  unfold NewAns at hna
  rw [if_pos HC.out, Int.toNat_natCast, Int.toNat_natCast] at hna
  obtain ⟨pb, rfl, hpb, ⟨cb, hbw⟩, hb3⟩ := hna
  have f0 := cell_keep hb3 g0
  have f1 := cell_keep hb3 g1
  have hpbz := hbw.1.lt
  clear g0 g1
  go_wp2_with fail
  refine (ref_Size_nil _ _ _).mono ?_
  rintro r w4 ⟨rfl, hb4⟩
  rw [HC.out]
  have g0 := cell_keep hb4 f0
  have g1 := cell_keep hb4 f1
  have hz2 := hb2.size
  have hz3 := hb3.size
  have hz4 := hb4.size
  have ha4 : WrC w4 w1.heap.size pa E F [] ca := ⟨(ha.1.below hb3 ha.1.lt).below hb4 (Nat.lt_of_lt_of_le ha.1.lt hz3), (ha.2.1.below hb3 (Nat.le_refl _)).below hb4 (Nat.le_refl _), ha.2.2⟩
  have hb4' : WrC w4 w1.heap.size pb E F [] cb := ⟨hbw.1.below hb4 hbw.1.lt, (hbw.2.1.below hb4 (Nat.le_refl _)).base hz2, Nat.le_trans hz2 hpb, hbw.2.2.2⟩
  have hab : pa ≠ pb := by omega
  have hrab : ∀ g, ca.ownBlock = some g → cb.ownBlock ≠ some g := fun g h1 h2 => by
    have := (ha.2.1.lt g h1).2
    have := (hbw.2.1.lt g h2).1
    omega
  have hb04 : Below w.heap.size w w4 := hb01.trans (((hb2.trans (hb3.mono hz2)).trans (hb4.mono (Nat.le_trans hz2 hz3))).mono hb01.size)
  have hz14 : w1.heap.size ≤ w4.heap.size := by omega
  have hpa4 : pa < w4.heap.size := by omega
  have hpb4 : pb < w4.heap.size := by omega
  have hz04 : w.heap.size < w4.heap.size := by omega
  clear hb2 hb3 hb4 hb01 ha hbw f0 f1 hpa hpb hpaz hpbz
  go_wp2
  have hb41 : Below w4.heap.size w4 (((w4.alloc (.cells #[.int .i64 (E : Int), .int .i64 (F : Int), .slice none 0 0] 52)).alloc (.cells #[.int .i64 (E : Int), .int .i64 (F : Int), .slice none 0 0] 52)).alloc (.cells zeroW 59)) := (((Below.refl _ _).alloc (Nat.le_refl _) _).alloc (by simp) _).alloc (by simp; omega) _
  have hk1 : Blk (((w4.alloc (.cells #[.int .i64 (E : Int), .int .i64 (F : Int), .slice none 0 0] 52)).alloc (.cells #[.int .i64 (E : Int), .int .i64 (F : Int), .slice none 0 0] 52)).alloc (.cells zeroW 59)) w4.heap.size 52 #[.int .i64 (E : Int), .int .i64 (F : Int), .slice none 0 0] := ((Blk.new w4 _ _).alloc _).alloc _
  have hk2 : Blk (((w4.alloc (.cells #[.int .i64 (E : Int), .int .i64 (F : Int), .slice none 0 0] 52)).alloc (.cells #[.int .i64 (E : Int), .int .i64 (F : Int), .slice none 0 0] 52)).alloc (.cells zeroW 59)) (w4.heap.size + 1) 52 #[.int .i64 (E : Int), .int .i64 (F : Int), .slice none 0 0] := by
    have := (Blk.new (w4.alloc (.cells #[.int .i64 (E : Int), .int .i64 (F : Int), .slice none 0 0] 52)) 52 #[.int .i64 (E : Int), .int .i64 (F : Int), .slice none 0 0]).alloc (.cells zeroW 59)
    simpa using this
  have hk3 : Blk (((w4.alloc (.cells #[.int .i64 (E : Int), .int .i64 (F : Int), .slice none 0 0] 52)).alloc (.cells #[.int .i64 (E : Int), .int .i64 (F : Int), .slice none 0 0] 52)).alloc (.cells zeroW 59)) (w4.heap.size + 2) 59 zeroW := by
    have := Blk.new ((w4.alloc (.cells #[.int .i64 (E : Int), .int .i64 (F : Int), .slice none 0 0] 52)).alloc (.cells #[.int .i64 (E : Int), .int .i64 (F : Int), .slice none 0 0] 52)) 59 zeroW
    simpa using this
  have htw : Two (((w4.alloc (.cells #[.int .i64 (E : Int), .int .i64 (F : Int), .slice none 0 0] 52)).alloc (.cells #[.int .i64 (E : Int), .int .i64 (F : Int), .slice none 0 0] 52)).alloc (.cells zeroW 59)) w1.heap.size E F pa pb w4.heap.size (w4.heap.size + 1) (w4.heap.size + 2) [] [] [] [] ca cb (.slice none 0 0) (.slice none 0 0) :=
    ⟨⟨ha4.1.below hb41 hpa4, ha4.2.1.below hb41 (Nat.le_refl _), ha4.2.2⟩, ⟨hb4'.1.below hb41 hpb4, hb4'.2.1.below hb41 (Nat.le_refl _), hb4'.2.2⟩,
      ⟨hk1, OwnR.nil _ _ _ _, hz14, by simp, by simp⟩, ⟨hk2, OwnR.nil _ _ _ _, by omega, by simp, by simp⟩, hk3, hab, by omega, by omega, by omega, hrab, fun g h => by simp [Value.ownBlock] at h⟩
  have hbl7 : Below w.heap.size w (((w4.alloc (.cells #[.int .i64 (E : Int), .int .i64 (F : Int), .slice none 0 0] 52)).alloc (.cells #[.int .i64 (E : Int), .int .i64 (F : Int), .slice none 0 0] 52)).alloc (.cells zeroW 59)) := hb04.trans (hb41.mono hb04.size)
  have hz7 : w1.heap.size ≤ (((w4.alloc (.cells #[.int .i64 (E : Int), .int .i64 (F : Int), .slice none 0 0] 52)).alloc (.cells #[.int .i64 (E : Int), .int .i64 (F : Int), .slice none 0 0] 52)).alloc (.cells zeroW 59)).heap.size := by simp; omega
  obtain ⟨B, hB⟩ : ∃ B, B = w1.heap.size := ⟨_, rfl⟩
  obtain ⟨pc, hpc⟩ : ∃ pc, pc = w4.heap.size := ⟨_, rfl⟩
  rw [← hB, ← hpc] at htw
  rw [← hB] at hz7 hz1
  have hTB : 0 < B := Nat.lt_trans (cell_lt (hT 0 (by decide))) hz1
  rw [← hpc]
  have hwB : w.heap.size < B := hz1
  clear hb41 hk1 hk2 hk3 ha4 hb4' hab hrab hb04 hz14 hpa4 hpb4 hz1 hz2 hz3 hz4 hz04 g0 g1 hB hpc
  go_loopw [7, 17] (fun v7 v17 wr => ∃ (i : Nat) (la lb : List Nat) (ca cb vc vd : Value), i ≤ l.length ∧ i ≤ 300 ∧ v7 = .bool true ∧ v17 = .int .i64 (i : Int) ∧ la.length ≤ i ∧ lb.length ≤ i ∧ Two wr B E F pa pb pc (pc + 1) (pc + 2) la lb la lb ca cb vc vd ∧ B ≤ wr.heap.size ∧ Below w.heap.size w wr) (fun _ v17 _ => l.length - (intOf v17).toNat)
  case atStart => exact ⟨0, [], [], ca, cb, _, _, Nat.zero_le _, Nat.zero_le _, rfl, rfl, Nat.le_refl _, Nat.le_refl _, htw, hz7, hbl7⟩
  case round =>
    clear htw hbl7 hz7
    obtain ⟨i, la, lb, ca, cb, vc, vd, hi, hi3, rfl, rfl, hla, hlb, htw, hz, hbl⟩ := hrel
    have hl9 : ((l.length : Nat) : Int) ≤ 17592186044404 := by omega
    by_cases hlt : i < l.length ∧ i < 300
    · obtain ⟨hi1, hi2⟩ := hlt
      have d1 : decide (((i : Nat) : Int) < ((l.length : Nat) : Int)) = true := by simp; omega
      have d2 : decide (((i : Nat) : Int) < 300) = true := by simp; omega
      obtain ⟨b0, off, rfl, hcell⟩ := (hrd.below hbl) (by omega)
      have hx := hcell i hi1
      have hb0 : b0 < B := by
        obtain ⟨b1, off1, e, hc⟩ := hrd (by omega)
        injection e with e
        injection e with e1 e2
        subst e1
        have := cell_lt (hc 0 (by omega))
        simp only at this
        omega
      have h64 : nth l i < 18446744073709551616 := by rw [nth_lt _ hi1]; exact hl64 _ (List.getElem_mem hi1)
      obtain ⟨b, hb⟩ : ∃ b, b = nth l i := ⟨_, rfl⟩
      rw [← hb] at hx h64
      clear hb hcell
      by_cases hn : i < n2
      · have dn : decide (((i : Nat) : Int) < ((n2 : Nat) : Int)) = true := by simp; omega
        obtain ⟨b2, off2, rfl, hc2⟩ := (hri.below hbl) (by omega)
        have y := hc2 i hn
        obtain ⟨x, hxe⟩ : ∃ x, x = f i := ⟨_, rfl⟩
        rw [← hxe] at y
        clear hc2 hxe
        obtain ⟨T, hTe⟩ : ∃ T, T = x.tmod 8 := ⟨_, rfl⟩
        have hr := hTe.symm
        have hT1 : -8 < T := by rw [hTe]; exact Int.lt_tmod_of_pos _ (by decide)
        have hT2 : T < 8 := by rw [hTe]; exact Int.tmod_lt_of_pos _ (by decide)
        clear hTe
        by_cases h1 : T = 1
        · subst h1
          go_upto_region 33 with (fail)
          replace htw := htw.swap
          by_cases hfit : fitE (E : Int) (F : Int) b = 0
          · have hP1 := fun w5 h1 h2 h3 => writer_PutX w5 B pb E F lb b cb h64 h1 hE1 hE2 hF1 hF2 h2 hTB h3
            have hP2 := fun w5 h1 h3 => ref_Put w5 B (pc + 1) E F lb b vd h64 h1 hE1 hE2 hF1 hF2 h3
            have hln : lb.length < 65536 := by omega
            have e1 : ∀ w5, PutX w5 B pb E F lb b cb = fun en w' => en = .returned (.int .i64 0) ∧ ∃ cv', WrC w' B pb E F (lb ++ [b]) cv' ∧ Below B w5 w' ∧ Stays w5 w' pb cb ∧ (∀ g, cv'.ownBlock = some g → (cb).ownBlock = some g ∨ w5.heap.size ≤ g) := by
              intro w5; funext en w'; unfold PutX; rw [if_pos ⟨hfit, hln⟩]; rfl
            have e2 : ∀ w5, PutR w5 B (pc + 1) E F lb b vd = fun en w' => en = .returned (.int .i64 0) ∧ ∃ v', RWC w' B (pc + 1) E F (lb ++ [b]) v' ∧ Below B w5 w' ∧ Stays w5 w' (pc + 1) vd ∧ (∀ g, v'.ownBlock = some g → (vd).ownBlock = some g ∨ w5.heap.size ≤ g) := by
              intro w5; funext en w'; unfold PutR; rw [if_pos ⟨hfit, hln⟩]; rfl
            simp only [e1] at hP1
            simp only [e2] at hP2
            have hL := fun W h3 h8 => writer_Len pb (lb ++ [b]).length W h3 h8
            have hR := fun W k A h => ref_Len W (pc + 1) (lb ++ [b]).length k A h
            have hll : (lb ++ [b]).length = lb.length + 1 := by simp
            have hd0 : Below wr.heap.size wr wr.drew := (Below.refl _ _).drew
            have htwD := htw.below hd0
            have hzD : B ≤ wr.drew.heap.size := hz
            have hblD : Below w.heap.size w wr.drew := hbl.drew
            have hTD : Tab wr.drew := hT.below hblD
            have hxD : wr.drew.cell? ⟨b0, off + i, none⟩ = some (.int .u64 (b : Int)) := hx
            clear e1 e2 hfit
            go_region_held3 (fun w' => w'.cell? ⟨b0, off + i, none⟩ = some (.int .u64 (b : Int)))
              (first | exact hx | exact hx5 | exact hx6 | exact hxA | exact cell_keep hb7 hxA | go_keep)
              (first
              | (go_at_call 15
                 (with_reducible refine (hP1 _ hzD hTD htwD.a).mono ?_)
                 rintro r w5 ⟨rfl, cv5, k1, k2, k3, k4⟩
                 have htw5 := htwD.putA k1 k3 k4
                 have hz5 := Nat.le_trans hzD k2.size
                 have hbl5 := hblD.trans (k2.mono (Nat.le_of_lt hwB))
                 have hx5 := (k2.cell (p := ⟨b0, off + i, none⟩) hb0).trans hxD
                 clear k1 k2 k3 k4)
              | (go_at_call 27
                 (with_reducible refine (hP2 _ hz5 htw5.c).mono ?_)
                 rintro r w6 ⟨rfl, v6, k1, k2, k3, k4⟩
                 have htw6 := htw5.putC k1 k3 k4
                 obtain ⟨A6, k6, rfl⟩ := k1.2.1.len.2
                 have hz6 := Nat.le_trans hz5 k2.size
                 have hbl6 := hbl5.trans (k2.mono (Nat.le_of_lt hwB))
                 have hx6 := (k2.cell (p := ⟨b0, off + i, none⟩) hb0).trans hx5
                 have q3 := htw6.a.1.cell 3
                 have q8 := htw6.a.1.cell 8
                 simp only [wrCells] at q3 q8
                 clear k1 k2 k3 k4)
              | (go_at_call 19
                 (with_reducible refine (hL _ q3 q8).mono ?_)
                 rintro r wA ⟨rfl, hbA⟩
                 have htwA := htw6.below hbA
                 have hblA := hbl6.trans (hbA.mono hbl6.size)
                 have hzA := Nat.le_trans hz6 hbA.size
                 have hxA := cell_keep hbA hx6
                 have qc := htwA.c.1.cell 2)
              | (go_at_call 28
                 (with_reducible refine (hR _ _ _ qc).mono ?_)
                 rintro r w7 ⟨rfl, hb7⟩
                 have htw7 := htwA.below hb7
                 have hbl7 := hblA.trans (hb7.mono hblA.size)
                 have hz7 := Nat.le_trans hzA hb7.size)
              | fail)
            all_goals (
              clear htwD hzD hblD hTD hxD htw hz hbl htw5 hz5 hbl5 hx5 htw6 hz6 hbl6 hx6 q3 q8 htwA hblA hzA hxA qc hb7 hbA hP1 hP2 hL hR hd0
              by_cases hlast : i + 1 = l.length
              · have d9 : (((i : Nat) : Int) == ((l.length : Nat) : Int) - 1) = true := by rw [beq_iff_eq]; omega
                clear hlast
                have hBa := fun W h => writer_Bytes W B pb E F (lb ++ [b]) h hE2 hF2
                have hBc := fun W (v : Value) h => ref_Bytes W B (pc + 1) E F (lb ++ [b]) v hE1 hE2 hF1 hF2 h
                generalize bstr (by8 (packB (1 + E + F) (lb ++ [b]))) = S9 at hBa hBc
                go_wp2_with fail
                refine (hBa _ ⟨_, htw7.a⟩).mono ?_
                rintro r w8 ⟨rfl, hb8⟩
                have htw8 := htw7.below hb8
                have hbl8 := hbl7.trans (hb8.mono hbl7.size)
                have hz8 := Nat.le_trans hz7 hb8.size
                clear htw7 hbl7 hz7 hb8 hBa
                go_wp2_with fail
                refine (hBc _ _ htw8.c).mono ?_
                rintro r w9 ⟨rfl, hb9⟩
                have htwZ := htw8.below hb9
                have hblZ := hbl8.trans (hb9.mono hbl8.size)
                have hzZ := Nat.le_trans hz8 hb9.size
                clear htw8 hbl8 hz8 hb9 hBc
                go_wp2

                go_roundw
                case rel => exact ⟨i + 1, la, lb ++ [b], _, _, _, _, by omega, by omega, by simp, vi (by omega), by first | omega | (simp only [List.length_append, List.length_cons, List.length_nil]; omega), by first | omega | (simp only [List.length_append, List.length_cons, List.length_nil]; omega), htwZ.swap, by omega, hblZ⟩
                case measure => first | (simp [intOf]; done) | (simp [intOf]; omega)

              · have d9 : (((i : Nat) : Int) == ((l.length : Nat) : Int) - 1) = false := by rw [beq_eq_false_iff_ne]; omega
                clear hlast
                have htwZ := htw7
                have hblZ := hbl7
                have hzZ := hz7
                clear htw7 hbl7 hz7
                go_wp2
                go_roundw
                case rel => exact ⟨i + 1, la, lb ++ [b], _, _, _, _, by omega, by omega, by simp, vi (by omega), by first | omega | (simp only [List.length_append, List.length_cons, List.length_nil]; omega), by first | omega | (simp only [List.length_append, List.length_cons, List.length_nil]; omega), htwZ.swap, by omega, hblZ⟩
                case measure => first | (simp [intOf]; done) | (simp [intOf]; omega))
          · obtain ⟨G, hG⟩ : ∃ G, G = fitE (E : Int) (F : Int) b := ⟨_, rfl⟩
            have hP1 := fun w5 h1 h2 h3 => writer_PutX w5 B pb E F lb b cb h64 h1 hE1 hE2 hF1 hF2 h2 hTB h3
            have hP2 := fun w5 h1 h3 => ref_Put w5 B (pc + 1) E F lb b vd h64 h1 hE1 hE2 hF1 hF2 h3
            have e1 : ∀ w5, PutX w5 B pb E F lb b cb = fun en w' => en = .returned (.int .i64 G) ∧ Below w5.heap.size w5 w' := by
              intro w5; funext en w'; unfold PutX; rw [if_neg (fun h => hfit h.1), if_neg hfit, ← hG]
            have e2 : ∀ w5, PutR w5 B (pc + 1) E F lb b vd = fun en w' => en = .returned (.int .i64 G) ∧ Below w5.heap.size w5 w' := by
              intro w5; funext en w'; unfold PutR; rw [if_neg (fun h => hfit h.1), if_neg hfit, ← hG]
            simp only [e1] at hP1
            simp only [e2] at hP2
            have hL := fun W h3 h8 => writer_Len pb lb.length W h3 h8
            have hR := fun W k A h => ref_Len W (pc + 1) lb.length k A h
            obtain ⟨A0, k0, hv0⟩ := htw.c.2.1.len.2
            rw [hv0] at htw hP2
            clear e1 e2 hfit hG hv0
            have hd0 : Below wr.heap.size wr wr.drew := (Below.refl _ _).drew
            have htwD := htw.below hd0
            have hzD : B ≤ wr.drew.heap.size := hz
            have hblD : Below w.heap.size w wr.drew := hbl.drew
            have hTD : Tab wr.drew := hT.below hblD
            have hxD : wr.drew.cell? ⟨b0, off + i, none⟩ = some (.int .u64 (b : Int)) := hx
            go_region_held3 (fun w' => w'.cell? ⟨b0, off + i, none⟩ = some (.int .u64 (b : Int)))
              (first | exact hx | exact hx5 | exact hx6 | exact hxA | exact cell_keep hb7 hxA | go_keep)
              (first
              | (go_at_call 15
                 (with_reducible refine (hP1 _ hzD hTD htwD.a).mono ?_)
                 rintro r w5 ⟨rfl, hb5⟩
                 have htw5 := htwD.below hb5
                 have hz5 := Nat.le_trans hzD hb5.size
                 have hbl5 := hblD.trans (hb5.mono hblD.size)
                 have hx5 := cell_keep hb5 hxD)
              | (go_at_call 27
                 (with_reducible refine (hP2 _ hz5 htw5.c).mono ?_)
                 rintro r w6 ⟨rfl, hb6⟩
                 have htw6 := htw5.below hb6
                 have hz6 := Nat.le_trans hz5 hb6.size
                 have hbl6 := hbl5.trans (hb6.mono hbl5.size)
                 have hx6 := cell_keep hb6 hx5
                 have q3 := htw6.a.1.cell 3
                 have q8 := htw6.a.1.cell 8
                 have q9 := htw6.z.cell 3
                 simp only [wrCells] at q3 q8)
              | (go_at_call 19
                 (with_reducible refine (hL _ q3 q8).mono ?_)
                 rintro r wA ⟨rfl, hbA⟩
                 have htwA := htw6.below hbA
                 have hblA := hbl6.trans (hbA.mono hbl6.size)
                 have hzA := Nat.le_trans hz6 hbA.size
                 have hxA := cell_keep hbA hx6
                 have qc := htwA.c.1.cell 2)
              | (go_at_call 28
                 (with_reducible refine (hR _ _ _ qc).mono ?_)
                 rintro r w7 ⟨rfl, hb7⟩
                 have htw7 := htwA.below hb7
                 have hbl7 := hblA.trans (hb7.mono hblA.size)
                 have hz7 := Nat.le_trans hzA hb7.size)
              | fail)

            all_goals (
              clear htwD hzD hblD hTD hxD htw hz hbl htw5 hz5 hbl5 hx5 htw6 hz6 hbl6 hx6 q3 q8 q9 htwA hblA hzA hxA qc hb5 hb6 hb7 hbA hP1 hP2 hL hR hd0
              by_cases hlast : i + 1 = l.length
              · have d9 : (((i : Nat) : Int) == ((l.length : Nat) : Int) - 1) = true := by rw [beq_iff_eq]; omega
                clear hlast
                have hBa := fun W h => writer_Bytes W B pb E F (lb) h hE2 hF2
                have hBc := fun W (v : Value) h => ref_Bytes W B (pc + 1) E F (lb) v hE1 hE2 hF1 hF2 h
                generalize bstr (by8 (packB (1 + E + F) (lb))) = S9 at hBa hBc
                go_wp2_with fail
                refine (hBa _ ⟨_, htw7.a⟩).mono ?_
                rintro r w8 ⟨rfl, hb8⟩
                have htw8 := htw7.below hb8
                have hbl8 := hbl7.trans (hb8.mono hbl7.size)
                have hz8 := Nat.le_trans hz7 hb8.size
                clear htw7 hbl7 hz7 hb8 hBa
                go_wp2_with fail
                refine (hBc _ _ htw8.c).mono ?_
                rintro r w9 ⟨rfl, hb9⟩
                have htwZ := htw8.below hb9
                have hblZ := hbl8.trans (hb9.mono hbl8.size)
                have hzZ := Nat.le_trans hz8 hb9.size
                clear htw8 hbl8 hz8 hb9 hBc
                go_wp2

                go_roundw
                case rel => exact ⟨i + 1, la, lb, _, _, _, _, by omega, by omega, by simp, vi (by omega), by first | omega | (simp only [List.length_append, List.length_cons, List.length_nil]; omega), by first | omega | (simp only [List.length_append, List.length_cons, List.length_nil]; omega), htwZ.swap, by omega, hblZ⟩
                case measure => first | (simp [intOf]; done) | (simp [intOf]; omega)

              · have d9 : (((i : Nat) : Int) == ((l.length : Nat) : Int) - 1) = false := by rw [beq_eq_false_iff_ne]; omega
                clear hlast
                have htwZ := htw7
                have hblZ := hbl7
                have hzZ := hz7
                clear htw7 hbl7 hz7
                go_wp2
                go_roundw
                case rel => exact ⟨i + 1, la, lb, _, _, _, _, by omega, by omega, by simp, vi (by omega), by first | omega | (simp only [List.length_append, List.length_cons, List.length_nil]; omega), by first | omega | (simp only [List.length_append, List.length_cons, List.length_nil]; omega), htwZ.swap, by omega, hblZ⟩
                case measure => first | (simp [intOf]; done) | (simp [intOf]; omega))
        · by_cases h2 : T = 2
          · subst h2
            go_upto_region 33 with (fail)
            replace htw := htw.swap
            by_cases hfit : fitE (E : Int) (F : Int) b = 0
            · have hP1 := fun w5 h1 h2 h3 => writer_PutX w5 B pb E F lb b cb h64 h1 hE1 hE2 hF1 hF2 h2 hTB h3
              have hP2 := fun w5 h1 h3 => ref_Put w5 B (pc + 1) E F lb b vd h64 h1 hE1 hE2 hF1 hF2 h3
              have hln : lb.length < 65536 := by omega
              have e1 : ∀ w5, PutX w5 B pb E F lb b cb = fun en w' => en = .returned (.int .i64 0) ∧ ∃ cv', WrC w' B pb E F (lb ++ [b]) cv' ∧ Below B w5 w' ∧ Stays w5 w' pb cb ∧ (∀ g, cv'.ownBlock = some g → (cb).ownBlock = some g ∨ w5.heap.size ≤ g) := by
                intro w5; funext en w'; unfold PutX; rw [if_pos ⟨hfit, hln⟩]; rfl
              have e2 : ∀ w5, PutR w5 B (pc + 1) E F lb b vd = fun en w' => en = .returned (.int .i64 0) ∧ ∃ v', RWC w' B (pc + 1) E F (lb ++ [b]) v' ∧ Below B w5 w' ∧ Stays w5 w' (pc + 1) vd ∧ (∀ g, v'.ownBlock = some g → (vd).ownBlock = some g ∨ w5.heap.size ≤ g) := by
                intro w5; funext en w'; unfold PutR; rw [if_pos ⟨hfit, hln⟩]; rfl
              simp only [e1] at hP1
              simp only [e2] at hP2
              have hL := fun W h3 h8 => writer_Len pb (lb ++ [b]).length W h3 h8
              have hR := fun W k A h => ref_Len W (pc + 1) (lb ++ [b]).length k A h
              have hll : (lb ++ [b]).length = lb.length + 1 := by simp
              have hd0 : Below wr.heap.size wr wr.drew := (Below.refl _ _).drew
              have htwD := htw.below hd0
              have hzD : B ≤ wr.drew.heap.size := hz
              have hblD : Below w.heap.size w wr.drew := hbl.drew
              have hTD : Tab wr.drew := hT.below hblD
              have hxD : wr.drew.cell? ⟨b0, off + i, none⟩ = some (.int .u64 (b : Int)) := hx
              clear e1 e2 hfit
              go_region_held3 (fun w' => w'.cell? ⟨b0, off + i, none⟩ = some (.int .u64 (b : Int)))
                (first | exact hx | exact hx5 | exact hx6 | exact hxA | exact cell_keep hb7 hxA | go_keep)
                (first
                | (go_at_call 15
                   (with_reducible refine (hP1 _ hzD hTD htwD.a).mono ?_)
                   rintro r w5 ⟨rfl, cv5, k1, k2, k3, k4⟩
                   have htw5 := htwD.putA k1 k3 k4
                   have hz5 := Nat.le_trans hzD k2.size
                   have hbl5 := hblD.trans (k2.mono (Nat.le_of_lt hwB))
                   have hx5 := (k2.cell (p := ⟨b0, off + i, none⟩) hb0).trans hxD
                   clear k1 k2 k3 k4)
                | (go_at_call 27
                   (with_reducible refine (hP2 _ hz5 htw5.c).mono ?_)
                   rintro r w6 ⟨rfl, v6, k1, k2, k3, k4⟩
                   have htw6 := htw5.putC k1 k3 k4
                   obtain ⟨A6, k6, rfl⟩ := k1.2.1.len.2
                   have hz6 := Nat.le_trans hz5 k2.size
                   have hbl6 := hbl5.trans (k2.mono (Nat.le_of_lt hwB))
                   have hx6 := (k2.cell (p := ⟨b0, off + i, none⟩) hb0).trans hx5
                   have q3 := htw6.a.1.cell 3
                   have q8 := htw6.a.1.cell 8
                   simp only [wrCells] at q3 q8
                   clear k1 k2 k3 k4)
                | (go_at_call 19
                   (with_reducible refine (hL _ q3 q8).mono ?_)
                   rintro r wA ⟨rfl, hbA⟩
                   have htwA := htw6.below hbA
                   have hblA := hbl6.trans (hbA.mono hbl6.size)
                   have hzA := Nat.le_trans hz6 hbA.size
                   have hxA := cell_keep hbA hx6
                   have qc := htwA.c.1.cell 2)
                | (go_at_call 28
                   (with_reducible refine (hR _ _ _ qc).mono ?_)
                   rintro r w7 ⟨rfl, hb7⟩
                   have htw7 := htwA.below hb7
                   have hbl7 := hblA.trans (hb7.mono hblA.size)
                   have hz7 := Nat.le_trans hzA hb7.size)
                | fail)
              all_goals (
                clear htwD hzD hblD hTD hxD htw hz hbl htw5 hz5 hbl5 hx5 htw6 hz6 hbl6 hx6 q3 q8 htwA hblA hzA hxA qc hb7 hbA hP1 hP2 hL hR hd0
                have hBa := fun W h => writer_Bytes W B pb E F (lb ++ [b]) h hE2 hF2
                have hBc := fun W (v : Value) h => ref_Bytes W B (pc + 1) E F (lb ++ [b]) v hE1 hE2 hF1 hF2 h
                generalize bstr (by8 (packB (1 + E + F) (lb ++ [b]))) = S9 at hBa hBc
                go_wp2_with fail
                refine (hBa _ ⟨_, htw7.a⟩).mono ?_
                rintro r w8 ⟨rfl, hb8⟩
                have htw8 := htw7.below hb8
                have hbl8 := hbl7.trans (hb8.mono hbl7.size)
                have hz8 := Nat.le_trans hz7 hb8.size
                clear htw7 hbl7 hz7 hb8 hBa
                go_wp2_with fail
                refine (hBc _ _ htw8.c).mono ?_
                rintro r w9 ⟨rfl, hb9⟩
                have htwZ := htw8.below hb9
                have hblZ := hbl8.trans (hb9.mono hbl8.size)
                have hzZ := Nat.le_trans hz8 hb9.size
                clear htw8 hbl8 hz8 hb9 hBc
                go_wp2

                go_roundw
                case rel => exact ⟨i + 1, la, lb ++ [b], _, _, _, _, by omega, by omega, by simp, vi (by omega), by first | omega | (simp only [List.length_append, List.length_cons, List.length_nil]; omega), by first | omega | (simp only [List.length_append, List.length_cons, List.length_nil]; omega), htwZ.swap, by omega, hblZ⟩
                case measure => first | (simp [intOf]; done) | (simp [intOf]; omega))
            · obtain ⟨G, hG⟩ : ∃ G, G = fitE (E : Int) (F : Int) b := ⟨_, rfl⟩
              have hP1 := fun w5 h1 h2 h3 => writer_PutX w5 B pb E F lb b cb h64 h1 hE1 hE2 hF1 hF2 h2 hTB h3
              have hP2 := fun w5 h1 h3 => ref_Put w5 B (pc + 1) E F lb b vd h64 h1 hE1 hE2 hF1 hF2 h3
              have e1 : ∀ w5, PutX w5 B pb E F lb b cb = fun en w' => en = .returned (.int .i64 G) ∧ Below w5.heap.size w5 w' := by
                intro w5; funext en w'; unfold PutX; rw [if_neg (fun h => hfit h.1), if_neg hfit, ← hG]
              have e2 : ∀ w5, PutR w5 B (pc + 1) E F lb b vd = fun en w' => en = .returned (.int .i64 G) ∧ Below w5.heap.size w5 w' := by
                intro w5; funext en w'; unfold PutR; rw [if_neg (fun h => hfit h.1), if_neg hfit, ← hG]
              simp only [e1] at hP1
              simp only [e2] at hP2
              have hL := fun W h3 h8 => writer_Len pb lb.length W h3 h8
              have hR := fun W k A h => ref_Len W (pc + 1) lb.length k A h
              obtain ⟨A0, k0, hv0⟩ := htw.c.2.1.len.2
              rw [hv0] at htw hP2
              clear e1 e2 hfit hG hv0
              have hd0 : Below wr.heap.size wr wr.drew := (Below.refl _ _).drew
              have htwD := htw.below hd0
              have hzD : B ≤ wr.drew.heap.size := hz
              have hblD : Below w.heap.size w wr.drew := hbl.drew
              have hTD : Tab wr.drew := hT.below hblD
              have hxD : wr.drew.cell? ⟨b0, off + i, none⟩ = some (.int .u64 (b : Int)) := hx
              go_region_held3 (fun w' => w'.cell? ⟨b0, off + i, none⟩ = some (.int .u64 (b : Int)))
                (first | exact hx | exact hx5 | exact hx6 | exact hxA | exact cell_keep hb7 hxA | go_keep)
                (first
                | (go_at_call 15
                   (with_reducible refine (hP1 _ hzD hTD htwD.a).mono ?_)
                   rintro r w5 ⟨rfl, hb5⟩
                   have htw5 := htwD.below hb5
                   have hz5 := Nat.le_trans hzD hb5.size
                   have hbl5 := hblD.trans (hb5.mono hblD.size)
                   have hx5 := cell_keep hb5 hxD)
                | (go_at_call 27
                   (with_reducible refine (hP2 _ hz5 htw5.c).mono ?_)
                   rintro r w6 ⟨rfl, hb6⟩
                   have htw6 := htw5.below hb6
                   have hz6 := Nat.le_trans hz5 hb6.size
                   have hbl6 := hbl5.trans (hb6.mono hbl5.size)
                   have hx6 := cell_keep hb6 hx5
                   have q3 := htw6.a.1.cell 3
                   have q8 := htw6.a.1.cell 8
                   have q9 := htw6.z.cell 3
                   simp only [wrCells] at q3 q8)
                | (go_at_call 19
                   (with_reducible refine (hL _ q3 q8).mono ?_)
                   rintro r wA ⟨rfl, hbA⟩
                   have htwA := htw6.below hbA
                   have hblA := hbl6.trans (hbA.mono hbl6.size)
                   have hzA := Nat.le_trans hz6 hbA.size
                   have hxA := cell_keep hbA hx6
                   have qc := htwA.c.1.cell 2)
                | (go_at_call 28
                   (with_reducible refine (hR _ _ _ qc).mono ?_)
                   rintro r w7 ⟨rfl, hb7⟩
                   have htw7 := htwA.below hb7
                   have hbl7 := hblA.trans (hb7.mono hblA.size)
                   have hz7 := Nat.le_trans hzA hb7.size)
                | fail)

              all_goals (
                clear htwD hzD hblD hTD hxD htw hz hbl htw5 hz5 hbl5 hx5 htw6 hz6 hbl6 hx6 q3 q8 q9 htwA hblA hzA hxA qc hb5 hb6 hb7 hbA hP1 hP2 hL hR hd0
                have hBa := fun W h => writer_Bytes W B pb E F (lb) h hE2 hF2
                have hBc := fun W (v : Value) h => ref_Bytes W B (pc + 1) E F (lb) v hE1 hE2 hF1 hF2 h
                generalize bstr (by8 (packB (1 + E + F) (lb))) = S9 at hBa hBc
                go_wp2_with fail
                refine (hBa _ ⟨_, htw7.a⟩).mono ?_
                rintro r w8 ⟨rfl, hb8⟩
                have htw8 := htw7.below hb8
                have hbl8 := hbl7.trans (hb8.mono hbl7.size)
                have hz8 := Nat.le_trans hz7 hb8.size
                clear htw7 hbl7 hz7 hb8 hBa
                go_wp2_with fail
                refine (hBc _ _ htw8.c).mono ?_
                rintro r w9 ⟨rfl, hb9⟩
                have htwZ := htw8.below hb9
                have hblZ := hbl8.trans (hb9.mono hbl8.size)
                have hzZ := Nat.le_trans hz8 hb9.size
                clear htw8 hbl8 hz8 hb9 hBc
                go_wp2

                go_roundw
                case rel => exact ⟨i + 1, la, lb, _, _, _, _, by omega, by omega, by simp, vi (by omega), by first | omega | (simp only [List.length_append, List.length_cons, List.length_nil]; omega), by first | omega | (simp only [List.length_append, List.length_cons, List.length_nil]; omega), htwZ.swap, by omega, hblZ⟩
                case measure => first | (simp [intOf]; done) | (simp [intOf]; omega))
          · by_cases h3 : T = 3
            · subst h3
              go_upto_region 33 with (fail)
              have hd0 : Below wr.heap.size wr wr.drew := (Below.refl _ _).drew
              have htwD := htw.below hd0
              have hzD : B ≤ wr.drew.heap.size := hz
              have hblD : Below w.heap.size w wr.drew := hbl.drew
              have hTD : Tab wr.drew := hT.below hblD
              have hxD : wr.drew.cell? ⟨b0, off + i, none⟩ = some (.int .u64 (b : Int)) := hx
              go_region_held3 (fun w' => w'.cell? ⟨b0, off + i, none⟩ = some (.int .u64 (b : Int)))
                (first | exact hx | exact hx5 | exact hx6 | exact hxA | exact cell_keep hb7 hxA | go_keep)
                (first
                | (go_at_call 15
                   (with_reducible refine (writer_Put_none none (b : Int) _ (.inl rfl)).mono ?_)
                   rintro r w5 ⟨rfl, hb5⟩
                   have htw5 := htwD.below hb5
                   have hz5 := Nat.le_trans hzD hb5.size
                   have hbl5 := hblD.trans (hb5.mono hblD.size)
                   have hx5 := cell_keep hb5 hxD)
                | (go_at_call 27
                   (with_reducible refine (ref_Put_nil (b : Int) _).mono ?_)
                   rintro r w6 ⟨rfl, hb6⟩
                   have htw6 := htw5.below hb6
                   have hz6 := Nat.le_trans hz5 hb6.size
                   have hbl6 := hbl5.trans (hb6.mono hbl5.size)
                   have hx6 := cell_keep hb6 hx5
                   have q3 := htw6.a.1.cell 3
                   have q8 := htw6.a.1.cell 8
                   have q9 := htw6.z.cell 3
                   simp only [wrCells] at q3 q8)
                | (go_at_call 19
                   (with_reducible refine (writer_Len_none none _ (.inl rfl)).mono ?_)
                   rintro r wA ⟨rfl, hbA⟩
                   have htwA := htw6.below hbA
                   have hblA := hbl6.trans (hbA.mono hbl6.size)
                   have hzA := Nat.le_trans hz6 hbA.size
                   have hxA := cell_keep hbA hx6
                   have qc := htwA.c.1.cell 2)
                | (go_at_call 28
                   (with_reducible refine (ref_Len_nil _).mono ?_)
                   rintro r w7 ⟨rfl, hb7⟩
                   have htw7 := htwA.below hb7
                   have hbl7 := hblA.trans (hb7.mono hblA.size)
                   have hz7 := Nat.le_trans hzA hb7.size)
                | fail)

              all_goals (
                clear htwD hzD hblD hTD hxD htw hz hbl htw5 hz5 hbl5 hx5 htw6 hz6 hbl6 hx6 q3 q8 q9 htwA hblA hzA hxA qc hb5 hb6 hb7 hbA hd0
                go_wp2_with fail
                refine (writer_Bytes_none none _ (.inl rfl)).mono ?_
                rintro r w8 ⟨rfl, hb8⟩
                have htw8 := htw7.below hb8
                have hbl8 := hbl7.trans (hb8.mono hbl7.size)
                have hz8 := Nat.le_trans hz7 hb8.size
                clear htw7 hbl7 hz7 hb8
                go_wp2_with fail
                refine (ref_Bytes_nil _).mono ?_
                rintro r w9 ⟨rfl, hb9⟩
                have htwZ := htw8.below hb9
                have hblZ := hbl8.trans (hb9.mono hbl8.size)
                have hzZ := Nat.le_trans hz8 hb9.size
                clear htw8 hbl8 hz8 hb9
                go_wp2
                go_roundw
                case rel => exact ⟨i + 1, la, lb, _, _, _, _, by omega, by omega, by simp, vi (by omega), by first | omega | (simp only [List.length_append, List.length_cons, List.length_nil]; omega), by first | omega | (simp only [List.length_append, List.length_cons, List.length_nil]; omega), htwZ, by omega, hblZ⟩
                case measure => first | (simp [intOf]; done) | (simp [intOf]; omega))
            · by_cases h4 : T = 4
              · subst h4
                go_upto_region 33 with (fail)
                have hd0 : Below wr.heap.size wr wr.drew := (Below.refl _ _).drew
                have htwD := htw.below hd0
                have hzD : B ≤ wr.drew.heap.size := hz
                have hblD : Below w.heap.size w wr.drew := hbl.drew
                have hTD : Tab wr.drew := hT.below hblD
                have hxD : wr.drew.cell? ⟨b0, off + i, none⟩ = some (.int .u64 (b : Int)) := hx
                go_region_held3 (fun w' => w'.cell? ⟨b0, off + i, none⟩ = some (.int .u64 (b : Int)))
                  (first | exact hx | exact hx5 | exact hx6 | exact hxA | exact cell_keep hb7 hxA | go_keep)
                  (first
                  | (go_at_call 15
                     (with_reducible refine (writer_Put_none (some ⟨pc + 1 + 1, 0, none⟩) (b : Int) _ (.inr ⟨pc + 1 + 1, rfl, (show _ = _ from htwD.z.cell 3)⟩)).mono ?_)
                     rintro r w5 ⟨rfl, hb5⟩
                     have htw5 := htwD.below hb5
                     have hz5 := Nat.le_trans hzD hb5.size
                     have hbl5 := hblD.trans (hb5.mono hblD.size)
                     have hx5 := cell_keep hb5 hxD)
                  | (go_at_call 27
                     (with_reducible refine (ref_Put_nil (b : Int) _).mono ?_)
                     rintro r w6 ⟨rfl, hb6⟩
                     have htw6 := htw5.below hb6
                     have hz6 := Nat.le_trans hz5 hb6.size
                     have hbl6 := hbl5.trans (hb6.mono hbl5.size)
                     have hx6 := cell_keep hb6 hx5
                     have q3 := htw6.a.1.cell 3
                     have q8 := htw6.a.1.cell 8
                     have q9 := htw6.z.cell 3
                     simp only [wrCells] at q3 q8)
                  | (go_at_call 19
                     (with_reducible refine (writer_Len_none (some ⟨pc + 1 + 1, 0, none⟩) _ (.inr ⟨pc + 1 + 1, rfl, (show _ = _ from htw6.z.cell 3)⟩)).mono ?_)
                     rintro r wA ⟨rfl, hbA⟩
                     have htwA := htw6.below hbA
                     have hblA := hbl6.trans (hbA.mono hbl6.size)
                     have hzA := Nat.le_trans hz6 hbA.size
                     have hxA := cell_keep hbA hx6
                     have qc := htwA.c.1.cell 2)
                  | (go_at_call 28
                     (with_reducible refine (ref_Len_nil _).mono ?_)
                     rintro r w7 ⟨rfl, hb7⟩
                     have htw7 := htwA.below hb7
                     have hbl7 := hblA.trans (hb7.mono hblA.size)
                     have hz7 := Nat.le_trans hzA hb7.size)
                  | fail)

                all_goals (
                  clear htwD hzD hblD hTD hxD htw hz hbl htw5 hz5 hbl5 hx5 htw6 hz6 hbl6 hx6 q3 q8 q9 htwA hblA hzA hxA qc hb5 hb6 hb7 hbA hd0
                  go_wp2_with fail
                  refine (writer_Bytes_none (some ⟨pc + 1 + 1, 0, none⟩) _ (.inr ⟨pc + 1 + 1, rfl, (show _ = _ from htw7.z.cell 3)⟩)).mono ?_
                  rintro r w8 ⟨rfl, hb8⟩
                  have htw8 := htw7.below hb8
                  have hbl8 := hbl7.trans (hb8.mono hbl7.size)
                  have hz8 := Nat.le_trans hz7 hb8.size
                  clear htw7 hbl7 hz7 hb8
                  go_wp2_with fail
                  refine (ref_Bytes_nil _).mono ?_
                  rintro r w9 ⟨rfl, hb9⟩
                  have htwZ := htw8.below hb9
                  have hblZ := hbl8.trans (hb9.mono hbl8.size)
                  have hzZ := Nat.le_trans hz8 hb9.size
                  clear htw8 hbl8 hz8 hb9
                  go_wp2
                  go_roundw
                  case rel => exact ⟨i + 1, la, lb, _, _, _, _, by omega, by omega, by simp, vi (by omega), by first | omega | (simp only [List.length_append, List.length_cons, List.length_nil]; omega), by first | omega | (simp only [List.length_append, List.length_cons, List.length_nil]; omega), htwZ, by omega, hblZ⟩
                  case measure => first | (simp [intOf]; done) | (simp [intOf]; omega))
              · have t1 : (T == 1) = false := by rw [beq_eq_false_iff_ne]; exact h1
                have t2 : (T == 2) = false := by rw [beq_eq_false_iff_ne]; exact h2
                have t3 : (T == 3) = false := by rw [beq_eq_false_iff_ne]; exact h3
                have t4 : (T == 4) = false := by rw [beq_eq_false_iff_ne]; exact h4
                by_cases hge : 2 ≤ T
                · have t5 : decide ((2 : Int) ≤ T) = true := by simpa using hge
                  go_upto_region 33 with (fail)
                  by_cases hfit : fitE (E : Int) (F : Int) b = 0
                  · have hP1 := fun w5 h1 h2 h3 => writer_PutX w5 B pa E F la b ca h64 h1 hE1 hE2 hF1 hF2 h2 hTB h3
                    have hP2 := fun w5 h1 h3 => ref_Put w5 B (pc) E F la b vc h64 h1 hE1 hE2 hF1 hF2 h3
                    have hln : la.length < 65536 := by omega
                    have e1 : ∀ w5, PutX w5 B pa E F la b ca = fun en w' => en = .returned (.int .i64 0) ∧ ∃ cv', WrC w' B pa E F (la ++ [b]) cv' ∧ Below B w5 w' ∧ Stays w5 w' pa ca ∧ (∀ g, cv'.ownBlock = some g → (ca).ownBlock = some g ∨ w5.heap.size ≤ g) := by
                      intro w5; funext en w'; unfold PutX; rw [if_pos ⟨hfit, hln⟩]; rfl
                    have e2 : ∀ w5, PutR w5 B (pc) E F la b vc = fun en w' => en = .returned (.int .i64 0) ∧ ∃ v', RWC w' B (pc) E F (la ++ [b]) v' ∧ Below B w5 w' ∧ Stays w5 w' (pc) vc ∧ (∀ g, v'.ownBlock = some g → (vc).ownBlock = some g ∨ w5.heap.size ≤ g) := by
                      intro w5; funext en w'; unfold PutR; rw [if_pos ⟨hfit, hln⟩]; rfl
                    simp only [e1] at hP1
                    simp only [e2] at hP2
                    have hL := fun W h3 h8 => writer_Len pa (la ++ [b]).length W h3 h8
                    have hR := fun W k A h => ref_Len W (pc) (la ++ [b]).length k A h
                    have hll : (la ++ [b]).length = la.length + 1 := by simp
                    have hd0 : Below wr.heap.size wr wr.drew := (Below.refl _ _).drew
                    have htwD := htw.below hd0
                    have hzD : B ≤ wr.drew.heap.size := hz
                    have hblD : Below w.heap.size w wr.drew := hbl.drew
                    have hTD : Tab wr.drew := hT.below hblD
                    have hxD : wr.drew.cell? ⟨b0, off + i, none⟩ = some (.int .u64 (b : Int)) := hx
                    clear e1 e2 hfit
                    go_region_held3 (fun w' => w'.cell? ⟨b0, off + i, none⟩ = some (.int .u64 (b : Int)))
                      (first | exact hx | exact hx5 | exact hx6 | exact hxA | exact cell_keep hb7 hxA | go_keep)
                      (first
                      | (go_at_call 15
                         (with_reducible refine (hP1 _ hzD hTD htwD.a).mono ?_)
                         rintro r w5 ⟨rfl, cv5, k1, k2, k3, k4⟩
                         have htw5 := htwD.putA k1 k3 k4
                         have hz5 := Nat.le_trans hzD k2.size
                         have hbl5 := hblD.trans (k2.mono (Nat.le_of_lt hwB))
                         have hx5 := (k2.cell (p := ⟨b0, off + i, none⟩) hb0).trans hxD
                         clear k1 k2 k3 k4)
                      | (go_at_call 27
                         (with_reducible refine (hP2 _ hz5 htw5.c).mono ?_)
                         rintro r w6 ⟨rfl, v6, k1, k2, k3, k4⟩
                         have htw6 := htw5.putC k1 k3 k4
                         obtain ⟨A6, k6, rfl⟩ := k1.2.1.len.2
                         have hz6 := Nat.le_trans hz5 k2.size
                         have hbl6 := hbl5.trans (k2.mono (Nat.le_of_lt hwB))
                         have hx6 := (k2.cell (p := ⟨b0, off + i, none⟩) hb0).trans hx5
                         have q3 := htw6.a.1.cell 3
                         have q8 := htw6.a.1.cell 8
                         simp only [wrCells] at q3 q8
                         clear k1 k2 k3 k4)
                      | (go_at_call 19
                         (with_reducible refine (hL _ q3 q8).mono ?_)
                         rintro r wA ⟨rfl, hbA⟩
                         have htwA := htw6.below hbA
                         have hblA := hbl6.trans (hbA.mono hbl6.size)
                         have hzA := Nat.le_trans hz6 hbA.size
                         have hxA := cell_keep hbA hx6
                         have qc := htwA.c.1.cell 2)
                      | (go_at_call 28
                         (with_reducible refine (hR _ _ _ qc).mono ?_)
                         rintro r w7 ⟨rfl, hb7⟩
                         have htw7 := htwA.below hb7
                         have hbl7 := hblA.trans (hb7.mono hblA.size)
                         have hz7 := Nat.le_trans hzA hb7.size)
                      | fail)
                    all_goals (
                      clear htwD hzD hblD hTD hxD htw hz hbl htw5 hz5 hbl5 hx5 htw6 hz6 hbl6 hx6 q3 q8 htwA hblA hzA hxA qc hb7 hbA hP1 hP2 hL hR hd0
                      have hBa := fun W h => writer_Bytes W B pa E F (la ++ [b]) h hE2 hF2
                      have hBc := fun W (v : Value) h => ref_Bytes W B (pc) E F (la ++ [b]) v hE1 hE2 hF1 hF2 h
                      generalize bstr (by8 (packB (1 + E + F) (la ++ [b]))) = S9 at hBa hBc
                      go_wp2_with fail
                      refine (hBa _ ⟨_, htw7.a⟩).mono ?_
                      rintro r w8 ⟨rfl, hb8⟩
                      have htw8 := htw7.below hb8
                      have hbl8 := hbl7.trans (hb8.mono hbl7.size)
                      have hz8 := Nat.le_trans hz7 hb8.size
                      clear htw7 hbl7 hz7 hb8 hBa
                      go_wp2_with fail
                      refine (hBc _ _ htw8.c).mono ?_
                      rintro r w9 ⟨rfl, hb9⟩
                      have htwZ := htw8.below hb9
                      have hblZ := hbl8.trans (hb9.mono hbl8.size)
                      have hzZ := Nat.le_trans hz8 hb9.size
                      clear htw8 hbl8 hz8 hb9 hBc
                      go_wp2

                      go_roundw
                      case rel => exact ⟨i + 1, la ++ [b], lb, _, _, _, _, by omega, by omega, by simp, vi (by omega), by first | omega | (simp only [List.length_append, List.length_cons, List.length_nil]; omega), by first | omega | (simp only [List.length_append, List.length_cons, List.length_nil]; omega), htwZ, by omega, hblZ⟩
                      case measure => first | (simp [intOf]; done) | (simp [intOf]; omega))
                  · obtain ⟨G, hG⟩ : ∃ G, G = fitE (E : Int) (F : Int) b := ⟨_, rfl⟩
                    have hP1 := fun w5 h1 h2 h3 => writer_PutX w5 B pa E F la b ca h64 h1 hE1 hE2 hF1 hF2 h2 hTB h3
                    have hP2 := fun w5 h1 h3 => ref_Put w5 B (pc) E F la b vc h64 h1 hE1 hE2 hF1 hF2 h3
                    have e1 : ∀ w5, PutX w5 B pa E F la b ca = fun en w' => en = .returned (.int .i64 G) ∧ Below w5.heap.size w5 w' := by
                      intro w5; funext en w'; unfold PutX; rw [if_neg (fun h => hfit h.1), if_neg hfit, ← hG]
                    have e2 : ∀ w5, PutR w5 B (pc) E F la b vc = fun en w' => en = .returned (.int .i64 G) ∧ Below w5.heap.size w5 w' := by
                      intro w5; funext en w'; unfold PutR; rw [if_neg (fun h => hfit h.1), if_neg hfit, ← hG]
                    simp only [e1] at hP1
                    simp only [e2] at hP2
                    have hL := fun W h3 h8 => writer_Len pa la.length W h3 h8
                    have hR := fun W k A h => ref_Len W (pc) la.length k A h
                    obtain ⟨A0, k0, hv0⟩ := htw.c.2.1.len.2
                    rw [hv0] at htw hP2
                    clear e1 e2 hfit hG hv0
                    have hd0 : Below wr.heap.size wr wr.drew := (Below.refl _ _).drew
                    have htwD := htw.below hd0
                    have hzD : B ≤ wr.drew.heap.size := hz
                    have hblD : Below w.heap.size w wr.drew := hbl.drew
                    have hTD : Tab wr.drew := hT.below hblD
                    have hxD : wr.drew.cell? ⟨b0, off + i, none⟩ = some (.int .u64 (b : Int)) := hx
                    go_region_held3 (fun w' => w'.cell? ⟨b0, off + i, none⟩ = some (.int .u64 (b : Int)))
                      (first | exact hx | exact hx5 | exact hx6 | exact hxA | exact cell_keep hb7 hxA | go_keep)
                      (first
                      | (go_at_call 15
                         (with_reducible refine (hP1 _ hzD hTD htwD.a).mono ?_)
                         rintro r w5 ⟨rfl, hb5⟩
                         have htw5 := htwD.below hb5
                         have hz5 := Nat.le_trans hzD hb5.size
                         have hbl5 := hblD.trans (hb5.mono hblD.size)
                         have hx5 := cell_keep hb5 hxD)
                      | (go_at_call 27
                         (with_reducible refine (hP2 _ hz5 htw5.c).mono ?_)
                         rintro r w6 ⟨rfl, hb6⟩
                         have htw6 := htw5.below hb6
                         have hz6 := Nat.le_trans hz5 hb6.size
                         have hbl6 := hbl5.trans (hb6.mono hbl5.size)
                         have hx6 := cell_keep hb6 hx5
                         have q3 := htw6.a.1.cell 3
                         have q8 := htw6.a.1.cell 8
                         have q9 := htw6.z.cell 3
                         simp only [wrCells] at q3 q8)
                      | (go_at_call 19
                         (with_reducible refine (hL _ q3 q8).mono ?_)
                         rintro r wA ⟨rfl, hbA⟩
                         have htwA := htw6.below hbA
                         have hblA := hbl6.trans (hbA.mono hbl6.size)
                         have hzA := Nat.le_trans hz6 hbA.size
                         have hxA := cell_keep hbA hx6
                         have qc := htwA.c.1.cell 2)
                      | (go_at_call 28
                         (with_reducible refine (hR _ _ _ qc).mono ?_)
                         rintro r w7 ⟨rfl, hb7⟩
                         have htw7 := htwA.below hb7
                         have hbl7 := hblA.trans (hb7.mono hblA.size)
                         have hz7 := Nat.le_trans hzA hb7.size)
                      | fail)

                    all_goals (
                      clear htwD hzD hblD hTD hxD htw hz hbl htw5 hz5 hbl5 hx5 htw6 hz6 hbl6 hx6 q3 q8 q9 htwA hblA hzA hxA qc hb5 hb6 hb7 hbA hP1 hP2 hL hR hd0
                      have hBa := fun W h => writer_Bytes W B pa E F (la) h hE2 hF2
                      have hBc := fun W (v : Value) h => ref_Bytes W B (pc) E F (la) v hE1 hE2 hF1 hF2 h
                      generalize bstr (by8 (packB (1 + E + F) (la))) = S9 at hBa hBc
                      go_wp2_with fail
                      refine (hBa _ ⟨_, htw7.a⟩).mono ?_
                      rintro r w8 ⟨rfl, hb8⟩
                      have htw8 := htw7.below hb8
                      have hbl8 := hbl7.trans (hb8.mono hbl7.size)
                      have hz8 := Nat.le_trans hz7 hb8.size
                      clear htw7 hbl7 hz7 hb8 hBa
                      go_wp2_with fail
                      refine (hBc _ _ htw8.c).mono ?_
                      rintro r w9 ⟨rfl, hb9⟩
                      have htwZ := htw8.below hb9
                      have hblZ := hbl8.trans (hb9.mono hbl8.size)
                      have hzZ := Nat.le_trans hz8 hb9.size
                      clear htw8 hbl8 hz8 hb9 hBc
                      go_wp2

                      go_roundw
                      case rel => exact ⟨i + 1, la, lb, _, _, _, _, by omega, by omega, by simp, vi (by omega), by first | omega | (simp only [List.length_append, List.length_cons, List.length_nil]; omega), by first | omega | (simp only [List.length_append, List.length_cons, List.length_nil]; omega), htwZ, by omega, hblZ⟩
                      case measure => first | (simp [intOf]; done) | (simp [intOf]; omega))
                · have t5 : decide ((2 : Int) ≤ T) = false := by simpa using hge
                  go_upto_region 33 with (fail)
                  by_cases hfit : fitE (E : Int) (F : Int) b = 0
                  · have hP1 := fun w5 h1 h2 h3 => writer_PutX w5 B pa E F la b ca h64 h1 hE1 hE2 hF1 hF2 h2 hTB h3
                    have hP2 := fun w5 h1 h3 => ref_Put w5 B (pc) E F la b vc h64 h1 hE1 hE2 hF1 hF2 h3
                    have hln : la.length < 65536 := by omega
                    have e1 : ∀ w5, PutX w5 B pa E F la b ca = fun en w' => en = .returned (.int .i64 0) ∧ ∃ cv', WrC w' B pa E F (la ++ [b]) cv' ∧ Below B w5 w' ∧ Stays w5 w' pa ca ∧ (∀ g, cv'.ownBlock = some g → (ca).ownBlock = some g ∨ w5.heap.size ≤ g) := by
                      intro w5; funext en w'; unfold PutX; rw [if_pos ⟨hfit, hln⟩]; rfl
                    have e2 : ∀ w5, PutR w5 B (pc) E F la b vc = fun en w' => en = .returned (.int .i64 0) ∧ ∃ v', RWC w' B (pc) E F (la ++ [b]) v' ∧ Below B w5 w' ∧ Stays w5 w' (pc) vc ∧ (∀ g, v'.ownBlock = some g → (vc).ownBlock = some g ∨ w5.heap.size ≤ g) := by
                      intro w5; funext en w'; unfold PutR; rw [if_pos ⟨hfit, hln⟩]; rfl
                    simp only [e1] at hP1
                    simp only [e2] at hP2
                    have hL := fun W h3 h8 => writer_Len pa (la ++ [b]).length W h3 h8
                    have hR := fun W k A h => ref_Len W (pc) (la ++ [b]).length k A h
                    have hll : (la ++ [b]).length = la.length + 1 := by simp
                    have hd0 : Below wr.heap.size wr wr.drew := (Below.refl _ _).drew
                    have htwD := htw.below hd0
                    have hzD : B ≤ wr.drew.heap.size := hz
                    have hblD : Below w.heap.size w wr.drew := hbl.drew
                    have hTD : Tab wr.drew := hT.below hblD
                    have hxD : wr.drew.cell? ⟨b0, off + i, none⟩ = some (.int .u64 (b : Int)) := hx
                    clear e1 e2 hfit
                    go_region_held3 (fun w' => w'.cell? ⟨b0, off + i, none⟩ = some (.int .u64 (b : Int)))
                      (first | exact hx | exact hx5 | exact hx6 | exact hxA | exact cell_keep hb7 hxA | go_keep)
                      (first
                      | (go_at_call 15
                         (with_reducible refine (hP1 _ hzD hTD htwD.a).mono ?_)
                         rintro r w5 ⟨rfl, cv5, k1, k2, k3, k4⟩
                         have htw5 := htwD.putA k1 k3 k4
                         have hz5 := Nat.le_trans hzD k2.size
                         have hbl5 := hblD.trans (k2.mono (Nat.le_of_lt hwB))
                         have hx5 := (k2.cell (p := ⟨b0, off + i, none⟩) hb0).trans hxD
                         clear k1 k2 k3 k4)
                      | (go_at_call 27
                         (with_reducible refine (hP2 _ hz5 htw5.c).mono ?_)
                         rintro r w6 ⟨rfl, v6, k1, k2, k3, k4⟩
                         have htw6 := htw5.putC k1 k3 k4
                         obtain ⟨A6, k6, rfl⟩ := k1.2.1.len.2
                         have hz6 := Nat.le_trans hz5 k2.size
                         have hbl6 := hbl5.trans (k2.mono (Nat.le_of_lt hwB))
                         have hx6 := (k2.cell (p := ⟨b0, off + i, none⟩) hb0).trans hx5
                         have q3 := htw6.a.1.cell 3
                         have q8 := htw6.a.1.cell 8
                         simp only [wrCells] at q3 q8
                         clear k1 k2 k3 k4)
                      | (go_at_call 19
                         (with_reducible refine (hL _ q3 q8).mono ?_)
                         rintro r wA ⟨rfl, hbA⟩
                         have htwA := htw6.below hbA
                         have hblA := hbl6.trans (hbA.mono hbl6.size)
                         have hzA := Nat.le_trans hz6 hbA.size
                         have hxA := cell_keep hbA hx6
                         have qc := htwA.c.1.cell 2)
                      | (go_at_call 28
                         (with_reducible refine (hR _ _ _ qc).mono ?_)
                         rintro r w7 ⟨rfl, hb7⟩
                         have htw7 := htwA.below hb7
                         have hbl7 := hblA.trans (hb7.mono hblA.size)
                         have hz7 := Nat.le_trans hzA hb7.size)
                      | fail)
                    all_goals (
                      clear htwD hzD hblD hTD hxD htw hz hbl htw5 hz5 hbl5 hx5 htw6 hz6 hbl6 hx6 q3 q8 htwA hblA hzA hxA qc hb7 hbA hP1 hP2 hL hR hd0
                      by_cases hlast : i + 1 = l.length
                      · have d9 : (((i : Nat) : Int) == ((l.length : Nat) : Int) - 1) = true := by rw [beq_iff_eq]; omega
                        clear hlast
                        have hBa := fun W h => writer_Bytes W B pa E F (la ++ [b]) h hE2 hF2
                        have hBc := fun W (v : Value) h => ref_Bytes W B (pc) E F (la ++ [b]) v hE1 hE2 hF1 hF2 h
                        generalize bstr (by8 (packB (1 + E + F) (la ++ [b]))) = S9 at hBa hBc
                        go_wp2_with fail
                        refine (hBa _ ⟨_, htw7.a⟩).mono ?_
                        rintro r w8 ⟨rfl, hb8⟩
                        have htw8 := htw7.below hb8
                        have hbl8 := hbl7.trans (hb8.mono hbl7.size)
                        have hz8 := Nat.le_trans hz7 hb8.size
                        clear htw7 hbl7 hz7 hb8 hBa
                        go_wp2_with fail
                        refine (hBc _ _ htw8.c).mono ?_
                        rintro r w9 ⟨rfl, hb9⟩
                        have htwZ := htw8.below hb9
                        have hblZ := hbl8.trans (hb9.mono hbl8.size)
                        have hzZ := Nat.le_trans hz8 hb9.size
                        clear htw8 hbl8 hz8 hb9 hBc
                        go_wp2

                        go_roundw
                        case rel => exact ⟨i + 1, la ++ [b], lb, _, _, _, _, by omega, by omega, by simp, vi (by omega), by first | omega | (simp only [List.length_append, List.length_cons, List.length_nil]; omega), by first | omega | (simp only [List.length_append, List.length_cons, List.length_nil]; omega), htwZ, by omega, hblZ⟩
                        case measure => first | (simp [intOf]; done) | (simp [intOf]; omega)

                      · have d9 : (((i : Nat) : Int) == ((l.length : Nat) : Int) - 1) = false := by rw [beq_eq_false_iff_ne]; omega
                        clear hlast
                        have htwZ := htw7
                        have hblZ := hbl7
                        have hzZ := hz7
                        clear htw7 hbl7 hz7
                        go_wp2
                        go_roundw
                        case rel => exact ⟨i + 1, la ++ [b], lb, _, _, _, _, by omega, by omega, by simp, vi (by omega), by first | omega | (simp only [List.length_append, List.length_cons, List.length_nil]; omega), by first | omega | (simp only [List.length_append, List.length_cons, List.length_nil]; omega), htwZ, by omega, hblZ⟩
                        case measure => first | (simp [intOf]; done) | (simp [intOf]; omega))
                  · obtain ⟨G, hG⟩ : ∃ G, G = fitE (E : Int) (F : Int) b := ⟨_, rfl⟩
                    have hP1 := fun w5 h1 h2 h3 => writer_PutX w5 B pa E F la b ca h64 h1 hE1 hE2 hF1 hF2 h2 hTB h3
                    have hP2 := fun w5 h1 h3 => ref_Put w5 B (pc) E F la b vc h64 h1 hE1 hE2 hF1 hF2 h3
                    have e1 : ∀ w5, PutX w5 B pa E F la b ca = fun en w' => en = .returned (.int .i64 G) ∧ Below w5.heap.size w5 w' := by
                      intro w5; funext en w'; unfold PutX; rw [if_neg (fun h => hfit h.1), if_neg hfit, ← hG]
                    have e2 : ∀ w5, PutR w5 B (pc) E F la b vc = fun en w' => en = .returned (.int .i64 G) ∧ Below w5.heap.size w5 w' := by
                      intro w5; funext en w'; unfold PutR; rw [if_neg (fun h => hfit h.1), if_neg hfit, ← hG]
                    simp only [e1] at hP1
                    simp only [e2] at hP2
                    have hL := fun W h3 h8 => writer_Len pa la.length W h3 h8
                    have hR := fun W k A h => ref_Len W (pc) la.length k A h
                    obtain ⟨A0, k0, hv0⟩ := htw.c.2.1.len.2
                    rw [hv0] at htw hP2
                    clear e1 e2 hfit hG hv0
                    have hd0 : Below wr.heap.size wr wr.drew := (Below.refl _ _).drew
                    have htwD := htw.below hd0
                    have hzD : B ≤ wr.drew.heap.size := hz
                    have hblD : Below w.heap.size w wr.drew := hbl.drew
                    have hTD : Tab wr.drew := hT.below hblD
                    have hxD : wr.drew.cell? ⟨b0, off + i, none⟩ = some (.int .u64 (b : Int)) := hx
                    go_region_held3 (fun w' => w'.cell? ⟨b0, off + i, none⟩ = some (.int .u64 (b : Int)))
                      (first | exact hx | exact hx5 | exact hx6 | exact hxA | exact cell_keep hb7 hxA | go_keep)
                      (first
                      | (go_at_call 15
                         (with_reducible refine (hP1 _ hzD hTD htwD.a).mono ?_)
                         rintro r w5 ⟨rfl, hb5⟩
                         have htw5 := htwD.below hb5
                         have hz5 := Nat.le_trans hzD hb5.size
                         have hbl5 := hblD.trans (hb5.mono hblD.size)
                         have hx5 := cell_keep hb5 hxD)
                      | (go_at_call 27
                         (with_reducible refine (hP2 _ hz5 htw5.c).mono ?_)
                         rintro r w6 ⟨rfl, hb6⟩
                         have htw6 := htw5.below hb6
                         have hz6 := Nat.le_trans hz5 hb6.size
                         have hbl6 := hbl5.trans (hb6.mono hbl5.size)
                         have hx6 := cell_keep hb6 hx5
                         have q3 := htw6.a.1.cell 3
                         have q8 := htw6.a.1.cell 8
                         have q9 := htw6.z.cell 3
                         simp only [wrCells] at q3 q8)
                      | (go_at_call 19
                         (with_reducible refine (hL _ q3 q8).mono ?_)
                         rintro r wA ⟨rfl, hbA⟩
                         have htwA := htw6.below hbA
                         have hblA := hbl6.trans (hbA.mono hbl6.size)
                         have hzA := Nat.le_trans hz6 hbA.size
                         have hxA := cell_keep hbA hx6
                         have qc := htwA.c.1.cell 2)
                      | (go_at_call 28
                         (with_reducible refine (hR _ _ _ qc).mono ?_)
                         rintro r w7 ⟨rfl, hb7⟩
                         have htw7 := htwA.below hb7
                         have hbl7 := hblA.trans (hb7.mono hblA.size)
                         have hz7 := Nat.le_trans hzA hb7.size)
                      | fail)

                    all_goals (
                      clear htwD hzD hblD hTD hxD htw hz hbl htw5 hz5 hbl5 hx5 htw6 hz6 hbl6 hx6 q3 q8 q9 htwA hblA hzA hxA qc hb5 hb6 hb7 hbA hP1 hP2 hL hR hd0
                      by_cases hlast : i + 1 = l.length
                      · have d9 : (((i : Nat) : Int) == ((l.length : Nat) : Int) - 1) = true := by rw [beq_iff_eq]; omega
                        clear hlast
                        have hBa := fun W h => writer_Bytes W B pa E F (la) h hE2 hF2
                        have hBc := fun W (v : Value) h => ref_Bytes W B (pc) E F (la) v hE1 hE2 hF1 hF2 h
                        generalize bstr (by8 (packB (1 + E + F) (la))) = S9 at hBa hBc
                        go_wp2_with fail
                        refine (hBa _ ⟨_, htw7.a⟩).mono ?_
                        rintro r w8 ⟨rfl, hb8⟩
                        have htw8 := htw7.below hb8
                        have hbl8 := hbl7.trans (hb8.mono hbl7.size)
                        have hz8 := Nat.le_trans hz7 hb8.size
                        clear htw7 hbl7 hz7 hb8 hBa
                        go_wp2_with fail
                        refine (hBc _ _ htw8.c).mono ?_
                        rintro r w9 ⟨rfl, hb9⟩
                        have htwZ := htw8.below hb9
                        have hblZ := hbl8.trans (hb9.mono hbl8.size)
                        have hzZ := Nat.le_trans hz8 hb9.size
                        clear htw8 hbl8 hz8 hb9 hBc
                        go_wp2

                        go_roundw
                        case rel => exact ⟨i + 1, la, lb, _, _, _, _, by omega, by omega, by simp, vi (by omega), by first | omega | (simp only [List.length_append, List.length_cons, List.length_nil]; omega), by first | omega | (simp only [List.length_append, List.length_cons, List.length_nil]; omega), htwZ, by omega, hblZ⟩
                        case measure => first | (simp [intOf]; done) | (simp [intOf]; omega)

                      · have d9 : (((i : Nat) : Int) == ((l.length : Nat) : Int) - 1) = false := by rw [beq_eq_false_iff_ne]; omega
                        clear hlast
                        have htwZ := htw7
                        have hblZ := hbl7
                        have hzZ := hz7
                        clear htw7 hbl7 hz7
                        go_wp2
                        go_roundw
                        case rel => exact ⟨i + 1, la, lb, _, _, _, _, by omega, by omega, by simp, vi (by omega), by first | omega | (simp only [List.length_append, List.length_cons, List.length_nil]; omega), by first | omega | (simp only [List.length_append, List.length_cons, List.length_nil]; omega), htwZ, by omega, hblZ⟩
                        case measure => first | (simp [intOf]; done) | (simp [intOf]; omega))
      · have dn : decide (((i : Nat) : Int) < ((n2 : Nat) : Int)) = false := by simp; omega
        go_upto_region 33 with (fail)
        by_cases hfit : fitE (E : Int) (F : Int) b = 0
        · have hP1 := fun w5 h1 h2 h3 => writer_PutX w5 B pa E F la b ca h64 h1 hE1 hE2 hF1 hF2 h2 hTB h3
          have hP2 := fun w5 h1 h3 => ref_Put w5 B (pc) E F la b vc h64 h1 hE1 hE2 hF1 hF2 h3
          have hln : la.length < 65536 := by omega
          have e1 : ∀ w5, PutX w5 B pa E F la b ca = fun en w' => en = .returned (.int .i64 0) ∧ ∃ cv', WrC w' B pa E F (la ++ [b]) cv' ∧ Below B w5 w' ∧ Stays w5 w' pa ca ∧ (∀ g, cv'.ownBlock = some g → (ca).ownBlock = some g ∨ w5.heap.size ≤ g) := by
            intro w5; funext en w'; unfold PutX; rw [if_pos ⟨hfit, hln⟩]; rfl
          have e2 : ∀ w5, PutR w5 B (pc) E F la b vc = fun en w' => en = .returned (.int .i64 0) ∧ ∃ v', RWC w' B (pc) E F (la ++ [b]) v' ∧ Below B w5 w' ∧ Stays w5 w' (pc) vc ∧ (∀ g, v'.ownBlock = some g → (vc).ownBlock = some g ∨ w5.heap.size ≤ g) := by
            intro w5; funext en w'; unfold PutR; rw [if_pos ⟨hfit, hln⟩]; rfl
          simp only [e1] at hP1
          simp only [e2] at hP2
          have hL := fun W h3 h8 => writer_Len pa (la ++ [b]).length W h3 h8
          have hR := fun W k A h => ref_Len W (pc) (la ++ [b]).length k A h
          have hll : (la ++ [b]).length = la.length + 1 := by simp
          have hd0 : Below wr.heap.size wr wr.drew := (Below.refl _ _).drew
          have htwD := htw.below hd0
          have hzD : B ≤ wr.drew.heap.size := hz
          have hblD : Below w.heap.size w wr.drew := hbl.drew
          have hTD : Tab wr.drew := hT.below hblD
          have hxD : wr.drew.cell? ⟨b0, off + i, none⟩ = some (.int .u64 (b : Int)) := hx
          clear e1 e2 hfit
          go_region_held3 (fun w' => w'.cell? ⟨b0, off + i, none⟩ = some (.int .u64 (b : Int)))
            (first | exact hx | exact hx5 | exact hx6 | exact hxA | exact cell_keep hb7 hxA | go_keep)
            (first
            | (go_at_call 15
               (with_reducible refine (hP1 _ hzD hTD htwD.a).mono ?_)
               rintro r w5 ⟨rfl, cv5, k1, k2, k3, k4⟩
               have htw5 := htwD.putA k1 k3 k4
               have hz5 := Nat.le_trans hzD k2.size
               have hbl5 := hblD.trans (k2.mono (Nat.le_of_lt hwB))
               have hx5 := (k2.cell (p := ⟨b0, off + i, none⟩) hb0).trans hxD
               clear k1 k2 k3 k4)
            | (go_at_call 27
               (with_reducible refine (hP2 _ hz5 htw5.c).mono ?_)
               rintro r w6 ⟨rfl, v6, k1, k2, k3, k4⟩
               have htw6 := htw5.putC k1 k3 k4
               obtain ⟨A6, k6, rfl⟩ := k1.2.1.len.2
               have hz6 := Nat.le_trans hz5 k2.size
               have hbl6 := hbl5.trans (k2.mono (Nat.le_of_lt hwB))
               have hx6 := (k2.cell (p := ⟨b0, off + i, none⟩) hb0).trans hx5
               have q3 := htw6.a.1.cell 3
               have q8 := htw6.a.1.cell 8
               simp only [wrCells] at q3 q8
               clear k1 k2 k3 k4)
            | (go_at_call 19
               (with_reducible refine (hL _ q3 q8).mono ?_)
               rintro r wA ⟨rfl, hbA⟩
               have htwA := htw6.below hbA
               have hblA := hbl6.trans (hbA.mono hbl6.size)
               have hzA := Nat.le_trans hz6 hbA.size
               have hxA := cell_keep hbA hx6
               have qc := htwA.c.1.cell 2)
            | (go_at_call 28
               (with_reducible refine (hR _ _ _ qc).mono ?_)
               rintro r w7 ⟨rfl, hb7⟩
               have htw7 := htwA.below hb7
               have hbl7 := hblA.trans (hb7.mono hblA.size)
               have hz7 := Nat.le_trans hzA hb7.size)
            | fail)
          all_goals (
            clear htwD hzD hblD hTD hxD htw hz hbl htw5 hz5 hbl5 hx5 htw6 hz6 hbl6 hx6 q3 q8 htwA hblA hzA hxA qc hb7 hbA hP1 hP2 hL hR hd0
            by_cases hlast : i + 1 = l.length
            · have d9 : (((i : Nat) : Int) == ((l.length : Nat) : Int) - 1) = true := by rw [beq_iff_eq]; omega
              clear hlast
              have hBa := fun W h => writer_Bytes W B pa E F (la ++ [b]) h hE2 hF2
              have hBc := fun W (v : Value) h => ref_Bytes W B (pc) E F (la ++ [b]) v hE1 hE2 hF1 hF2 h
              generalize bstr (by8 (packB (1 + E + F) (la ++ [b]))) = S9 at hBa hBc
              go_wp2_with fail
              refine (hBa _ ⟨_, htw7.a⟩).mono ?_
              rintro r w8 ⟨rfl, hb8⟩
              have htw8 := htw7.below hb8
              have hbl8 := hbl7.trans (hb8.mono hbl7.size)
              have hz8 := Nat.le_trans hz7 hb8.size
              clear htw7 hbl7 hz7 hb8 hBa
              go_wp2_with fail
              refine (hBc _ _ htw8.c).mono ?_
              rintro r w9 ⟨rfl, hb9⟩
              have htwZ := htw8.below hb9
              have hblZ := hbl8.trans (hb9.mono hbl8.size)
              have hzZ := Nat.le_trans hz8 hb9.size
              clear htw8 hbl8 hz8 hb9 hBc
              go_wp2

              go_roundw
              case rel => exact ⟨i + 1, la ++ [b], lb, _, _, _, _, by omega, by omega, by simp, vi (by omega), by first | omega | (simp only [List.length_append, List.length_cons, List.length_nil]; omega), by first | omega | (simp only [List.length_append, List.length_cons, List.length_nil]; omega), htwZ, by omega, hblZ⟩
              case measure => first | (simp [intOf]; done) | (simp [intOf]; omega)

            · have d9 : (((i : Nat) : Int) == ((l.length : Nat) : Int) - 1) = false := by rw [beq_eq_false_iff_ne]; omega
              clear hlast
              have htwZ := htw7
              have hblZ := hbl7
              have hzZ := hz7
              clear htw7 hbl7 hz7
              go_wp2
              go_roundw
              case rel => exact ⟨i + 1, la ++ [b], lb, _, _, _, _, by omega, by omega, by simp, vi (by omega), by first | omega | (simp only [List.length_append, List.length_cons, List.length_nil]; omega), by first | omega | (simp only [List.length_append, List.length_cons, List.length_nil]; omega), htwZ, by omega, hblZ⟩
              case measure => first | (simp [intOf]; done) | (simp [intOf]; omega))
        · obtain ⟨G, hG⟩ : ∃ G, G = fitE (E : Int) (F : Int) b := ⟨_, rfl⟩
          have hP1 := fun w5 h1 h2 h3 => writer_PutX w5 B pa E F la b ca h64 h1 hE1 hE2 hF1 hF2 h2 hTB h3
          have hP2 := fun w5 h1 h3 => ref_Put w5 B (pc) E F la b vc h64 h1 hE1 hE2 hF1 hF2 h3
          have e1 : ∀ w5, PutX w5 B pa E F la b ca = fun en w' => en = .returned (.int .i64 G) ∧ Below w5.heap.size w5 w' := by
            intro w5; funext en w'; unfold PutX; rw [if_neg (fun h => hfit h.1), if_neg hfit, ← hG]
          have e2 : ∀ w5, PutR w5 B (pc) E F la b vc = fun en w' => en = .returned (.int .i64 G) ∧ Below w5.heap.size w5 w' := by
            intro w5; funext en w'; unfold PutR; rw [if_neg (fun h => hfit h.1), if_neg hfit, ← hG]
          simp only [e1] at hP1
          simp only [e2] at hP2
          have hL := fun W h3 h8 => writer_Len pa la.length W h3 h8
          have hR := fun W k A h => ref_Len W (pc) la.length k A h
          obtain ⟨A0, k0, hv0⟩ := htw.c.2.1.len.2
          rw [hv0] at htw hP2
          clear e1 e2 hfit hG hv0
          have hd0 : Below wr.heap.size wr wr.drew := (Below.refl _ _).drew
          have htwD := htw.below hd0
          have hzD : B ≤ wr.drew.heap.size := hz
          have hblD : Below w.heap.size w wr.drew := hbl.drew
          have hTD : Tab wr.drew := hT.below hblD
          have hxD : wr.drew.cell? ⟨b0, off + i, none⟩ = some (.int .u64 (b : Int)) := hx
          go_region_held3 (fun w' => w'.cell? ⟨b0, off + i, none⟩ = some (.int .u64 (b : Int)))
            (first | exact hx | exact hx5 | exact hx6 | exact hxA | exact cell_keep hb7 hxA | go_keep)
            (first
            | (go_at_call 15
               (with_reducible refine (hP1 _ hzD hTD htwD.a).mono ?_)
               rintro r w5 ⟨rfl, hb5⟩
               have htw5 := htwD.below hb5
               have hz5 := Nat.le_trans hzD hb5.size
               have hbl5 := hblD.trans (hb5.mono hblD.size)
               have hx5 := cell_keep hb5 hxD)
            | (go_at_call 27
               (with_reducible refine (hP2 _ hz5 htw5.c).mono ?_)
               rintro r w6 ⟨rfl, hb6⟩
               have htw6 := htw5.below hb6
               have hz6 := Nat.le_trans hz5 hb6.size
               have hbl6 := hbl5.trans (hb6.mono hbl5.size)
               have hx6 := cell_keep hb6 hx5
               have q3 := htw6.a.1.cell 3
               have q8 := htw6.a.1.cell 8
               have q9 := htw6.z.cell 3
               simp only [wrCells] at q3 q8)
            | (go_at_call 19
               (with_reducible refine (hL _ q3 q8).mono ?_)
               rintro r wA ⟨rfl, hbA⟩
               have htwA := htw6.below hbA
               have hblA := hbl6.trans (hbA.mono hbl6.size)
               have hzA := Nat.le_trans hz6 hbA.size
               have hxA := cell_keep hbA hx6
               have qc := htwA.c.1.cell 2)
            | (go_at_call 28
               (with_reducible refine (hR _ _ _ qc).mono ?_)
               rintro r w7 ⟨rfl, hb7⟩
               have htw7 := htwA.below hb7
               have hbl7 := hblA.trans (hb7.mono hblA.size)
               have hz7 := Nat.le_trans hzA hb7.size)
            | fail)

          all_goals (
            clear htwD hzD hblD hTD hxD htw hz hbl htw5 hz5 hbl5 hx5 htw6 hz6 hbl6 hx6 q3 q8 q9 htwA hblA hzA hxA qc hb5 hb6 hb7 hbA hP1 hP2 hL hR hd0
            by_cases hlast : i + 1 = l.length
            · have d9 : (((i : Nat) : Int) == ((l.length : Nat) : Int) - 1) = true := by rw [beq_iff_eq]; omega
              clear hlast
              have hBa := fun W h => writer_Bytes W B pa E F (la) h hE2 hF2
              have hBc := fun W (v : Value) h => ref_Bytes W B (pc) E F (la) v hE1 hE2 hF1 hF2 h
              generalize bstr (by8 (packB (1 + E + F) (la))) = S9 at hBa hBc
              go_wp2_with fail
              refine (hBa _ ⟨_, htw7.a⟩).mono ?_
              rintro r w8 ⟨rfl, hb8⟩
              have htw8 := htw7.below hb8
              have hbl8 := hbl7.trans (hb8.mono hbl7.size)
              have hz8 := Nat.le_trans hz7 hb8.size
              clear htw7 hbl7 hz7 hb8 hBa
              go_wp2_with fail
              refine (hBc _ _ htw8.c).mono ?_
              rintro r w9 ⟨rfl, hb9⟩
              have htwZ := htw8.below hb9
              have hblZ := hbl8.trans (hb9.mono hbl8.size)
              have hzZ := Nat.le_trans hz8 hb9.size
              clear htw8 hbl8 hz8 hb9 hBc
              go_wp2

              go_roundw
              case rel => exact ⟨i + 1, la, lb, _, _, _, _, by omega, by omega, by simp, vi (by omega), by first | omega | (simp only [List.length_append, List.length_cons, List.length_nil]; omega), by first | omega | (simp only [List.length_append, List.length_cons, List.length_nil]; omega), htwZ, by omega, hblZ⟩
              case measure => first | (simp [intOf]; done) | (simp [intOf]; omega)

            · have d9 : (((i : Nat) : Int) == ((l.length : Nat) : Int) - 1) = false := by rw [beq_eq_false_iff_ne]; omega
              clear hlast
              have htwZ := htw7
              have hblZ := hbl7
              have hzZ := hz7
              clear htw7 hbl7 hz7
              go_wp2
              go_roundw
              case rel => exact ⟨i + 1, la, lb, _, _, _, _, by omega, by omega, by simp, vi (by omega), by first | omega | (simp only [List.length_append, List.length_cons, List.length_nil]; omega), by first | omega | (simp only [List.length_append, List.length_cons, List.length_nil]; omega), htwZ, by omega, hblZ⟩
              case measure => first | (simp [intOf]; done) | (simp [intOf]; omega))
    ·
      have hg : (¬ i < l.length ∧ decide (((i : Nat) : Int) < ((l.length : Nat) : Int)) = false) ∨ (i < l.length ∧ ¬ i < 300 ∧ decide (((i : Nat) : Int) < ((l.length : Nat) : Int)) = true ∧ decide (((i : Nat) : Int) < 300) = false) := by
        by_cases h1 : i < l.length
        · right; refine ⟨h1, by omega, ?_, ?_⟩
          · simp; omega
          · simp; omega
        · left; refine ⟨h1, ?_⟩; simp; omega
      have hBa := fun W h => writer_Bytes W B pa E F la h hE2 hF2
      have hBb := fun W h => writer_Bytes W B pb E F lb h hE2 hF2
      have hBc := fun W (v : Value) h => ref_Bytes W B pc E F la v hE1 hE2 hF1 hF2 h
      have hBd := fun W (v : Value) h => ref_Bytes W B (pc + 1) E F lb v hE1 hE2 hF1 hF2 h
      generalize bstr (by8 (packB (1 + E + F) la)) = S1 at hBa hBc
      generalize bstr (by8 (packB (1 + E + F) lb)) = S2 at hBb hBd
      have hLa := fun W h3 h8 => writer_Len pa la.length W h3 h8
      have hLb := fun W h3 h8 => writer_Len pb lb.length W h3 h8
      have hRa := fun W k A h => ref_Len W pc la.length k A h
      have hRb := fun W k A h => ref_Len W (pc + 1) lb.length k A h
      clear hlt hi hi3 hla hlb
      rcases hg with ⟨d3, d1⟩ | ⟨d3, d4, d1, d2⟩
      all_goals (
        go_wp2_with fail
        refine (hBa _ ⟨_, htw.a⟩).mono ?_
        rintro r w5 ⟨rfl, hb5⟩
        replace htw := htw.below hb5
        replace hbl := hbl.trans (hb5.mono hbl.size)
        clear hb5 hBa
        go_wp2_with fail
        refine (hBc _ _ htw.c).mono ?_
        rintro r w6 ⟨rfl, hb6⟩
        replace htw := htw.below hb6
        replace hbl := hbl.trans (hb6.mono hbl.size)
        clear hb6 hBc
        go_wp2_with fail
        refine (hBb _ ⟨_, htw.b⟩).mono ?_
        rintro r w7 ⟨rfl, hb7⟩
        replace htw := htw.below hb7
        replace hbl := hbl.trans (hb7.mono hbl.size)
        clear hb7 hBb
        go_wp2_with fail
        refine (hBd _ _ htw.d).mono ?_
        rintro r w8 ⟨rfl, hb8⟩
        replace htw := htw.below hb8
        replace hbl := hbl.trans (hb8.mono hbl.size)
        have q3 := htw.a.1.cell 3
        have q8 := htw.a.1.cell 8
        simp only [wrCells] at q3 q8
        clear hb8 hBd
        go_wp2_with fail
        refine (hLa _ q3 q8).mono ?_
        rintro r w9 ⟨rfl, hb9⟩
        replace htw := htw.below hb9
        replace hbl := hbl.trans (hb9.mono hbl.size)
        obtain ⟨A6, k6, rfl⟩ := htw.c.2.1.len.2
        have qc := htw.c.1.cell 2
        clear hb9 hLa q3 q8
        go_wp2_with fail
        refine (hRa _ _ _ qc).mono ?_
        rintro r w10 ⟨rfl, hb10⟩
        replace htw := htw.below hb10
        replace hbl := hbl.trans (hb10.mono hbl.size)
        have q3 := htw.b.1.cell 3
        have q8 := htw.b.1.cell 8
        simp only [wrCells] at q3 q8
        clear hb10 hRa qc
        go_wp2_with fail
        refine (hLb _ q3 q8).mono ?_
        rintro r w11 ⟨rfl, hb11⟩
        replace htw := htw.below hb11
        replace hbl := hbl.trans (hb11.mono hbl.size)
        obtain ⟨A7, k7, rfl⟩ := htw.d.2.1.len.2
        have qc := htw.d.1.cell 2
        clear hb11 hLb q3 q8
        go_wp2_with fail
        refine (hRb _ _ _ qc).mono ?_
        rintro r w12 ⟨rfl, hb12⟩
        replace hbl := hbl.trans (hb12.mono hbl.size)
        clear hb12 hRb qc
        go_wp2
        go_ret
        exact ⟨rfl, hbl⟩)
theorem writers_bad (e f0 : Int) (hc : chkF e f0 ≠ 0) (A : Option Addr) (l : List Nat) (c : Nat) (A2 : Option Addr) (n2 c2 : Nat) (f : Nat → Int) (w : World) (hlen : l.length ≤ 17592186044404) (hn2 : n2 ≤ 17592186044404) (hrd : RdK .u64 w A l) (hri : RdI w A2 n2 f) (hT : Tab w) :
    Calls Tryd.prog 8 #[.agg #[.int .i64 e, .int .i64 f0], .slice A l.length c, .slice A2 n2 c2] w (Says w (.bool true)) := by
  have HC := Lib.hid (chk_no hc)
  have HC0 := Lib.hid hc
  have hb0 : Below w.heap.size w (w.alloc (.cells #[.int .i64 e, .int .i64 f0] 23)) := (Below.refl w.heap.size w).alloc (Nat.le_refl _) _
  clear hc
  go_enter Tryd.func8, Tryd.ntmps8
  go_wp2_with fail
  refine (awake_any _ (hT.below hb0)).mono ?_
  rintro r w1 ⟨rfl, hb1⟩
  have hb01 := hb0.trans (hb1.mono (by simp))
  have hz1 : w.heap.size < w1.heap.size := by have := hb1.size; simp at this; omega
  have f0' : w1.cell? ⟨w.heap.size, 0, none⟩ = some (.int .i64 e) := by rw [hb1.cell (by simp)]; simp
  have f1' : w1.cell? ⟨w.heap.size, 1, none⟩ = some (.int .i64 f0) := by rw [hb1.cell (by simp)]; simp
  clear hb0 hb1
  go_wp2_with fail
  refine (pack_New _ _ _).mono ?_
  rintro r w2 hna
  unfold NewAns at hna
  rw [if_neg HC0.out] at hna
  obtain ⟨rfl, hb2⟩ := hna
  have g0 := cell_keep hb2 f0'
  have g1 := cell_keep hb2 f1'
  have hb02 := hb01.trans (hb2.mono hb01.size)
  clear hb01 hb2 f0' f1'
  go_wp2_with fail
  refine (pack_New _ _ _).mono ?_
  rintro r w3 hna
  unfold NewAns at hna
  rw [if_neg HC0.out] at hna
  obtain ⟨rfl, hb3⟩ := hna
  have f0' := cell_keep hb3 g0
  have f1' := cell_keep hb3 g1
  have hb03 := hb02.trans (hb3.mono hb02.size)
  clear hb02 hb3 g0 g1
  go_wp2_with fail
  refine (ref_Size_nil _ _ _).mono ?_
  rintro r w4 ⟨rfl, hb4⟩
  rw [HC.out]
  have hb04 := hb03.trans (hb4.mono hb03.size)
  clear hb03 hb4 f0' f1'
  go_wp2
  have hk3 : Blk (w4.alloc (.cells zeroW 59)) w4.heap.size 59 zeroW := Blk.new w4 _ _
  have hbl7 : Below w.heap.size w (w4.alloc (.cells zeroW 59)) := hb04.alloc hb04.size _
  obtain ⟨pz, hpz⟩ : ∃ pz, pz = w4.heap.size := ⟨_, rfl⟩
  rw [← hpz] at hk3 ⊢
  clear hb04 hz1 hpz
  go_loopw [7, 17] (fun v7 v17 wr => ∃ i : Nat, i ≤ l.length ∧ i ≤ 300 ∧ v7 = .bool true ∧ v17 = .int .i64 (i : Int) ∧ Blk wr pz 59 zeroW ∧ Below w.heap.size w wr) (fun _ v17 _ => l.length - (intOf v17).toNat)
  case atStart => exact ⟨0, Nat.zero_le _, Nat.zero_le _, rfl, rfl, hk3, hbl7⟩
  case round =>
    clear hk3 hbl7
    obtain ⟨i, hi, hi3, rfl, rfl, hk, hbl⟩ := hrel
    have hl9 : ((l.length : Nat) : Int) ≤ 17592186044404 := by omega
    by_cases hlt : i < l.length ∧ i < 300
    · obtain ⟨hi1, hi2⟩ := hlt
      have d1 : decide (((i : Nat) : Int) < ((l.length : Nat) : Int)) = true := by simp; omega
      have d2 : decide (((i : Nat) : Int) < 300) = true := by simp; omega
      obtain ⟨b0, off, rfl, hcell⟩ := (hrd.below hbl) (by omega)
      have hx := hcell i hi1
      obtain ⟨b, hb⟩ : ∃ b, b = nth l i := ⟨_, rfl⟩
      rw [← hb] at hx
      clear hb hcell
      by_cases hn : i < n2
      · have dn : decide (((i : Nat) : Int) < ((n2 : Nat) : Int)) = true := by simp; omega
        obtain ⟨b2, off2, rfl, hc2⟩ := (hri.below hbl) (by omega)
        have y := hc2 i hn
        obtain ⟨x, hxe⟩ : ∃ x, x = f i := ⟨_, rfl⟩
        rw [← hxe] at y
        clear hc2 hxe
        obtain ⟨T, hTe⟩ : ∃ T, T = x.tmod 8 := ⟨_, rfl⟩
        have hr := hTe.symm
        have hT1 : -8 < T := by rw [hTe]; exact Int.lt_tmod_of_pos _ (by decide)
        have hT2 : T < 8 := by rw [hTe]; exact Int.tmod_lt_of_pos _ (by decide)
        clear hTe
        by_cases h4 : T = 4
        · subst h4
          go_upto_region 33 with (fail)
          have hd0 : Below wr.heap.size wr wr.drew := (Below.refl _ _).drew
          have hkD := hk.below hd0 hk.lt
          have hblD : Below w.heap.size w wr.drew := hbl.drew
          have hxD : wr.drew.cell? ⟨b0, off + i, none⟩ = some (.int .u64 (b : Int)) := hx
          go_region_held3 (fun w' => w'.cell? ⟨b0, off + i, none⟩ = some (.int .u64 (b : Int)))
            (first | exact hx | exact hx5 | exact hx6 | exact hxA | exact cell_keep hb7 hxA | go_keep)
            (first
            | (go_at_call 15
               (with_reducible refine (writer_Put_none (some ⟨pz, 0, none⟩) (b : Int) _ (.inr ⟨pz, rfl, (show _ = _ from hkD.cell 3)⟩)).mono ?_)
               rintro r w5 ⟨rfl, hb5⟩
               have hk5 := hkD.below hb5 hkD.lt
               have hbl5 := hblD.trans (hb5.mono hblD.size)
               have hx5 := cell_keep hb5 hxD)
            | (go_at_call 27
               (with_reducible refine (ref_Put_nil (b : Int) _).mono ?_)
               rintro r w6 ⟨rfl, hb6⟩
               have hk6 := hk5.below hb6 hk5.lt
               have hbl6 := hbl5.trans (hb6.mono hbl5.size)
               have hx6 := cell_keep hb6 hx5)
            | (go_at_call 19
               (with_reducible refine (writer_Len_none (some ⟨pz, 0, none⟩) _ (.inr ⟨pz, rfl, (show _ = _ from hk6.cell 3)⟩)).mono ?_)
               rintro r wA ⟨rfl, hbA⟩
               have hkA := hk6.below hbA hk6.lt
               have hblA := hbl6.trans (hbA.mono hbl6.size)
               have hxA := cell_keep hbA hx6)
            | (go_at_call 28
               (with_reducible refine (ref_Len_nil _).mono ?_)
               rintro r w7 ⟨rfl, hb7⟩
               have hk7 := hkA.below hb7 hkA.lt
               have hbl7 := hblA.trans (hb7.mono hblA.size))
            | fail)
          all_goals (
            clear hkD hblD hxD hk hbl hk5 hbl5 hx5 hk6 hbl6 hx6 hkA hblA hxA hb5 hb6 hb7 hbA hd0
            go_wp2_with fail
            refine (writer_Bytes_none (some ⟨pz, 0, none⟩) _ (.inr ⟨pz, rfl, (show _ = _ from hk7.cell 3)⟩)).mono ?_
            rintro r w8 ⟨rfl, hb8⟩
            have hk8 := hk7.below hb8 hk7.lt
            have hbl8 := hbl7.trans (hb8.mono hbl7.size)
            clear hk7 hbl7 hb8
            go_wp2_with fail
            refine (ref_Bytes_nil _).mono ?_
            rintro r w9 ⟨rfl, hb9⟩
            have hkZ := hk8.below hb9 hk8.lt
            have hblZ := hbl8.trans (hb9.mono hbl8.size)
            clear hk8 hbl8 hb9
            go_wp2

            go_roundw
            case rel => exact ⟨i + 1, by omega, by omega, by simp, vi (by omega), hkZ, hblZ⟩
            case measure => first | (simp [intOf]; done) | (simp [intOf]; omega))
        · have t4 : (T == 4) = false := by rw [beq_eq_false_iff_ne]; exact h4
          have hw : (T = 1) ∨ (T = 2) ∨ (T = 3) ∨ ((T == 1) = false ∧ (T == 2) = false ∧ (T == 3) = false ∧ decide ((2 : Int) ≤ T) = true) ∨ ((T == 1) = false ∧ (T == 2) = false ∧ (T == 3) = false ∧ decide ((2 : Int) ≤ T) = false) := by
            by_cases h1 : T = 1
            · exact .inl h1
            · by_cases h2 : T = 2
              · exact .inr (.inl h2)
              · by_cases h3 : T = 3
                · exact .inr (.inr (.inl h3))
                · have a1 : (T == 1) = false := by rw [beq_eq_false_iff_ne]; exact h1
                  have a2 : (T == 2) = false := by rw [beq_eq_false_iff_ne]; exact h2
                  have a3 : (T == 3) = false := by rw [beq_eq_false_iff_ne]; exact h3
                  by_cases hge : 2 ≤ T
                  · exact .inr (.inr (.inr (.inl ⟨a1, a2, a3, by simpa using hge⟩)))
                  · exact .inr (.inr (.inr (.inr ⟨a1, a2, a3, by simpa using hge⟩)))
          clear h4
          rcases hw with rfl | rfl | rfl | ⟨t1, t2, t3, t5⟩ | ⟨t1, t2, t3, t5⟩
          · clear t4
            go_upto_region 33 with (fail)
            have hd0 : Below wr.heap.size wr wr.drew := (Below.refl _ _).drew
            have hkD := hk.below hd0 hk.lt
            have hblD : Below w.heap.size w wr.drew := hbl.drew
            have hxD : wr.drew.cell? ⟨b0, off + i, none⟩ = some (.int .u64 (b : Int)) := hx
            go_region_held3 (fun w' => w'.cell? ⟨b0, off + i, none⟩ = some (.int .u64 (b : Int)))
              (first | exact hx | exact hx5 | exact hx6 | exact hxA | exact cell_keep hb7 hxA | go_keep)
              (first
              | (go_at_call 15
                 (with_reducible refine (writer_Put_none none (b : Int) _ (.inl rfl)).mono ?_)
                 rintro r w5 ⟨rfl, hb5⟩
                 have hk5 := hkD.below hb5 hkD.lt
                 have hbl5 := hblD.trans (hb5.mono hblD.size)
                 have hx5 := cell_keep hb5 hxD)
              | (go_at_call 27
                 (with_reducible refine (ref_Put_nil (b : Int) _).mono ?_)
                 rintro r w6 ⟨rfl, hb6⟩
                 have hk6 := hk5.below hb6 hk5.lt
                 have hbl6 := hbl5.trans (hb6.mono hbl5.size)
                 have hx6 := cell_keep hb6 hx5)
              | (go_at_call 19
                 (with_reducible refine (writer_Len_none none _ (.inl rfl)).mono ?_)
                 rintro r wA ⟨rfl, hbA⟩
                 have hkA := hk6.below hbA hk6.lt
                 have hblA := hbl6.trans (hbA.mono hbl6.size)
                 have hxA := cell_keep hbA hx6)
              | (go_at_call 28
                 (with_reducible refine (ref_Len_nil _).mono ?_)
                 rintro r w7 ⟨rfl, hb7⟩
                 have hk7 := hkA.below hb7 hkA.lt
                 have hbl7 := hblA.trans (hb7.mono hblA.size))
              | fail)
            all_goals (
              clear hkD hblD hxD hk hbl hk5 hbl5 hx5 hk6 hbl6 hx6 hkA hblA hxA hb5 hb6 hb7 hbA hd0
              by_cases hlast : i + 1 = l.length
              · have d9 : (((i : Nat) : Int) == ((l.length : Nat) : Int) - 1) = true := by rw [beq_iff_eq]; omega
                clear hlast
                go_wp2_with fail
                refine (writer_Bytes_none none _ (.inl rfl)).mono ?_
                rintro r w8 ⟨rfl, hb8⟩
                have hk8 := hk7.below hb8 hk7.lt
                have hbl8 := hbl7.trans (hb8.mono hbl7.size)
                clear hk7 hbl7 hb8
                go_wp2_with fail
                refine (ref_Bytes_nil _).mono ?_
                rintro r w9 ⟨rfl, hb9⟩
                have hkZ := hk8.below hb9 hk8.lt
                have hblZ := hbl8.trans (hb9.mono hbl8.size)
                clear hk8 hbl8 hb9
                go_wp2

                go_roundw
                case rel => exact ⟨i + 1, by omega, by omega, by simp, vi (by omega), hkZ, hblZ⟩
                case measure => first | (simp [intOf]; done) | (simp [intOf]; omega)

              · have d9 : (((i : Nat) : Int) == ((l.length : Nat) : Int) - 1) = false := by rw [beq_eq_false_iff_ne]; omega
                clear hlast
                have hkZ := hk7
                have hblZ := hbl7
                clear hk7 hbl7
                go_wp2
                go_roundw
                case rel => exact ⟨i + 1, by omega, by omega, by simp, vi (by omega), hkZ, hblZ⟩
                case measure => first | (simp [intOf]; done) | (simp [intOf]; omega))
          · clear t4
            go_upto_region 33 with (fail)
            have hd0 : Below wr.heap.size wr wr.drew := (Below.refl _ _).drew
            have hkD := hk.below hd0 hk.lt
            have hblD : Below w.heap.size w wr.drew := hbl.drew
            have hxD : wr.drew.cell? ⟨b0, off + i, none⟩ = some (.int .u64 (b : Int)) := hx
            go_region_held3 (fun w' => w'.cell? ⟨b0, off + i, none⟩ = some (.int .u64 (b : Int)))
              (first | exact hx | exact hx5 | exact hx6 | exact hxA | exact cell_keep hb7 hxA | go_keep)
              (first
              | (go_at_call 15
                 (with_reducible refine (writer_Put_none none (b : Int) _ (.inl rfl)).mono ?_)
                 rintro r w5 ⟨rfl, hb5⟩
                 have hk5 := hkD.below hb5 hkD.lt
                 have hbl5 := hblD.trans (hb5.mono hblD.size)
                 have hx5 := cell_keep hb5 hxD)
              | (go_at_call 27
                 (with_reducible refine (ref_Put_nil (b : Int) _).mono ?_)
                 rintro r w6 ⟨rfl, hb6⟩
                 have hk6 := hk5.below hb6 hk5.lt
                 have hbl6 := hbl5.trans (hb6.mono hbl5.size)
                 have hx6 := cell_keep hb6 hx5)
              | (go_at_call 19
                 (with_reducible refine (writer_Len_none none _ (.inl rfl)).mono ?_)
                 rintro r wA ⟨rfl, hbA⟩
                 have hkA := hk6.below hbA hk6.lt
                 have hblA := hbl6.trans (hbA.mono hbl6.size)
                 have hxA := cell_keep hbA hx6)
              | (go_at_call 28
                 (with_reducible refine (ref_Len_nil _).mono ?_)
                 rintro r w7 ⟨rfl, hb7⟩
                 have hk7 := hkA.below hb7 hkA.lt
                 have hbl7 := hblA.trans (hb7.mono hblA.size))
              | fail)
            all_goals (
              clear hkD hblD hxD hk hbl hk5 hbl5 hx5 hk6 hbl6 hx6 hkA hblA hxA hb5 hb6 hb7 hbA hd0
              go_wp2_with fail
              refine (writer_Bytes_none none _ (.inl rfl)).mono ?_
              rintro r w8 ⟨rfl, hb8⟩
              have hk8 := hk7.below hb8 hk7.lt
              have hbl8 := hbl7.trans (hb8.mono hbl7.size)
              clear hk7 hbl7 hb8
              go_wp2_with fail
              refine (ref_Bytes_nil _).mono ?_
              rintro r w9 ⟨rfl, hb9⟩
              have hkZ := hk8.below hb9 hk8.lt
              have hblZ := hbl8.trans (hb9.mono hbl8.size)
              clear hk8 hbl8 hb9
              go_wp2

              go_roundw
              case rel => exact ⟨i + 1, by omega, by omega, by simp, vi (by omega), hkZ, hblZ⟩
              case measure => first | (simp [intOf]; done) | (simp [intOf]; omega))
          · clear t4
            go_upto_region 33 with (fail)
            have hd0 : Below wr.heap.size wr wr.drew := (Below.refl _ _).drew
            have hkD := hk.below hd0 hk.lt
            have hblD : Below w.heap.size w wr.drew := hbl.drew
            have hxD : wr.drew.cell? ⟨b0, off + i, none⟩ = some (.int .u64 (b : Int)) := hx
            go_region_held3 (fun w' => w'.cell? ⟨b0, off + i, none⟩ = some (.int .u64 (b : Int)))
              (first | exact hx | exact hx5 | exact hx6 | exact hxA | exact cell_keep hb7 hxA | go_keep)
              (first
              | (go_at_call 15
                 (with_reducible refine (writer_Put_none none (b : Int) _ (.inl rfl)).mono ?_)
                 rintro r w5 ⟨rfl, hb5⟩
                 have hk5 := hkD.below hb5 hkD.lt
                 have hbl5 := hblD.trans (hb5.mono hblD.size)
                 have hx5 := cell_keep hb5 hxD)
              | (go_at_call 27
                 (with_reducible refine (ref_Put_nil (b : Int) _).mono ?_)
                 rintro r w6 ⟨rfl, hb6⟩
                 have hk6 := hk5.below hb6 hk5.lt
                 have hbl6 := hbl5.trans (hb6.mono hbl5.size)
                 have hx6 := cell_keep hb6 hx5)
              | (go_at_call 19
                 (with_reducible refine (writer_Len_none none _ (.inl rfl)).mono ?_)
                 rintro r wA ⟨rfl, hbA⟩
                 have hkA := hk6.below hbA hk6.lt
                 have hblA := hbl6.trans (hbA.mono hbl6.size)
                 have hxA := cell_keep hbA hx6)
              | (go_at_call 28
                 (with_reducible refine (ref_Len_nil _).mono ?_)
                 rintro r w7 ⟨rfl, hb7⟩
                 have hk7 := hkA.below hb7 hkA.lt
                 have hbl7 := hblA.trans (hb7.mono hblA.size))
              | fail)
            all_goals (
              clear hkD hblD hxD hk hbl hk5 hbl5 hx5 hk6 hbl6 hx6 hkA hblA hxA hb5 hb6 hb7 hbA hd0
              go_wp2_with fail
              refine (writer_Bytes_none none _ (.inl rfl)).mono ?_
              rintro r w8 ⟨rfl, hb8⟩
              have hk8 := hk7.below hb8 hk7.lt
              have hbl8 := hbl7.trans (hb8.mono hbl7.size)
              clear hk7 hbl7 hb8
              go_wp2_with fail
              refine (ref_Bytes_nil _).mono ?_
              rintro r w9 ⟨rfl, hb9⟩
              have hkZ := hk8.below hb9 hk8.lt
              have hblZ := hbl8.trans (hb9.mono hbl8.size)
              clear hk8 hbl8 hb9
              go_wp2

              go_roundw
              case rel => exact ⟨i + 1, by omega, by omega, by simp, vi (by omega), hkZ, hblZ⟩
              case measure => first | (simp [intOf]; done) | (simp [intOf]; omega))
          · skip
            go_upto_region 33 with (fail)
            have hd0 : Below wr.heap.size wr wr.drew := (Below.refl _ _).drew
            have hkD := hk.below hd0 hk.lt
            have hblD : Below w.heap.size w wr.drew := hbl.drew
            have hxD : wr.drew.cell? ⟨b0, off + i, none⟩ = some (.int .u64 (b : Int)) := hx
            go_region_held3 (fun w' => w'.cell? ⟨b0, off + i, none⟩ = some (.int .u64 (b : Int)))
              (first | exact hx | exact hx5 | exact hx6 | exact hxA | exact cell_keep hb7 hxA | go_keep)
              (first
              | (go_at_call 15
                 (with_reducible refine (writer_Put_none none (b : Int) _ (.inl rfl)).mono ?_)
                 rintro r w5 ⟨rfl, hb5⟩
                 have hk5 := hkD.below hb5 hkD.lt
                 have hbl5 := hblD.trans (hb5.mono hblD.size)
                 have hx5 := cell_keep hb5 hxD)
              | (go_at_call 27
                 (with_reducible refine (ref_Put_nil (b : Int) _).mono ?_)
                 rintro r w6 ⟨rfl, hb6⟩
                 have hk6 := hk5.below hb6 hk5.lt
                 have hbl6 := hbl5.trans (hb6.mono hbl5.size)
                 have hx6 := cell_keep hb6 hx5)
              | (go_at_call 19
                 (with_reducible refine (writer_Len_none none _ (.inl rfl)).mono ?_)
                 rintro r wA ⟨rfl, hbA⟩
                 have hkA := hk6.below hbA hk6.lt
                 have hblA := hbl6.trans (hbA.mono hbl6.size)
                 have hxA := cell_keep hbA hx6)
              | (go_at_call 28
                 (with_reducible refine (ref_Len_nil _).mono ?_)
                 rintro r w7 ⟨rfl, hb7⟩
                 have hk7 := hkA.below hb7 hkA.lt
                 have hbl7 := hblA.trans (hb7.mono hblA.size))
              | fail)
            all_goals (
              clear hkD hblD hxD hk hbl hk5 hbl5 hx5 hk6 hbl6 hx6 hkA hblA hxA hb5 hb6 hb7 hbA hd0
              go_wp2_with fail
              refine (writer_Bytes_none none _ (.inl rfl)).mono ?_
              rintro r w8 ⟨rfl, hb8⟩
              have hk8 := hk7.below hb8 hk7.lt
              have hbl8 := hbl7.trans (hb8.mono hbl7.size)
              clear hk7 hbl7 hb8
              go_wp2_with fail
              refine (ref_Bytes_nil _).mono ?_
              rintro r w9 ⟨rfl, hb9⟩
              have hkZ := hk8.below hb9 hk8.lt
              have hblZ := hbl8.trans (hb9.mono hbl8.size)
              clear hk8 hbl8 hb9
              go_wp2

              go_roundw
              case rel => exact ⟨i + 1, by omega, by omega, by simp, vi (by omega), hkZ, hblZ⟩
              case measure => first | (simp [intOf]; done) | (simp [intOf]; omega))
          · skip
            go_upto_region 33 with (fail)
            have hd0 : Below wr.heap.size wr wr.drew := (Below.refl _ _).drew
            have hkD := hk.below hd0 hk.lt
            have hblD : Below w.heap.size w wr.drew := hbl.drew
            have hxD : wr.drew.cell? ⟨b0, off + i, none⟩ = some (.int .u64 (b : Int)) := hx
            go_region_held3 (fun w' => w'.cell? ⟨b0, off + i, none⟩ = some (.int .u64 (b : Int)))
              (first | exact hx | exact hx5 | exact hx6 | exact hxA | exact cell_keep hb7 hxA | go_keep)
              (first
              | (go_at_call 15
                 (with_reducible refine (writer_Put_none none (b : Int) _ (.inl rfl)).mono ?_)
                 rintro r w5 ⟨rfl, hb5⟩
                 have hk5 := hkD.below hb5 hkD.lt
                 have hbl5 := hblD.trans (hb5.mono hblD.size)
                 have hx5 := cell_keep hb5 hxD)
              | (go_at_call 27
                 (with_reducible refine (ref_Put_nil (b : Int) _).mono ?_)
                 rintro r w6 ⟨rfl, hb6⟩
                 have hk6 := hk5.below hb6 hk5.lt
                 have hbl6 := hbl5.trans (hb6.mono hbl5.size)
                 have hx6 := cell_keep hb6 hx5)
              | (go_at_call 19
                 (with_reducible refine (writer_Len_none none _ (.inl rfl)).mono ?_)
                 rintro r wA ⟨rfl, hbA⟩
                 have hkA := hk6.below hbA hk6.lt
                 have hblA := hbl6.trans (hbA.mono hbl6.size)
                 have hxA := cell_keep hbA hx6)
              | (go_at_call 28
                 (with_reducible refine (ref_Len_nil _).mono ?_)
                 rintro r w7 ⟨rfl, hb7⟩
                 have hk7 := hkA.below hb7 hkA.lt
                 have hbl7 := hblA.trans (hb7.mono hblA.size))
              | fail)
            all_goals (
              clear hkD hblD hxD hk hbl hk5 hbl5 hx5 hk6 hbl6 hx6 hkA hblA hxA hb5 hb6 hb7 hbA hd0
              by_cases hlast : i + 1 = l.length
              · have d9 : (((i : Nat) : Int) == ((l.length : Nat) : Int) - 1) = true := by rw [beq_iff_eq]; omega
                clear hlast
                go_wp2_with fail
                refine (writer_Bytes_none none _ (.inl rfl)).mono ?_
                rintro r w8 ⟨rfl, hb8⟩
                have hk8 := hk7.below hb8 hk7.lt
                have hbl8 := hbl7.trans (hb8.mono hbl7.size)
                clear hk7 hbl7 hb8
                go_wp2_with fail
                refine (ref_Bytes_nil _).mono ?_
                rintro r w9 ⟨rfl, hb9⟩
                have hkZ := hk8.below hb9 hk8.lt
                have hblZ := hbl8.trans (hb9.mono hbl8.size)
                clear hk8 hbl8 hb9
                go_wp2

                go_roundw
                case rel => exact ⟨i + 1, by omega, by omega, by simp, vi (by omega), hkZ, hblZ⟩
                case measure => first | (simp [intOf]; done) | (simp [intOf]; omega)

              · have d9 : (((i : Nat) : Int) == ((l.length : Nat) : Int) - 1) = false := by rw [beq_eq_false_iff_ne]; omega
                clear hlast
                have hkZ := hk7
                have hblZ := hbl7
                clear hk7 hbl7
                go_wp2
                go_roundw
                case rel => exact ⟨i + 1, by omega, by omega, by simp, vi (by omega), hkZ, hblZ⟩
                case measure => first | (simp [intOf]; done) | (simp [intOf]; omega))
      · have dn : decide (((i : Nat) : Int) < ((n2 : Nat) : Int)) = false := by simp; omega
        go_upto_region 33 with (fail)
        have hd0 : Below wr.heap.size wr wr.drew := (Below.refl _ _).drew
        have hkD := hk.below hd0 hk.lt
        have hblD : Below w.heap.size w wr.drew := hbl.drew
        have hxD : wr.drew.cell? ⟨b0, off + i, none⟩ = some (.int .u64 (b : Int)) := hx
        go_region_held3 (fun w' => w'.cell? ⟨b0, off + i, none⟩ = some (.int .u64 (b : Int)))
          (first | exact hx | exact hx5 | exact hx6 | exact hxA | exact cell_keep hb7 hxA | go_keep)
          (first
          | (go_at_call 15
             (with_reducible refine (writer_Put_none none (b : Int) _ (.inl rfl)).mono ?_)
             rintro r w5 ⟨rfl, hb5⟩
             have hk5 := hkD.below hb5 hkD.lt
             have hbl5 := hblD.trans (hb5.mono hblD.size)
             have hx5 := cell_keep hb5 hxD)
          | (go_at_call 27
             (with_reducible refine (ref_Put_nil (b : Int) _).mono ?_)
             rintro r w6 ⟨rfl, hb6⟩
             have hk6 := hk5.below hb6 hk5.lt
             have hbl6 := hbl5.trans (hb6.mono hbl5.size)
             have hx6 := cell_keep hb6 hx5)
          | (go_at_call 19
             (with_reducible refine (writer_Len_none none _ (.inl rfl)).mono ?_)
             rintro r wA ⟨rfl, hbA⟩
             have hkA := hk6.below hbA hk6.lt
             have hblA := hbl6.trans (hbA.mono hbl6.size)
             have hxA := cell_keep hbA hx6)
          | (go_at_call 28
             (with_reducible refine (ref_Len_nil _).mono ?_)
             rintro r w7 ⟨rfl, hb7⟩
             have hk7 := hkA.below hb7 hkA.lt
             have hbl7 := hblA.trans (hb7.mono hblA.size))
          | fail)
        all_goals (
          clear hkD hblD hxD hk hbl hk5 hbl5 hx5 hk6 hbl6 hx6 hkA hblA hxA hb5 hb6 hb7 hbA hd0
          by_cases hlast : i + 1 = l.length
          · have d9 : (((i : Nat) : Int) == ((l.length : Nat) : Int) - 1) = true := by rw [beq_iff_eq]; omega
            clear hlast
            go_wp2_with fail
            refine (writer_Bytes_none none _ (.inl rfl)).mono ?_
            rintro r w8 ⟨rfl, hb8⟩
            have hk8 := hk7.below hb8 hk7.lt
            have hbl8 := hbl7.trans (hb8.mono hbl7.size)
            clear hk7 hbl7 hb8
            go_wp2_with fail
            refine (ref_Bytes_nil _).mono ?_
            rintro r w9 ⟨rfl, hb9⟩
            have hkZ := hk8.below hb9 hk8.lt
            have hblZ := hbl8.trans (hb9.mono hbl8.size)
            clear hk8 hbl8 hb9
            go_wp2

            go_roundw
            case rel => exact ⟨i + 1, by omega, by omega, by simp, vi (by omega), hkZ, hblZ⟩
            case measure => first | (simp [intOf]; done) | (simp [intOf]; omega)

          · have d9 : (((i : Nat) : Int) == ((l.length : Nat) : Int) - 1) = false := by rw [beq_eq_false_iff_ne]; omega
            clear hlast
            have hkZ := hk7
            have hblZ := hbl7
            clear hk7 hbl7
            go_wp2
            go_roundw
            case rel => exact ⟨i + 1, by omega, by omega, by simp, vi (by omega), hkZ, hblZ⟩
            case measure => first | (simp [intOf]; done) | (simp [intOf]; omega))
    ·
      have hg : (¬ i < l.length ∧ decide (((i : Nat) : Int) < ((l.length : Nat) : Int)) = false) ∨ (i < l.length ∧ ¬ i < 300 ∧ decide (((i : Nat) : Int) < ((l.length : Nat) : Int)) = true ∧ decide (((i : Nat) : Int) < 300) = false) := by
        by_cases h1 : i < l.length
        · right; refine ⟨h1, by omega, ?_, ?_⟩
          · simp; omega
          · simp; omega
        · left; refine ⟨h1, ?_⟩; simp; omega
      clear hlt hi hi3
      rcases hg with ⟨d3, d1⟩ | ⟨d3, d4, d1, d2⟩
      all_goals (
        go_wp2_with fail
        refine (writer_Bytes_none none _ (.inl rfl)).mono ?_
        rintro r w11 ⟨rfl, hb11⟩
        replace hbl := hbl.trans (hb11.mono hbl.size)
        clear hb11
        go_wp2_with fail
        refine (ref_Bytes_nil _).mono ?_
        rintro r w12 ⟨rfl, hb12⟩
        replace hbl := hbl.trans (hb12.mono hbl.size)
        clear hb12
        go_wp2_with fail
        refine (writer_Bytes_none none _ (.inl rfl)).mono ?_
        rintro r w13 ⟨rfl, hb13⟩
        replace hbl := hbl.trans (hb13.mono hbl.size)
        clear hb13
        go_wp2_with fail
        refine (ref_Bytes_nil _).mono ?_
        rintro r w14 ⟨rfl, hb14⟩
        replace hbl := hbl.trans (hb14.mono hbl.size)
        clear hb14
        go_wp2_with fail
        refine (writer_Len_none none _ (.inl rfl)).mono ?_
        rintro r w15 ⟨rfl, hb15⟩
        replace hbl := hbl.trans (hb15.mono hbl.size)
        clear hb15
        go_wp2_with fail
        refine (ref_Len_nil _).mono ?_
        rintro r w16 ⟨rfl, hb16⟩
        replace hbl := hbl.trans (hb16.mono hbl.size)
        clear hb16
        go_wp2_with fail
        refine (writer_Len_none none _ (.inl rfl)).mono ?_
        rintro r w17 ⟨rfl, hb17⟩
        replace hbl := hbl.trans (hb17.mono hbl.size)
        clear hb17
        go_wp2_with fail
        refine (ref_Len_nil _).mono ?_
        rintro r w18 ⟨rfl, hb18⟩
        replace hbl := hbl.trans (hb18.mono hbl.size)
        clear hb18
        go_wp2
        go_ret
        exact ⟨rfl, hbl⟩)
theorem writers_any (e f0 : Int) (A : Option Addr) (l : List Nat) (n c : Nat) (hn : n = l.length) (A2 : Option Addr) (n2 c2 : Nat) (f : Nat → Int) (w : World) (hl64 : ∀ v ∈ l, v < 18446744073709551616) (hlen : l.length ≤ 17592186044404) (hn2 : n2 ≤ 17592186044404) (hrd : RdK .u64 w A l) (hri : RdI w A2 n2 f) (hT : Tab w) :
    Calls Tryd.prog 8 #[.agg #[.int .i64 e, .int .i64 f0], .slice A n c, .slice A2 n2 c2] w (Says w (.bool true)) := by
  subst hn
  by_cases hc : chkF e f0 = 0
  · obtain ⟨E, F, rfl, rfl, h1, h2, h3, h4⟩ := chk_ok hc
    exact writers_ok E F h1 h2 h3 h4 A l c A2 n2 c2 f w hl64 hlen hn2 hrd hri hT
  · exact writers_bad e f0 hc A l c A2 n2 c2 f w hlen hn2 hrd hri hT
end Go.Proofs.YtefhannaofknnaaDoor
