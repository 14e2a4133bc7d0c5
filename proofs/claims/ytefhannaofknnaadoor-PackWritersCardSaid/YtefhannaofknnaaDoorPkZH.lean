/- Walk: Unpack, the reader made. -/
import Derived.Test.YtefhannaofknnaaDoorPkZG
namespace Go.Proofs.YtefhannaofknnaaDoor
open Go.RowKit
set_option linter.unusedVariables false
set_option linter.unusedSimpArgs false
set_option maxHeartbeats 4000000
set_option maxRecDepth 100000

theorem RdK.setC {k : IntKind} {w : World} {b off : Nat} {l : List Nat} (h : RdK k w (some ⟨b, off, none⟩) l) {p : Addr} (hne : b ≠ p.block) (u : Value) : RdK k (w.setCell p u) (some ⟨b, off, none⟩) l := fun hn => by
  obtain ⟨b', off', e, hc⟩ := h hn
  injection e with e
  injection e with e1 e2
  subst e1 e2
  exact ⟨b, off, rfl, fun j hj => (World.cell?_setCell_other _ _ _ _ (by intro e; exact hne (by subst e; rfl))).trans (hc j hj)⟩
theorem RdK.same {k : IntKind} {w w' : World} {b off : Nat} {l : List Nat} (h : RdK k w (some ⟨b, off, none⟩) l) (hs : w'.heap[b]? = w.heap[b]?) : RdK k w' (some ⟨b, off, none⟩) l := fun hn => by
  obtain ⟨b', off', e, hc⟩ := h hn
  injection e with e
  injection e with e1 e2
  subst e1 e2
  exact ⟨b, off, rfl, fun j hj => (World.cell?_of_block (by exact hs)).trans (hc j hj)⟩
theorem OwnR.same {w w' : World} {B : Nat} {e : TypeId} {k : IntKind} {v : Value} {l : List Nat} (h : OwnR w B e k v l) (hs : ∀ g, v.ownBlock = some g → w'.heap[g]? = w.heap[g]?) : OwnR w' B e k v l := by
  refine ⟨h.1, ?_⟩
  rcases h.2 with hn | ⟨g, cap, cur, rfl, hg, hh, r⟩
  · exact .inl hn
  · exact .inr ⟨g, cap, cur, rfl, hg, (hs g rfl).trans hh, r⟩
theorem elem64 : ElemOf Tryd.prog 24 34 .u64 := by
  obtain ⟨i, hi, hz, hs, hb⟩ := infoP (P := Tryd.prog) (e := 34) (z := some (.int .u64 0)) (s := 1) (b := 8) (by kernel_rfl)
  exact ⟨by kernel_rfl, i, 8, hi, hz, hs, hb, by decide⟩
theorem unpack_main (e f : Int) (s : List Nat) (hb : Bts s) (w : World) (hc : chkF e f = 0) (hl : s.length ≤ 1048576) :
    Calls Tryd.prog 16 #[.agg #[.int .i64 e, .int .i64 f], .string (bstr s)] w (UnpAns w (unpS e f s)) := by
  obtain ⟨E, F, rfl, rfl, hE1, hE2, hF1, hF2⟩ := chk_ok hc
  have HC := Lib.hid hc
  have hsz := bstr_size s
  have hg : decide ((1048576 : Int) < ((s.length : Nat) : Int)) = false := by simp; omega
  clear hc
  go_enter Tryd.func16, Tryd.ntmps16
  go_wp2_with fail
  refine (forms_Check _ _ _).mono ?_
  rintro r w1 ⟨rfl, hb1⟩
  rw [HC.out]
  have hb01 : Below w.heap.size w w1 := ((Below.refl w.heap.size w).alloc (Nat.le_refl _) _).trans (hb1.mono (by simp))
  have hz1 : w.heap.size < w1.heap.size := by have := hb1.size; simp at this; omega
  have f0 : w1.cell? ⟨w.heap.size, 0, none⟩ = some (.int .i64 (E : Int)) := by rw [hb1.cell (by simp)]; simp
  have f1 : w1.cell? ⟨w.heap.size, 1, none⟩ = some (.int .i64 (F : Int)) := by rw [hb1.cell (by simp)]; simp
  obtain ⟨cap, ob, hconv, hby⟩ := run_bytes_bstr (P := Tryd.prog) w1 9 53 5 s hb (by kernel_rfl) (by kernel_rfl) (by kernel_rfl)
  have hb2 : Below w1.heap.size w1 (w1.alloc ob).drew := ((Below.refl _ _).alloc (Nat.le_refl _) _).drew
  have hby' : ∀ j, j < s.length → (w1.alloc ob).drew.cell? ⟨w1.heap.size, j, none⟩ = some (.int .u8 ((nth s j : Nat) : Int)) := hby
  have hz2 : w1.heap.size < (w1.alloc ob).drew.heap.size := by show w1.heap.size < (w1.alloc ob).heap.size; simp
  clear hby hb1
  go_wp2_with fail
  generalize (w1.alloc ob).drew = w2 at *
  refine (pack_width E F hE2 hF2 _).mono ?_
  rintro r w3 ⟨rfl, hb3⟩
  have hrd2 : RdK .u8 w2 (some ⟨w1.heap.size, 0, none⟩) s := fun hn => ⟨w1.heap.size, 0, rfl, fun j hj => by rw [Nat.zero_add]; exact hby' j hj⟩
  have hrd3 := hrd2.below hb3
  have hb03 : Below w.heap.size w w3 := hb01.trans ((hb2.trans (hb3.mono hb2.size)).mono (by omega))
  obtain ⟨W, hWe⟩ : ∃ W, W = 1 + E + F := ⟨_, rfl⟩
  rw [← hWe]
  have hW64 : W ≤ 64 := by omega
  have HW := Lib.hid hWe
  have hz3 := hb3.size
  have hRp : w1.heap.size < w3.heap.size := by omega
  obtain ⟨R0, hR0⟩ : ∃ R0, R0 = w1.heap.size := ⟨_, rfl⟩
  rw [← hR0] at hrd3 hconv hRp ⊢
  clear hrd2 hby' hb2 hb3 hb01 hconv f0 f1 hg hWe hR0
  go_wp2_with fail
  have hR : Rdr (w3.alloc (.cells #[.slice (some ⟨R0, 0, none⟩) s.length cap, .int .i64 8, .int .i64 (8 * (s.length : Int)), .int .i64 0, .int .i64 (W : Int), .int .i64 0, .int .i64 0, .int .u64 0] 68)) w3.heap.size W (some ⟨R0, 0, none⟩) cap s ⟨0, (0, 0), 0⟩ :=
    ⟨Blk.new _ _ _, hrd3.below ((Below.refl _ _).alloc (Nat.le_refl _) _), hb, hl, Nat.zero_le _, hW64, .inl rfl, Nat.two_pow_pos _⟩
  have hb04 := hb03.alloc (o := .cells #[.slice (some ⟨R0, 0, none⟩) s.length cap, .int .i64 8, .int .i64 (8 * (s.length : Int)), .int .i64 0, .int .i64 (W : Int), .int .i64 0, .int .i64 0, .int .u64 0] 68) hb03.size
  have hp0 : w.heap.size ≤ w3.heap.size := hb03.size
  generalize w3.alloc (.cells #[.slice (some ⟨R0, 0, none⟩) s.length cap, .int .i64 8, .int .i64 (8 * (s.length : Int)), .int .i64 0, .int .i64 (W : Int), .int .i64 0, .int .i64 0, .int .u64 0] 68) = w4 at *
  generalize w3.heap.size = p at *
  clear hrd3 hb03
  refine (hR.left 0 (8 * s.length) (by simp)).mono ?_
  rintro r w5 ⟨rfl, hw5⟩
  have hb05 : Below w.heap.size w w5 := by obtain ⟨z, rfl⟩ := hw5; exact bdn hb04 _
  have hR5 : Rdr w5 p W (some ⟨R0, 0, none⟩) cap s ⟨0, (0, 0), 0⟩ := by obtain ⟨z, rfl⟩ := hw5; exact hR.below (bdn (Below.refl _ _) _)
  clear hw5 hR hb04
  by_cases h17 : 8 * s.length < 17
  · have hu : unpS (E : Int) (F : Int) s = ([], ((s.length : Nat) : Int), 270) := by
      unfold unpS; rw [if_neg (by simpa using HC.out), if_neg (by omega), if_pos h17]
    have HU := Lib.hid hu
    have hg2 : decide (((8 * s.length : Nat) : Int) < 17) = true := by simp; omega
    clear hu
    go_wp2
    go_returns
    exact ⟨_, by rw [HU.out]; rfl, by rw [HU.out]; exact OwnR.nil _ _ _ _, hb05⟩
  · have hg2 : decide (((8 * s.length : Nat) : Int) < 17) = false := by simp; omega
    have ht := hR5.takeS 0 17 (takeW (bo s) 0 17) rfl (by omega) (by decide)
    obtain ⟨n, hn⟩ : ∃ n, n = takeW (bo s) 0 17 := ⟨_, rfl⟩
    have hn17 : n < 2 ^ 17 := by rw [hn]; exact takeW_lt _ _ _
    rw [← hn] at ht
    have HN := Lib.hid hn
    clear hn
    have kz := hR5.blk.lt
    go_wp2_with fail
    refine ht.mono ?_
    rintro r w6 ⟨rfl, hb6⟩
    have hR6 := hR5.below hb6
    have hb06 := hb05.trans (hb6.mono hb05.size)
    clear ht hR5 hb6 hb05 kz
    by_cases hbig : 65536 < n
    · have hu : unpS (E : Int) (F : Int) s = ([], 0, 270) := by
        unfold unpS; rw [if_neg (by simpa using HC.out), if_neg (by omega), if_neg h17, if_pos (by rw [← HN.out]; exact hbig)]
      have HU := Lib.hid hu
      have hg3 : decide ((65536 : Int) < (n : Int)) = true := by simp; omega
      clear hu
      go_wp2
      go_returns
      exact ⟨_, by rw [HU.out]; rfl, by rw [HU.out]; exact OwnR.nil _ _ _ _, hb06⟩
    · have hg3 : decide ((65536 : Int) < (n : Int)) = false := by simp; omega
      have k3 := hR6.blk.cell 3
      have kf := hR6.blk.frozen 3
      have kz := hR6.blk.lt
      simp only [rdCells] at k3
      have hU0 : unpS (E : Int) (F : Int) s = match unF W (bo s) n ⟨17, (0, 0), 0⟩ [] with
          | none => ([], ((s.length : Nat) : Int), 270)
          | some (.inl a) => ([], ((a / 8 : Nat) : Int), 270)
          | some (.inr (u, out)) => if 7 < 8 * s.length - u.at_ ∨ takeW (bo s) u.at_ (8 * s.length - u.at_) ≠ 0 then ([], ((u.at_ / 8 : Nat) : Int), 270) else (out, 0, 0) := by
        unfold unpS
        rw [if_neg (by simpa using HC.out), if_neg (by omega), if_neg h17, if_neg (by rw [← HN.out]; exact hbig), ← HN.out, Int.toNat_natCast, Int.toNat_natCast, ← HW.out]
        generalize unF W (bo s) n ⟨17, (0, 0), 0⟩ [] = q
        rcases q with _ | a | ⟨u, out⟩ <;> rfl
      have HU := Lib.hid hU0
      have hblk7 := hR6.blk.set_ 3 (.int .i64 17)
      have hR7 : Rdr (w6.setCell ⟨p, 3, none⟩ (.int .i64 17)) p W (some ⟨R0, 0, none⟩) cap s ⟨17, (0, 0), 0⟩ :=
        ⟨hblk7, hR6.rd.setC (p := ⟨p, 3, none⟩) (Nat.ne_of_lt hRp) _, hb, hl, by show 17 ≤ _; omega, hW64, .inl rfl, Nat.two_pow_pos _⟩
      have hb07 := hb06.setCell (p := ⟨p, 3, none⟩) hp0 (.int .i64 17)
      clear hU0 hblk7
      go_wp2
      go_loopw [10, 48] (fun v10 v48 wr => ∃ (i : Nat) (u : Ust) (out : List Nat), i ≤ n ∧ v48 = .int .i64 (i : Int) ∧ OwnR wr (p + 1) 34 .u64 v10 out ∧ out.length = i ∧ Rdr wr p W (some ⟨R0, 0, none⟩) cap s u ∧ unF W (bo s) n ⟨17, (0, 0), 0⟩ [] = unF W (bo s) (n - i) u out ∧ Below w.heap.size w wr) (fun _ v48 _ => n - (intOf v48).toNat)
      case atStart => exact ⟨0, ⟨17, (0, 0), 0⟩, [], Nat.zero_le _, rfl, OwnR.nil _ _ _ _, rfl, hR7, rfl, hb07⟩
      case round =>
        clear hR7 hb07 k3 kf kz hR6 hb06
        obtain ⟨i, u, out, hi, rfl, hown, hlen, hR, hun, hbl⟩ := hrel
        have kz := hR.blk.lt
        by_cases hi1 : i < n
        · have hp := reader_piece wr p W _ cap s u hR
          rw [show n - i = n - i - 1 + 1 by omega, unF] at hun
          have HLEN := Lib.hid hlen
          clear hlen
          rcases hpu : pieceU W (bo s) u with _ | _ | u'
          · unfold PieAns at hp
            rw [hpu] at hp hun
            simp only at hp hun
            have hu : unpS (E : Int) (F : Int) s = ([], ((s.length : Nat) : Int), 270) := by rw [HU.out, hun]
            have HU2 := Lib.hid hu
            clear hpu hun hu HU
            go_wp2_with fail
            refine hp.mono ?_
            rintro r w8 ⟨rfl, hb8⟩
            have hbl8 := hbl.trans (hb8.mono hbl.size)
            go_wp2
            go_returns
            exact ⟨_, by rw [HU2.out]; rfl, by rw [HU2.out]; exact OwnR.nil _ _ _ _, hbl8⟩
          · unfold PieAns at hp
            rw [hpu] at hp hun
            simp only at hp hun
            have hu : unpS (E : Int) (F : Int) s = ([], ((u.at_ / 8 : Nat) : Int), 270) := by rw [HU.out, hun]
            have HU2 := Lib.hid hu
            have hat := hR.at_
            have hI1 : ((u.at_ : Nat) : Int).tdiv 8 = ((u.at_ / 8 : Nat) : Int) := by rw [Int.tdiv_eq_ediv_of_nonneg (by omega)]; omega
            have hI2 : IntKind.i64.wrap ((u.at_ / 8 : Nat) : Int) = ((u.at_ / 8 : Nat) : Int) := IntWalk.i64_in _ (by omega)
            clear hpu hun hu HU
            go_wp2_with fail
            refine hp.mono ?_
            rintro r w8 ⟨rfl, hb8⟩
            have hR8 := hR.below hb8
            have k3 := hR8.blk.cell 3
            simp only [rdCells] at k3
            have kz8 := hR8.blk.lt
            have hbl8 := hbl.trans (hb8.mono hbl.size)
            clear hp hR hown hb8 hbl kz
            go_wp2
            go_quiet (fail)
            go_wp2
            go_returns
            exact ⟨_, by rw [HU2.out]; rfl, by rw [HU2.out]; exact OwnR.nil _ _ _ _, bdn hbl8 _⟩
          · unfold PieAns at hp
            rw [hpu] at hp hun
            simp only at hp hun
            obtain ⟨_, hat2, hwin2, hbef2⟩ := piece_keeps hR.at_ hW64 hR.win hR.bef hpu
            have hap := hown.lt
            have hRlt : R0 < wr.heap.size := Nat.lt_trans hRp kz
            clear hpu
            go_wp2_with fail
            refine hp.mono ?_
            rintro r w8 ⟨rfl, hblk8, hb8, hsame8⟩
            have hR8 : Rdr w8 p W (some ⟨R0, 0, none⟩) cap s u' := ⟨hblk8, hR.rd.same (hsame8 R0 (Nat.ne_of_lt hRp) hRlt), hb, hl, hat2, hW64, hwin2, hbef2⟩
            have hown8 := hown.same fun g hg => hsame8 g (by have := (hap g hg).1; omega) (hap g hg).2
            have hbl8 : Below w.heap.size w w8 := hbl.trans (hb8.mono hp0)
            clear hp hR hown hb8 hbl kz hblk8 hsame8 hap hat2 hwin2 hbef2
            have kz8 := hR8.blk.lt
            go_wp2_with (at_builtin; refine wpList_app elem64 rfl _ _ rfl (hown8.alloc _) rfl ⟨_, 0, none⟩ rfl u'.before ?c1 ?c2 ?c3 (fun v' w9 hown9 hgr hbb => ?_))
            case c1 => simp [go_sem]
            case c2 => have := HLEN.out; omega
            case c3 => simp; omega
            have hbbA := ((Below.refl (p + 1) w8).alloc (by omega) _).trans hbb
            have hR9 : Rdr w9 p W (some ⟨R0, 0, none⟩) cap s u' :=
              ⟨(hbbA.block p (Nat.lt_succ_self _)).trans hR8.blk, hR8.rd.same (hbbA.block R0 (by omega)), hb, hl, hR8.at_, hW64, hR8.win, hR8.bef⟩
            go_roundw
            case rel => exact ⟨i + 1, u', out ++ [u'.before], hi1, vi (by omega), hown9, by rw [List.length_append, HLEN.out]; rfl, hR9, by rw [hun]; rfl, hbl8.trans (hbbA.mono (by omega))⟩
            case measure => first | (simp [intOf]; done) | (simp [intOf]; omega)
        · obtain rfl : i = n := by omega
          rw [Nat.sub_self, unF] at hun
          have hp0' : w.heap.size ≤ p + 1 := by omega
          have hat := hR.at_
          have k3 := hR.blk.cell 3
          simp only [rdCells] at k3
          obtain ⟨d, hd⟩ : ∃ d, d = 8 * s.length - u.at_ := ⟨_, rfl⟩
          obtain ⟨v, hv⟩ : ∃ v, v = takeW (bo s) u.at_ d := ⟨_, rfl⟩
          have hLF := fun m => hR.left m d hd
          have hTK := fun m (h : d ≤ 7) => hR.take m u.at_ d v hv (by omega) (by omega)
          have hu : unpS (E : Int) (F : Int) s = if 7 < d ∨ v ≠ 0 then ([], ((u.at_ / 8 : Nat) : Int), 270) else (out, 0, 0) := by rw [HU.out, hun]; simp only; rw [← hd, ← hv]
          have HU2 := Lib.hid hu
          have HD := Lib.hid hd
          have HV := Lib.hid hv
          have hI1 : ((u.at_ : Nat) : Int).tdiv 8 = ((u.at_ / 8 : Nat) : Int) := by rw [Int.tdiv_eq_ediv_of_nonneg (by omega)]; omega
          have hI2 : IntKind.i64.wrap ((u.at_ / 8 : Nat) : Int) = ((u.at_ / 8 : Nat) : Int) := IntWalk.i64_in _ (by omega)
          clear hu hun HU hd hv hlen
          by_cases h7 : 7 < d
          · have hg7 : decide ((7 : Int) < (d : Int)) = true := by simp; omega
            have hUr : unpS (E : Int) (F : Int) s = ([], ((u.at_ / 8 : Nat) : Int), 270) := by rw [HU2.out, if_pos (.inl h7)]
            have HUR := Lib.hid hUr
            clear hUr hTK
            go_wp2
            go_quiet ((go_at_call 39; exact hLF _))
            go_wp2
            go_quiet (fail)
            go_wp2
            go_returns
            exact ⟨_, by rw [HUR.out]; rfl, by rw [HUR.out]; exact OwnR.nil _ _ _ _, bdn (bdn hbl _) _⟩
          · have hg7 : decide ((7 : Int) < (d : Int)) = false := by simp; omega
            have hTK2 := fun m => hTK m (by omega)
            clear hTK
            by_cases hv0 : v = 0
            · subst hv0
              have hUr : unpS (E : Int) (F : Int) s = (out, 0, 0) := by rw [HU2.out, if_neg (by simp; omega)]
              have HUR := Lib.hid hUr
              clear hUr
              go_wp2
              go_quiet (first | (go_at_call 39; exact hLF _) | (go_at_call 40; exact hTK2 _))
              go_wp2
              go_returns
              exact ⟨_, by rw [HUR.out]; rfl, by rw [HUR.out]; exact (hown.drewN _).base hp0', bdn hbl _⟩
            · have hv1 : ((v : Int) != 0) = true := by rw [bne_iff_ne]; omega
              have hUr : unpS (E : Int) (F : Int) s = ([], ((u.at_ / 8 : Nat) : Int), 270) := by rw [HU2.out, if_pos (.inr hv0)]
              have HUR := Lib.hid hUr
              clear hUr hv0
              go_wp2
              go_quiet (first | (go_at_call 39; exact hLF _) | (go_at_call 40; exact hTK2 _))
              go_wp2
              go_quiet (fail)
              go_wp2
              go_returns
              exact ⟨_, by rw [HUR.out]; rfl, by rw [HUR.out]; exact OwnR.nil _ _ _ _, bdn (bdn hbl _) _⟩
theorem pack_Unpack (e f : Int) (s : List Nat) (hb : Bts s) (w : World) :
    Calls Tryd.prog 16 #[.agg #[.int .i64 e, .int .i64 f], .string (bstr s)] w (UnpAns w (unpS e f s)) := by
  by_cases hc : chkF e f = 0
  · by_cases hl : 1048576 < s.length
    · exact unpack_long e f s hb w hc hl
    · exact unpack_main e f s hb w hc (by omega)
  · exact unpack_form e f s hb w hc
end Go.Proofs.YtefhannaofknnaaDoor
