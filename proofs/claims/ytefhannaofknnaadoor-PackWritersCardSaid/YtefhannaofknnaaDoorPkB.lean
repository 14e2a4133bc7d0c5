/- Walk: put: bits behind others. -/
import Derived.Test.YtefhannaofknnaaDoorPkA
import Derived.Deep.CutBlock
namespace Go.Proofs.YtefhannaofknnaaDoor
open Go.RowKit
set_option linter.unusedVariables false
set_option linter.unusedSimpArgs false
set_option maxHeartbeats 4000000
set_option maxRecDepth 100000

/-- What is kept: all below B, and the blocks of X. -/
def Kp (X : Nat → Prop) (B : Nat) (w w' : World) : Prop := Below B w w' ∧ ∀ k, X k → k < w.heap.size → w'.heap[k]? = w.heap[k]?
/-- A struct and its row lie apart from X. -/
def Ap (X : Nat → Prop) (p : Nat) (v : Value) : Prop := ¬ X p ∧ ∀ g, v.ownBlock = some g → ¬ X g
section
variable {X : Nat → Prop} {B : Nat} {w w1 w2 : World}
theorem Kp.refl : Kp X B w w := ⟨Below.refl _ _, fun _ _ _ => rfl⟩
theorem Kp.size (h : Kp X B w w1) : w.heap.size ≤ w1.heap.size := h.1.size
theorem Kp.trans (h : Kp X B w w1) (h2 : Kp X B w1 w2) : Kp X B w w2 := ⟨h.1.trans h2.1, fun k hk hlt => (h2.2 k hk (Nat.lt_of_lt_of_le hlt h.1.size)).trans (h.2 k hk hlt)⟩
theorem Kp.of (hB : B ≤ w.heap.size) (h : Below w.heap.size w w1) : Kp X B w w1 := ⟨h.mono hB, fun k _ hlt => h.block k hlt⟩
theorem Kp.drew (h : Kp X B w w1) : Kp X B w w1.drew := ⟨h.1.drew, h.2⟩
theorem Kp.drewN (h : Kp X B w w1) (n : Nat) : Kp X B w (w1.drewN n) := ⟨bdn h.1 n, h.2⟩
theorem Kp.setCell (h : Kp X B w w1) {p : Addr} (hp : B ≤ p.block) (hX : ¬ X p.block) (u : Value) : Kp X B w (w1.setCell p u) :=
  ⟨h.1.setCell hp u, fun k hk hlt => (Below.heap_setCell w1 p u k (fun e => hX (e ▸ hk))).trans (h.2 k hk hlt)⟩
theorem Kp.alloc (h : Kp X B w w1) (hB : B ≤ w1.heap.size) (o : Obj) : Kp X B w (w1.alloc o) := ⟨h.1.alloc hB o, fun k hk hlt => (Below.heap_alloc w1 o k (Nat.lt_of_lt_of_le hlt h.1.size)).trans (h.2 k hk hlt)⟩
end
section
variable {P : Program} {ops : Array Oper} {rest : List Oper} {o : Oper} {a : Act} {Q : Exit → Act → World → Prop} {w : World} {B : Nat} {t e : TypeId} {k : IntKind} {v : Value} {l : List Nat}
/-- append of one number: where the row lies behind it. -/
theorem wpList_appL (E : ElemOf P t e k) (hgd : o.guard = none) (s x : Operand) (ho : o.op = .call { callee := .builtin .append, args := #[s, x], argTypes := #[t, t] })
    (hown : OwnR w B e k v l) (hs : a.eval s = v) (ad : Addr) (hx : a.eval x = .slice (some ad) 1 1) (y : Nat) (hcell : w.cell? ad = some (.int k (y : Int)))
    (hlen : l.length ≤ 1099511627776) (hB : B ≤ w.heap.size)
    (h : ∀ v' w', OwnR w' B e k v' (l ++ [y]) → w.grownBy w' v.ownBlock → Below B w w' → (∀ g, v'.ownBlock = some g → v.ownBlock = some g ∨ g = w.heap.size) → wpList P ops Q rest (a.put o.dst v') w') : wpList P ops Q (o :: rest) a w := by
  obtain ⟨i, b, hi, hz, hsz, hby, hb8⟩ := E.hi
  refine wpList_append_lies w hgd s x t ho B e i (.int k 0) 1 b E.ht hi hz hsz hby rfl (by decide) v l.length (ints k l) hs hown ad 1 1 [.int k (y : Int)] hx rfl ?_ ?_ (by decide) ?_ ?_ hB w.heap.size rfl ?_
  · intro j u hj
    match j with
    | 0 => simp at hj; subst hj; simpa [Addr.add] using hcell
    | j + 1 => simp at hj
  · intro u hu; simp at hu; subst hu; rfl
  · unfold maxLen; omega
  · have : (l.length + 1) * b ≤ (l.length + 1) * 8 := Nat.mul_le_mul_left _ hb8
    omega
  · intro g cap w' h1 h2 h3 _
    refine h _ w' ?_ h2 (below_grown h2 hown hB) (fun g' hg' => ?_)
    · unfold OwnR
      rw [List.length_append, ints_append]
      exact h1
    · have : g = g' := by simpa [Value.ownBlock] using hg'
      rw [← this]; exact h3
end

theorem sheet_putX (X : Nat → Prop) (p k : Nat) (t : TypeId) (cs : Array Value) (cv : Value) (bs : List Nat) (B n count : Nat) (hn : n < 18446744073709551616) (hc : count ≤ 64) (hlen : bs.length ≤ 1000000000000) (w : World) (hB : B ≤ w.heap.size) (hp : B ≤ p) (ht : t ≠ 5) (hX : ∀ x, X x → x < w.heap.size) (hax : Ap X p cv) (h : Sht w B p k t cs cv bs) :
    Calls Tryd.prog 35 #[.pointer (some ⟨p, k, none⟩), .int .u64 (n : Int), .int .i64 (count : Int)] w fun e w' => e = .returned (.tuple #[]) ∧
      ∃ cv', Sht w' B p k t (shtPut cs k cv' (bs.length + count)) cv' (bs ++ nb n count) ∧ Kp X B w w' ∧ Ap X p cv' := by
  have HC := Lib.hid hc
  go_enter Tryd.func35, Tryd.ntmps35
  go_wp2
  go_loopw [6] (fun v6 wr => ∃ (j : Nat) (cv' : Value), j ≤ count ∧ v6 = .int .i64 ((count : Int) - 1 - (j : Int)) ∧ Sht wr B p k t (shtPut cs k cv' (bs.length + j)) cv' (bs ++ nb (n / 2 ^ (count - j)) j) ∧ Kp X B w wr ∧ Ap X p cv') (fun v6 _ => (intOf v6 + 1).toNat)
  case atStart =>
    refine ⟨0, cv, Nat.zero_le _, by simp, ?_, Kp.refl, hax⟩
    rw [Nat.add_zero, shtPut_same h.c0 h.c2]
    simpa [nb] using h
  case round =>
    clear hax
    obtain ⟨j, cv', hj, rfl, hs, hbl, hax⟩ := hrel
    by_cases hj1 : j < count
    · obtain ⟨i, hi⟩ : ∃ i : Nat, (count : Int) - 1 - (j : Int) = (i : Int) := ⟨count - 1 - j, by omega⟩
      rw [hi]
      have HI := Lib.hid hi
      have hi64 : i < 64 := by omega
      obtain ⟨cs', hcs⟩ : ∃ cs', cs' = shtPut cs k cv' (bs.length + j) := ⟨_, rfl⟩
      rw [← hcs] at hs
      obtain ⟨bq, hbq⟩ : ∃ bq, bq = bs ++ nb (n / 2 ^ (count - j)) j := ⟨_, rfl⟩
      rw [← hbq] at hs
      have hbl2 : bq.length = bs.length + j := by rw [hbq]; simp
      have HCS := Lib.hid hcs
      have HBQ := Lib.hid hbq
      have HBL := Lib.hid hbl2
      have hq0 : bq.length ≤ 1000000000064 := by omega
      have d0 := hs.cell0
      have d1 := hs.cell1
      have d2 := hs.cell2
      have df0 := hs.blk.frozen k
      have df2 := hs.blk.frozen (k + 2)
      have dz := hs.blk.lt
      have hbits := hs.bits
      obtain ⟨A0, k0, rfl⟩ := hs.own.len.2
      rw [by8_length] at hs d0 hax
      have own0 := hs.own
      clear hcs hbq hbl2 hi
      by_cases h8 : bq.length % 8 = 0
      · have hg2 : (((bq.length : Nat) : Int).tmod 8 == 0) = true := by rw [beq_iff_eq, Int.tmod_eq_emod_of_nonneg (by omega)]; omega
        go_wp2
        go_quiet (fail)
        go_wp2_with (
          at_builtin
          refine wpList_appL elem8 rfl _ _ rfl ((own0.drewN _).alloc _) rfl ⟨wr.heap.size, 0, none⟩ rfl 0 ((World.cell?_alloc_new (w := wr.drewN nq) _ _ _).trans rfl) (by rw [by8_length]; omega) (by have := hbl.size; simp; omega) (fun v' w1 hown1 hgr1 hb1 hlie => ?_)
          have hbk : Blk w1 p t cs' := by
            have h1 : Blk (((wr.drewN nq).alloc (.cells #[.int .u8 0] 5))) p t cs' := (hs.blk.drewN _).alloc _
            exact (hgr1.block p h1.lt (by
              intro e
              rcases own0.form with ⟨e0, _⟩ | ⟨g, cap, cur, e0, _, hh, _⟩
              · rw [e0] at e; simp [Value.ownBlock] at e
              · rw [e0] at e
                simp [Value.ownBlock] at e
                subst e
                have := hs.blk
                unfold Blk at this hh
                rw [this] at hh
                injection hh with hh
                injection hh with _ hh
                exact ht hh)).trans h1
          have hb01 : Kp X B wr w1 := by
            have h1 : Below B wr (wr.drewN nq) := bdn (Below.refl _ _) _
            refine ⟨(h1.alloc (by have := hbl.size; simp; omega) _).trans hb1, fun x hx hlt => ?_⟩
            refine (hgr1.block x (by simp; omega) (fun e => hax.2 x e.symm hx)).trans ?_
            exact Below.heap_alloc _ _ _ hlt
          have haz : Ap X p v' := by
            refine ⟨hax.1, fun g hg hx => ?_⟩
            rcases hlie g hg with e | e
            · exact hax.2 g e hx
            · have e1 := hX g hx
              have e2 := hbl.size
              simp at e
              omega
          obtain ⟨A1, k1, rfl⟩ := hown1.len.2
          obtain ⟨m, hm⟩ : ∃ m, m = (by8 bq ++ [0]).length := ⟨_, rfl⟩
          rw [← hm] at hown1 ⊢
          rw [List.length_append, by8_length, List.length_singleton] at hm
          have HM := Lib.hid hm
          have hmb1 : m ≤ 1000000000000 := by omega
          have hmb2 : 1 ≤ m := by omega
          clear hm
          have a0 := (hbk.cell k).trans hs.c0
          have af := hbk.frozen k
          have az := hbk.lt)
        have hm := HM.out
        have hnp : ∀ g, (Value.slice A1 m k1).ownBlock = some g → g ≠ p := by
          intro g e e'
          rcases hown1.form with ⟨e0, _⟩ | ⟨g', cap, cur, e0, _, hh, _⟩
          · rw [e0] at e; simp [Value.ownBlock] at e
          · rw [e0] at e
            simp [Value.ownBlock] at e
            subst e e'
            unfold Blk at hbk hh
            rw [hbk] at hh
            injection hh with hh
            injection hh with _ hh
            exact ht hh
        have hownL : OwnR (w1.setCell ⟨p, k, none⟩ (.slice A1 m k1)) B 5 .u8 (.slice A1 m k1) (by8 bq ++ [0]) := by
          refine World.ownsRow.kept hown1 (row := some p) ⟨rfl, rfl, rfl, by simp, fun j hj hjn => Below.heap_setCell _ _ _ _ (by intro e; exact hjn (by rw [e]))⟩ ?_
          cases h' : (Value.slice A1 m k1).ownBlock with
          | none => exact .inl rfl
          | some g' => exact .inr (by have := hnp g' h'; simpa using this)
        have hblkz := hbk.set_ k (.slice A1 m k1)
        have hbz : Kp X B wr (w1.setCell ⟨p, k, none⟩ (.slice A1 m k1)) := hb01.setCell hp haz.1 _
        have hkl := (Array.getElem?_eq_some_iff.1 hs.c0).1
        have hz0 : (cs'.setIfInBounds k (.slice A1 m k1))[k]? = some (.slice A1 m k1) := by rw [Array.getElem?_setIfInBounds, if_pos rfl, if_pos hkl]
        have hz1 : (cs'.setIfInBounds k (.slice A1 m k1))[k + 1]? = some (.int .i64 8) := by rw [Array.getElem?_setIfInBounds, if_neg (by omega)]; exact hs.c1
        have hz2 : (cs'.setIfInBounds k (.slice A1 m k1))[k + 2]? = some (.int .i64 ((bq.length : Nat) : Int)) := by rw [Array.getElem?_setIfInBounds, if_neg (by omega)]; exact hs.c2
        obtain ⟨L, hLe⟩ : ∃ L, L = by8 bq ++ [0] := ⟨_, rfl⟩
        have hL : L.length = bq.length / 8 + 1 := by rw [hLe]; simp; omega
        have hnl : nth L (bq.length / 8) = 0 := by rw [hLe, nth_append_one, by8_length, if_pos (by omega)]
        have hx0 : nth L (bq.length / 8) < 256 := by rw [hnl]; decide
        have hxf : nth L (bq.length / 8) % 2 ^ (8 - bq.length % 8) = 0 := by rw [hnl]; simp
        have hset : ∀ b, L.set (bq.length / 8) (nth L (bq.length / 8) + b * 2 ^ (7 - bq.length % 8)) = by8 (bq ++ [b]) := by
          intro b
          rw [by8_new _ _ h8, hnl, hLe, h8]
          rw [List.set_append_right _ _ (by simp; omega)]
          simp only [by8_length]
          rw [show bq.length / 8 - (bq.length + 7) / 8 = 0 by omega]
          simp
        rw [← hLe] at hownL
        have hmq : m = bq.length / 8 + 1 := by omega
        have hblz := hbl.trans hbz
        clear hown1 hgr1 hb1 hb01 hlie hbk hbl hs own0 hax d0 d1 d2 df0 df2 dz a0 af az hnp hLe hnl hm
        generalize w1.setCell ⟨p, k, none⟩ (.slice A1 m k1) = wz at *
        obtain ⟨cz, hcz⟩ : ∃ cz, cz = cs'.setIfInBounds k (.slice A1 m k1) := ⟨_, rfl⟩
        rw [← hcz] at hblkz hz0 hz1 hz2
        have HCZ := Lib.hid hcz
        clear hcz hbz
        obtain ⟨q, hq⟩ : ∃ q, q = bq.length / 8 := ⟨_, rfl⟩
        obtain ⟨r, hr⟩ : ∃ r, r = bq.length % 8 := ⟨_, rfl⟩
        have hr8 : r < 8 := by omega
        have hqr : bq.length = 8 * q + r := by omega
        rw [← hq] at hset hL hx0 hxf hmq
        subst hmq
        try rw [show (((q + 1 : Nat) : Int) - 1) = (q : Int) by omega]
        rw [← hr] at hset hxf
        have hI2 : ((bq.length : Nat) : Int).tmod 8 = (r : Int) := by rw [Int.tmod_eq_emod_of_nonneg (by omega)]; omega
        obtain ⟨g, rfl, hgB, hgl, hn', hfz, hcell⟩ := hownL.addr (by omega)
        have hx1 := hcell q (by omega)
        have hfi := hfz q
        obtain ⟨x, hxe⟩ : ∃ x, x = nth L q := ⟨_, rfl⟩
        rw [← hxe] at hx1 hx0 hxf hset
        have e0 := (hblkz.cell k).trans hz0
        have e1 := (hblkz.cell (k + 1)).trans hz1
        have e2 := (hblkz.cell (k + 2)).trans hz2
        have ef2 := hblkz.frozen (k + 2)
        have ezp := hblkz.lt
        obtain ⟨b, hb⟩ : ∃ b, b = n / 2 ^ i % 2 := ⟨_, rfl⟩
        have hb2 : b < 2 := by omega
        have hor := or_byte ⟨x, hx0⟩ ⟨r, hr8⟩ ⟨b, hb2⟩ hxf
        simp only at hor
        have hI3 : ((bq.length : Nat) : Int) % 8 = (r : Int) := by omega
        have HLL := Lib.hid hL
        have hqb : q ≤ 1000000000000 := by omega
        have HQR := Lib.hid hqr
        clear hcell hfz hq hr hxe hL hn' hqr
        have hand := shr_bit n i b hn hb
        have HB := Lib.hid hb
        have HOR := Lib.hid hor
        have HXF := Lib.hid hxf
        have HSET := Lib.hid hset
        clear hb hxf hset
        have hsh := fun W : World => shl_bit Tryd.prog b r hb2 hr8 W
        obtain ⟨c, hce⟩ : ∃ c, c = b * 2 ^ (7 - r) := ⟨_, rfl⟩
        rw [← hce] at hsh hor
        obtain ⟨y, hye⟩ : ∃ y, y = x + c := ⟨_, rfl⟩
        rw [← hye] at hor
        have HY := Lib.hid (show y = x + b * 2 ^ (7 - r) by rw [hye, hce])
        clear hye hce
        have hap := hownL.apart hblkz ht g rfl
        have hap' : p ≠ g := fun e => hap e.symm
        clear h8 hg2
        have hqm : q < q + 1 := Nat.lt_succ_self q
        have hqm2 : (q : Int) < ((q + 1 : Nat) : Int) := Int.ofNat_lt.2 hqm
        have hqm3 : (q : Int) < (q : Int) + 1 := Int.lt_succ _
        go_wp2
        go_still_tail 30, (by kernel_rfl)
        go_wp2
        clear hand hsh hor hI2 hI3
        go_roundw
        case rel =>
          refine ⟨j + 1, .slice (some ⟨g, 0, none⟩) (q + 1) k1, hj1, by have := HI.out; simp only [Value.int.injEq, true_and]; omega, ?_, ?_, haz⟩
          · have ho1 := hownL.poke (i := q) (y := y) (E := (y : Int)) (by have := HLL.out; omega) rfl
            have hb1 := hblkz.far (p := ⟨g, q, none⟩) hap' (.int .u8 (y : Int))
            have hb2 := hb1.set_ (k + 2) (.int .i64 ((bs.length + (j + 1) : Nat) : Int))
            have ho2 := ho1.far (p := ⟨p, k + 2, none⟩) (fun g' e => by simp [Value.ownBlock] at e; rw [← e]; exact hap) (.int .i64 ((bs.length + (j + 1) : Nat) : Int))
            have hLy : L.set q y = by8 (bq ++ [b]) := by rw [HY.out]; exact HSET.out b
            rw [hLy] at ho2
            have hbb : bq ++ [b] = bs ++ nb (n / 2 ^ (count - (j + 1))) (j + 1) := by
              have hi0 := HI.out
              have hi1 : count - (j + 1) = i := by omega
              rw [HBQ.out, hi1, nb, Nat.div_div_eq_div_mul, show 2 ^ i * 2 = 2 ^ (count - j) by rw [← Nat.pow_succ]; congr 1; omega, HB.out, List.append_assoc]
            have hcc : cz.setIfInBounds (k + 2) (.int .i64 ((bs.length + (j + 1) : Nat) : Int)) = shtPut cs k (.slice (some ⟨g, 0, none⟩) (q + 1) k1) (bs.length + (j + 1)) := by
              rw [HCZ.out, HCS.out]
              exact shtPut_again
            rw [hbb] at ho2
            rw [hcc] at hb2
            have hl2 : (bs ++ nb (n / 2 ^ (count - (j + 1))) (j + 1)).length = bs.length + (j + 1) := by simp
            have h0 := (Array.getElem?_eq_some_iff.1 h.c0).1
            have h1 := h.c1
            have h2 := (Array.getElem?_eq_some_iff.1 h.c2).1
            have hE : ((bq.length : Nat) : Int) + 1 = ((bs.length + (j + 1) : Nat) : Int) := by have := HBL.out; omega
            rw [hE]
            refine ⟨hb2.drew, ?_, ?_, ?_, ho2.drew, ?_⟩
            · unfold shtPut; rw [Array.getElem?_setIfInBounds, if_neg (by omega), Array.getElem?_setIfInBounds, if_pos rfl, if_pos h0]
            · unfold shtPut; rw [Array.getElem?_setIfInBounds, if_neg (by omega), Array.getElem?_setIfInBounds, if_neg (by omega)]; exact h1
            · unfold shtPut; rw [Array.getElem?_setIfInBounds, if_pos rfl, if_pos (by simpa using h2), hl2]
            · exact h.bits.append (bs_nb _ _)
          · exact Kp.drew ((hblz.setCell hgB (haz.2 g rfl) _).setCell hp haz.1 _)
        case measure => exact meas_down i
      · have hg2 : (((bq.length : Nat) : Int).tmod 8 == 0) = false := by rw [beq_eq_false_iff_ne, Int.tmod_eq_emod_of_nonneg (by omega)]; omega
        go_wp2
        go_quiet (fail)
        have hg3 : (((bq.length : Nat) : Int) % 8 == 0) = false := by rw [beq_eq_false_iff_ne]; omega
        go_upto_region 5 with (fail)
        clear hg3
        obtain ⟨m, hm⟩ : ∃ m, m = (bq.length + 7) / 8 := ⟨_, rfl⟩
        have hmq : m = bq.length / 8 + 1 := by omega
        rw [← hm] at hs own0 d0 hax
        obtain ⟨L, hLe⟩ : ∃ L, L = by8 bq := ⟨_, rfl⟩
        have hL : L.length = bq.length / 8 + 1 := by rw [hLe, by8_length]; omega
        obtain ⟨hx0, hxf⟩ := byte_free hbits h8
        have hset : ∀ b, L.set (bq.length / 8) (nth L (bq.length / 8) + b * 2 ^ (7 - bq.length % 8)) = by8 (bq ++ [b]) := by
          intro b
          rw [by8_more _ _ h8, hLe]
        rw [← hLe] at hx0 hxf
        have hblz : Kp X B w (wr.drewN nq) := hbl.drewN _
        have haz := hax
        have hownL : OwnR (wr.drewN nq) B 5 .u8 (.slice A0 m k0) L := by rw [hLe]; exact own0.drewN _
        have hblkz : Blk (wr.drewN nq) p t cs' := hs.blk.drewN _
        have hz0 := hs.c0
        have hz1 := hs.c1
        have hz2 := hs.c2
        have HCZ := Lib.hid (set_back hz0).symm
        clear hs own0 d0 d1 d2 df0 df2 dz hbl hLe hm hax
        obtain ⟨cz, hcz⟩ : ∃ cz, cz = cs' := ⟨_, rfl⟩
        rw [← hcz] at hblkz hz0 hz1 hz2
        have HCZ := Lib.hid (hcz.trans HCZ.out)
        clear hcz
        generalize wr.drewN nq = wz at *
        obtain ⟨q, hq⟩ : ∃ q, q = bq.length / 8 := ⟨_, rfl⟩
        obtain ⟨r, hr⟩ : ∃ r, r = bq.length % 8 := ⟨_, rfl⟩
        have hr8 : r < 8 := by omega
        have hqr : bq.length = 8 * q + r := by omega
        rw [← hq] at hset hL hx0 hxf hmq
        subst hmq
        try rw [show (((q + 1 : Nat) : Int) - 1) = (q : Int) by omega]
        rw [← hr] at hset hxf
        have hI2 : ((bq.length : Nat) : Int).tmod 8 = (r : Int) := by rw [Int.tmod_eq_emod_of_nonneg (by omega)]; omega
        obtain ⟨g, rfl, hgB, hgl, hn', hfz, hcell⟩ := hownL.addr (by omega)
        have hx1 := hcell q (by omega)
        have hfi := hfz q
        obtain ⟨x, hxe⟩ : ∃ x, x = nth L q := ⟨_, rfl⟩
        rw [← hxe] at hx1 hx0 hxf hset
        have e0 := (hblkz.cell k).trans hz0
        have e1 := (hblkz.cell (k + 1)).trans hz1
        have e2 := (hblkz.cell (k + 2)).trans hz2
        have ef2 := hblkz.frozen (k + 2)
        have ezp := hblkz.lt
        obtain ⟨b, hb⟩ : ∃ b, b = n / 2 ^ i % 2 := ⟨_, rfl⟩
        have hb2 : b < 2 := by omega
        have hor := or_byte ⟨x, hx0⟩ ⟨r, hr8⟩ ⟨b, hb2⟩ hxf
        simp only at hor
        have hI3 : ((bq.length : Nat) : Int) % 8 = (r : Int) := by omega
        have HLL := Lib.hid hL
        have hqb : q ≤ 1000000000000 := by omega
        have HQR := Lib.hid hqr
        clear hcell hfz hq hr hxe hL hn' hqr
        have hand := shr_bit n i b hn hb
        have HB := Lib.hid hb
        have HOR := Lib.hid hor
        have HXF := Lib.hid hxf
        have HSET := Lib.hid hset
        clear hb hxf hset
        have hsh := fun W : World => shl_bit Tryd.prog b r hb2 hr8 W
        obtain ⟨c, hce⟩ : ∃ c, c = b * 2 ^ (7 - r) := ⟨_, rfl⟩
        rw [← hce] at hsh hor
        obtain ⟨y, hye⟩ : ∃ y, y = x + c := ⟨_, rfl⟩
        rw [← hye] at hor
        have HY := Lib.hid (show y = x + b * 2 ^ (7 - r) by rw [hye, hce])
        clear hye hce
        have hap := hownL.apart hblkz ht g rfl
        have hap' : p ≠ g := fun e => hap e.symm
        clear h8 hg2
        have hqm : q < q + 1 := Nat.lt_succ_self q
        have hqm2 : (q : Int) < ((q + 1 : Nat) : Int) := Int.ofNat_lt.2 hqm
        have hqm3 : (q : Int) < (q : Int) + 1 := Int.lt_succ _
        go_wp2
        go_still_tail 30, (by kernel_rfl)
        go_wp2
        clear hand hsh hor hI2 hI3
        go_roundw
        case rel =>
          refine ⟨j + 1, .slice (some ⟨g, 0, none⟩) (q + 1) k0, hj1, by have := HI.out; simp only [Value.int.injEq, true_and]; omega, ?_, ?_, haz⟩
          · have ho1 := hownL.poke (i := q) (y := y) (E := (y : Int)) (by have := HLL.out; omega) rfl
            have hb1 := hblkz.far (p := ⟨g, q, none⟩) hap' (.int .u8 (y : Int))
            have hb2 := hb1.set_ (k + 2) (.int .i64 ((bs.length + (j + 1) : Nat) : Int))
            have ho2 := ho1.far (p := ⟨p, k + 2, none⟩) (fun g' e => by simp [Value.ownBlock] at e; rw [← e]; exact hap) (.int .i64 ((bs.length + (j + 1) : Nat) : Int))
            have hLy : L.set q y = by8 (bq ++ [b]) := by rw [HY.out]; exact HSET.out b
            rw [hLy] at ho2
            have hbb : bq ++ [b] = bs ++ nb (n / 2 ^ (count - (j + 1))) (j + 1) := by
              have hi0 := HI.out
              have hi1 : count - (j + 1) = i := by omega
              rw [HBQ.out, hi1, nb, Nat.div_div_eq_div_mul, show 2 ^ i * 2 = 2 ^ (count - j) by rw [← Nat.pow_succ]; congr 1; omega, HB.out, List.append_assoc]
            have hcc : cz.setIfInBounds (k + 2) (.int .i64 ((bs.length + (j + 1) : Nat) : Int)) = shtPut cs k (.slice (some ⟨g, 0, none⟩) (q + 1) k0) (bs.length + (j + 1)) := by
              rw [HCZ.out, HCS.out]
              exact shtPut_again
            rw [hbb] at ho2
            rw [hcc] at hb2
            have hl2 : (bs ++ nb (n / 2 ^ (count - (j + 1))) (j + 1)).length = bs.length + (j + 1) := by simp
            have h0 := (Array.getElem?_eq_some_iff.1 h.c0).1
            have h1 := h.c1
            have h2 := (Array.getElem?_eq_some_iff.1 h.c2).1
            have hE : ((bq.length : Nat) : Int) + 1 = ((bs.length + (j + 1) : Nat) : Int) := by have := HBL.out; omega
            rw [hE]
            refine ⟨hb2.drew, ?_, ?_, ?_, ho2.drew, ?_⟩
            · unfold shtPut; rw [Array.getElem?_setIfInBounds, if_neg (by omega), Array.getElem?_setIfInBounds, if_pos rfl, if_pos h0]
            · unfold shtPut; rw [Array.getElem?_setIfInBounds, if_neg (by omega), Array.getElem?_setIfInBounds, if_neg (by omega)]; exact h1
            · unfold shtPut; rw [Array.getElem?_setIfInBounds, if_pos rfl, if_pos (by simpa using h2), hl2]
            · exact h.bits.append (bs_nb _ _)
          · exact Kp.drew ((hblz.setCell hgB (haz.2 g rfl) _).setCell hp haz.1 _)
        case measure => exact meas_down i
    · obtain rfl : j = count := by omega
      have hg : decide ((0 : Int) ≤ (j : Int) - 1 - (j : Int)) = false := by simp; omega
      rw [show (j : Int) - 1 - (j : Int) = -1 by omega]
      rw [Nat.sub_self, Nat.pow_zero, Nat.div_one] at hs
      go_wp2
      go_end0
      exact ⟨rfl, cv', hs, hbl, hax⟩
theorem sheet_put (p k : Nat) (t : TypeId) (cs : Array Value) (cv : Value) (bs : List Nat) (B n count : Nat) (hn : n < 18446744073709551616) (hc : count ≤ 64) (hlen : bs.length ≤ 1000000000000) (w : World) (hB : B ≤ w.heap.size) (hp : B ≤ p) (ht : t ≠ 5) (h : Sht w B p k t cs cv bs) :
    Calls Tryd.prog 35 #[.pointer (some ⟨p, k, none⟩), .int .u64 (n : Int), .int .i64 (count : Int)] w fun e w' => e = .returned (.tuple #[]) ∧
      ∃ cv', Sht w' B p k t (shtPut cs k cv' (bs.length + count)) cv' (bs ++ nb n count) ∧ Below B w w' :=
  (sheet_putX (fun _ => False) p k t cs cv bs B n count hn hc hlen w hB hp ht (fun _ hx => hx.elim) ⟨fun hx => hx, fun _ _ hx => hx⟩ h).mono fun _ _ ⟨h1, cv', h2, h3, _⟩ => ⟨h1, cv', h2, h3.1⟩
end Go.Proofs.YtefhannaofknnaaDoor
