/- Walk of the document's pack: Unpack. -/
import Derived.Test.YtefhannaofknnaaDoorPkRc
import Derived.Test.YtefhannaofknnaaDoorPkRq
import Derived.Laws.CopyOwn
namespace Go.Proofs.YtefhannaofknnaaDoor
open Go.RowKit
set_option linter.unusedVariables false
set_option linter.unusedSimpArgs false
set_option maxHeartbeats 4000000
set_option maxRecDepth 100000

theorem RowK.rd {w : World} {t : TypeId} {k : IntKind} {g : Nat} {l : List Nat} (h : RowK w t k g l) : RdK k w (some ⟨g, 0, none⟩) l := fun _ => ⟨g, 0, rfl, fun j hj => by rw [Nat.zero_add]; exact h.cell j hj⟩
theorem RdK.take {k : IntKind} {w : World} {A : Option Addr} {l : List Nat} (h : RdK k w A l) (m : Nat) : RdK k w A (l.take m) := fun hn => by
  rw [List.length_take] at hn
  obtain ⟨b, off, e, hc⟩ := h (by omega)
  refine ⟨b, off, e, fun j hj => ?_⟩
  rw [List.length_take] at hj
  rw [nth_tk (by omega)]
  exact hc j (by omega)
theorem toList_loop (bs : ByteArray) : ∀ (n i : Nat) (r : List UInt8), bs.size - i = n → ByteArray.toList.loop bs i r = r.reverse ++ bs.data.toList.drop i
  | 0, i, r, h => by
    rw [ByteArray.toList.loop, if_neg (by omega), List.drop_of_length_le (by show bs.data.toList.length ≤ i; have : bs.data.toList.length = bs.size := rfl; omega), List.append_nil]
  | n + 1, i, r, h => by
    have hi : i < bs.data.toList.length := by have : bs.data.toList.length = bs.size := rfl; omega
    rw [ByteArray.toList.loop, if_pos (by omega), toList_loop bs n (i + 1) _ (by omega), List.drop_eq_getElem_cons hi, List.reverse_cons, List.append_assoc]
    have e : bs.get! i = bs.data.toList[i] := by
      show bs.data[i]! = _
      rw [getElem!_pos bs.data i (by simpa using hi)]
      simp
    rw [e]
    rfl
theorem toList_data (bs : ByteArray) : bs.toList = bs.data.toList := by
  unfold ByteArray.toList
  rw [toList_loop bs _ 0 [] rfl]
  simp
theorem toList_inj {a b : ByteArray} (h : a.toList = b.toList) : a = b := by
  rw [toList_data, toList_data] at h
  cases a; cases b
  simp only [ByteArray.mk.injEq] 
  exact Array.toList_inj.1 h
theorem ref_same (A1 A2 : Option Addr) (l1 l2 : List Nat) (n1 n2 c1 c2 : Nat) (hn1 : n1 = l1.length) (hn2 : n2 = l2.length) (hp1 : 0 < l1.length) (hp2 : 0 < l2.length) (hb1 : Bts l1) (hb2 : Bts l2) (w : World) (h1 : RdK .u8 w A1 l1) (h2 : RdK .u8 w A2 l2) :
    Calls Tryd.prog 49 #[.slice A1 n1 c1, .slice A2 n2 c2] w (Says w (.bool (decide (l1 = l2)))) := by
  subst hn1 hn2
  obtain ⟨b1, o1, rfl, hc1⟩ := h1 hp1
  obtain ⟨b2, o2, rfl, hc2⟩ := h2 hp2
  have e1 := run_bytes (P := Tryd.prog) w 53 5 9 (by kernel_rfl) (by kernel_rfl) (by kernel_rfl) b1 o1 _ c1 l1 rfl hc1
  have e2 := run_bytes (P := Tryd.prog) w 53 5 9 (by kernel_rfl) (by kernel_rfl) (by kernel_rfl) b2 o2 _ c2 l2 rfl hc2
  have hd : decide (l1 = l2) = ((bstr l1).toList == (bstr l2).toList) := by
    by_cases h : l1 = l2
    · subst h
      rw [beq_self_eq_true]
      simp
    · have h3 : ¬ (bstr l1).toList = (bstr l2).toList := fun h4 => h (bstr_inj hb1 hb2 (toList_inj h4))
      rw [beq_eq_false_iff_ne.2 h3]; simpa using h
  rw [hd]
  clear hd hc1 hc2 hp1 hp2 hb1 hb2 h1 h2
  go_enter Tryd.func49, Tryd.ntmps49
  go_wp2
  go_ret
  exact ⟨rfl, Below.refl _ _⟩
theorem ref_unpack_form (e f : Int) (s : List Nat) (hb : Bts s) (w : World) (hc : chkF e f ≠ 0) :
    Calls Tryd.prog 25 #[.agg #[.int .i64 e, .int .i64 f], .string (bstr s)] w (UnpAns w (unpS e f s)) := by
  have hu : unpS e f s = ([], 0, 5) := by unfold unpS; rw [if_pos hc]
  rw [hu]
  have hc5 := chk_no hc
  have HC := Lib.hid hc5
  clear hc hu hc5
  go_enter Tryd.func25, Tryd.ntmps25
  go_wp2_with fail
  refine (ref_Check _ _ _).mono ?_
  rintro r w1 ⟨rfl, hb1⟩
  rw [HC.out]
  have hbw1 : Below w.heap.size w w1 := ((Below.refl w.heap.size w).alloc (Nat.le_refl _) _).trans (hb1.mono (by simp))
  go_wp2
  go_returns
  exact ⟨_, rfl, OwnR.nil _ _ _ _, hbw1⟩
theorem ref_unpack_long (e f : Int) (s : List Nat) (hb : Bts s) (w : World) (hc : chkF e f = 0) (hl : 1048576 < s.length) :
    Calls Tryd.prog 25 #[.agg #[.int .i64 e, .int .i64 f], .string (bstr s)] w (UnpAns w (unpS e f s)) := by
  have hu : unpS e f s = ([], 0, 4) := by unfold unpS; rw [if_neg (by simpa using hc), if_pos hl]
  rw [hu]
  have HC := Lib.hid hc
  have hsz := bstr_size s
  have hg : decide ((1048576 : Int) < ((s.length : Nat) : Int)) = true := by simp; omega
  clear hc hu hl
  go_enter Tryd.func25, Tryd.ntmps25
  go_wp2_with fail
  refine (ref_Check _ _ _).mono ?_
  rintro r w1 ⟨rfl, hb1⟩
  rw [HC.out]
  have hbw1 : Below w.heap.size w w1 := ((Below.refl w.heap.size w).alloc (Nat.le_refl _) _).trans (hb1.mono (by simp))
  go_wp2
  go_returns
  exact ⟨_, rfl, OwnR.nil _ _ _ _, hbw1⟩
end Go.Proofs.YtefhannaofknnaaDoor
