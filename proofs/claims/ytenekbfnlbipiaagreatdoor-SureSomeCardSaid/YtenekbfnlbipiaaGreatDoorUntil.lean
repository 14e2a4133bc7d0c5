/- A region that draws its order, whose one operation L writes what its loads read: all loads wait ahead of L. No program here. -/
import Derived.Deep.RegionHeld3
import Derived.Lib.Hide
namespace Go.Proofs.YtenekbfnlbipiaaGreatDoor
open Go.RowKit
set_option linter.unusedVariables false
set_option linter.unusedSimpArgs false
namespace Bg
section
variable {P : Program} {ops : Array Oper} {Q : Exit → Act → World → Prop} {md : Region.Mode} {S : World → Prop} {L : Nat}
def Until (P : Program) (md : Region.Mode) (ops : Array Oper) (Q : Exit → Act → World → Prop) (S : World → Prop) (L : Nat) : Nat → Array Bool → Act → World → Prop
  | 0, d, a, w => Region.ready md ops d = [] ∧ Q .normal a w
  | n + 1, d, a, w => (Region.ready md ops d = [] → Q .normal a w) ∧ ∀ i ∈ Region.ready md ops d, wpOp P ops Q i (fun a' w' => ((d.setIfInBounds i true).getD L false = true ∨ S w') ∧ Until P md ops Q S L n (d.setIfInBounds i true) a' w') a w
theorem Until.any : ∀ (n : Nat) (d : Array Bool) (a : Act) (w : World), Until P md ops Q S L n d a w → wpAny P md ops Q n d a w
  | 0, _, _, _, h => h
  | n + 1, d, _, _, h => ⟨h.1, fun i hi => wpOp_mono (fun _ _ k => Until.any n _ _ _ k.2) (h.2 i hi)⟩
def waitsAll (md : Region.Mode) (ops : Array Oper) (d : Array Bool) (L i : Nat) (D : List Nat) : Bool :=
  D.contains i && D.contains L && !(i == L) && D.all (fun j => !(d.getD j true)) && D.all (fun j => j == i || (match ops[j]? with | some o => o.after.any (fun e => Region.binds md e && D.contains e.on) | none => false))
def waiting (md : Region.Mode) (ops : Array Oper) (i : Nat) : List Nat :=
  (List.range ops.size).foldl (fun D j => match ops[j]? with | some o => if i < j && o.after.any (fun e => Region.binds md e && D.contains e.on) then j :: D else D | none => D) [i]
theorem Until.first {i : Nat} {oi : Oper} {v : Value} {D : List Nat} (hi : ops[i]? = some oi) (hsel : ∀ (j : Nat) (o : Oper) cs b, ops[j]? = some o → o.op ≠ .select cs b)
    (hQ : ∀ c a w, Q (.panic c) (a.put oi.dst v) w → Q (.panic c) a w) (hDL : L ∈ D) (hiL : i ≠ L)
    (hDw : ∀ j ∈ D, j ≠ i → ∃ o, ops[j]? = some o ∧ ∃ e ∈ o.after, Region.binds md e = true ∧ e.on ∈ D) :
    ∀ (n : Nat) (d : Array Bool) (a : Act) (w : World),
      (∀ j oj, ops[j]? = some oj → j ≠ i → d.getD j true = false → (∀ e ∈ oj.after, Region.binds md e = true → e.on ≠ i) → oi.apart ops oj = true) →
      (∀ j ∈ D, d.getD j true = false) → i ∈ Region.ready md ops d → YieldsIf P ops S oi v a → S w →
      Until P md ops Q S L n (d.setIfInBounds i true) (a.put oi.dst v) w → Until P md ops Q S L (n + 1) d a w := by
  intro n
  induction n with
  | zero =>
    intro d a w _ _ hr hy hS H
    refine ⟨fun h0 => by (rw [h0] at hr; cases hr), fun j hj => ?_⟩
    by_cases e : j = i
    · subst e; exact hy.wpOp hi hS ⟨.inr hS, H⟩
    · have h1 := ready_mono hj e
      rw [H.1] at h1
      cases h1
  | succ n ih =>
    intro d a w hfree hDd hr hy hS H
    refine ⟨fun h0 => by (rw [h0] at hr; cases hr), fun j hj => ?_⟩
    by_cases e : j = i
    · subst e; exact hy.wpOp hi hS ⟨.inr hS, H⟩
    · obtain ⟨hju, oj, hoj, hall⟩ := mem_ready.1 hj
      have hlt : ∀ k, d.getD k false = true → d.getD k true = true := fun k hk => by
        rcases Nat.lt_or_ge k d.size with h | h
        · simp [h] at hk ⊢; exact hk
        · simp [Array.getElem?_eq_none h] at hk
      have hjD : j ∉ D := fun hm => by
        obtain ⟨o, ho, x, hx, hb, hxD⟩ := hDw j hm e
        rw [hoj] at ho
        cases ho
        have h1 := hlt _ (hall x hx hb)
        rw [hDd _ hxD] at h1
        cases h1
      have hjL : j ≠ L := fun h => hjD (h ▸ hDL)
      have hnot : ∀ x ∈ oj.after, Region.binds md x = true → x.on ≠ i := fun x hx hb h => by
        have h1 := hlt _ (hall x hx hb)
        rw [h, (mem_ready.1 hr).1] at h1
        cases h1
      have h2 := wpOp_putIf hoj (hfree j oj hoj e hju hnot) (fun cs b => hsel i oi cs b hi) (fun cs b => hsel j oj cs b hoj) hQ hy (H.2 j (ready_mono hj e))
      refine wpOp_mono (fun a' w' k => ?_) h2
      have hS' : S w' := k.2.1.resolve_left (fun h => by
        rw [getD_set_ne false hjL, getD_set_ne false hiL] at h
        have h1 := hlt _ h
        rw [hDd _ hDL] at h1
        cases h1)
      refine ⟨.inr hS', ih (d.setIfInBounds j true) a' w' (fun m om hm hmi hu hno => ?_) (fun m hm => ?_) (ready_mono hr (Ne.symm e)) k.1 hS' ?_⟩
      · refine hfree m om hm hmi ?_ hno
        by_cases hjm : j = m
        · subst hjm; exact hju
        · rw [getD_set_ne true hjm] at hu; exact hu
      · rw [getD_set_ne true (show j ≠ m by rintro rfl; exact hjD hm)]; exact hDd m hm
      · rw [Array.setIfInBounds_comm _ _ e]; exact k.2.2
theorem Until.take {n i : Nat} {oi : Oper} {v : Value} {d : Array Bool} {a : Act} {w : World} (hi : ops[i]? = some oi)
    (hs : Region.noSelect ops = true) (hf : Region.free md ops d i = true) (hr : (Region.ready md ops d).contains i = true) (hD : waitsAll md ops d L i (waiting md ops i) = true)
    (hQ : ∀ c a w, Q (.panic c) (a.put oi.dst v) w → Q (.panic c) a w) (hS : S w) (hy : YieldsIf P ops S oi v a)
    (h : Until P md ops Q S L n (d.setIfInBounds i true) (a.put oi.dst v) w) : Until P md ops Q S L (n + 1) d a w := by
  unfold waitsAll at hD
  simp only [Bool.and_eq_true, List.all_eq_true, List.contains_iff_mem, Bool.not_eq_true', beq_eq_false_iff_ne, Bool.or_eq_true, beq_iff_eq] at hD
  obtain ⟨⟨⟨⟨_, hL⟩, hiL⟩, hu⟩, hw⟩ := hD
  refine Until.first (D := waiting md ops i) hi (Region.noSelect_spec hs) hQ hL hiL (fun j hj hne => ?_) n d a w (Region.free_spec hi hf) hu (by simpa using hr) hy hS h
  have h1 := (hw j hj).resolve_left hne
  cases ho : ops[j]? with
  | none => rw [ho] at h1; cases h1
  | some o =>
    rw [ho] at h1
    simp only [Array.any_eq_true] at h1
    obtain ⟨k, hk, h1⟩ := h1
    simp only [Bool.and_eq_true, List.contains_iff_mem] at h1
    exact ⟨o, rfl, o.after[k], Array.getElem_mem hk, h1.1, h1.2⟩
theorem Until.one {n c : Nat} {o : Oper} {d : Array Bool} {a : Act} {w : World} (hr : Region.ready md ops d = [c]) (ho : ops[c]? = some o) (hw : Region.wanted o (yielded ops a.tmps) = true)
    (h : ∀ K : Act → World → Prop, Hid (∀ a' w', ((d.setIfInBounds c true).getD L false = true ∨ S w') → Until P md ops Q S L n (d.setIfInBounds c true) a' w' → K a' w') → Oper.wp P o a w K Q) : Until P md ops Q S L (n + 1) d a w := by
  refine ⟨fun h0 => by (rw [h0] at hr; cases hr), fun i hi => ?_⟩
  rw [hr] at hi
  obtain rfl : i = c := by simpa using hi
  unfold wpOp
  simp only [ho, hw, if_true]
  exact .inl (h _ (fun a' w' h1 h2 => ⟨h1, h2⟩))
theorem Until.done {d : Array Bool} {a : Act} {w : World} (hr : Region.ready md ops d = []) (h : Q .normal a w) : ∀ n, Until P md ops Q S L n d a w
  | 0 => ⟨hr, h⟩
  | _ + 1 => ⟨fun _ => h, by rw [hr]; simp⟩
theorem region_until {id : Nat} {a : Act} {w : World} (L : Nat) (S : World → Prop) (hm : P.follows .mixedOrders = true) (h : Until P .any ops Q S L ops.size (Array.replicate ops.size false) a w.drew) : (Code.region id ops true).wp P Q a w :=
  wp_region_any hm (Until.any _ _ _ _ h)
end
end Bg
end Go.Proofs.YtenekbfnlbipiaaGreatDoor
