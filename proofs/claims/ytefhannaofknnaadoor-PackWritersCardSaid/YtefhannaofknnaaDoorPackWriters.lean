/- PackWriters: the row and its card. -/
import Derived.Test.YtefhannaofknnaaDoorRows
import Derived.Test.YtefhannaofknnaaDoorCards
import Derived.Test.YtefhannaofknnaaDoorTie
import Derived.Test.YtefhannaofknnaaDoorPkO
import Derived.Test.YtefhannaofknnaaDoorPkWh
namespace Go.Proofs.YtefhannaofknnaaDoor.packWriters
open Go.ChangeShapes Go.WideShapes Go.ChangeAt Go.WideMaps Go.WideElems Go.RowKit Go.Joins
open Go.ChangeMaps (open_string shut_string)
open Go.RowKit
set_option linter.unusedVariables false
set_option linter.unusedSimpArgs false
set_option maxHeartbeats 4000000
set_option maxRecDepth 100000

/-- What a law's walk is told of a row of ints that came in. -/
structure InI (w : World) (v : Value) (A : Option Addr) (n c : Nat) (f : Nat → Int) : Prop where
  val_ : v = .slice A n c
  rd : RdI w A n f
  short : n ≤ 17592186044404
section
variable {H : Type} {enc : TypeId × Value → H} {w : World} {b0 : Nat} {r : Reach}
theorem open_is {v : Value} {d : DataW H} {p : List MemPlace} (hv : Value.okWide Tryd.prog w r b0 49 v) (h : DataW.Trod enc Tryd.prog w 0 (fun _ => true) true 49 v d p)
    {ts : List TypeId} {ds : List (DataW H)} (hsz : (DataW.weightsEach Tryd.prog ts ds).all (· ≤ reachBytes) = true) {j : Nat} (ht : ts[j]? = some 49) (hd : ds[j]? = some d) :
    ∃ A n c f, InI w v A n c f := by
  obtain ⟨fuel, hf⟩ := h
  obtain ⟨a0, n0, c0, rfl⟩ := okWide_slice Tryd.underlying49 hv
  rcases open_ints Tryd.underlying49 Tryd.underlying3 (by kernel_rfl) hf with ⟨e, _⟩ | ⟨a, len, cap, zs, e, _, hl, hm, hzl, hy, hcell, hwf⟩
  · simp only [Value.cells, List.cons.injEq, and_true, Value.slice.injEq] at e
    obtain ⟨rfl, rfl, rfl⟩ := e
    exact ⟨none, 0, 0, fun _ => 0, rfl, fun h => absurd h (Nat.lt_irrefl _), by decide⟩
  · simp only [Value.cells, List.cons.injEq, and_true, Value.slice.injEq] at e
    obtain ⟨rfl, e2, e3⟩ := e
    have e2' := e2.symm
    have e3' := e3.symm
    subst e2' e3'
    rw [if_pos rfl] at hzl
    simp only [Prod.mk.injEq] at hy
    have hsz' : len * 8 ≤ 140737488351232 := by
      have hd2 : ds[j]? = some (.slice (lits .i64 (zs.take len)) (lits .i64 (zs.drop len))) := by
        rw [hd, hy.1]
      have hb4 : Tryd.prog.bytesOf 3 = 8 := by kernel_rfl
      have := List.all_eq_true.1 hsz _ (DataW.weights_mem_each ht hd2 (((lits (H := H) .i64 (zs.take len)).length + (lits (H := H) .i64 (zs.drop len)).length) * Tryd.prog.bytesOf 3) (by simp [DataW.weights, DataW.weightsEach, Tryd.underlying49]))
      rw [hb4] at this
      simp only [lits, List.length_map, List.length_take, List.length_drop, reachBytes, decide_eq_true_eq] at this
      omega
    refine ⟨some a, len, cap, fun k => zs.getD k 0, rfl, fun h0 => ?_, by omega⟩
    have hc0 := hcell 0 (by omega)
    have hs := spot_none hc0
    have ha : a.add 0 = a := by simp [Addr.add]
    rw [ha] at hs
    obtain ⟨b, off, sp⟩ := a
    simp at hs
    subst hs
    refine ⟨b, off, rfl, fun k hk => ?_⟩
    rw [← hcell k (by omega)]
    congr 1
    unfold Addr.add
    split <;> simp_all
end
theorem own : ownKnob Tryd.prog.godebug = none := by kernel_rfl
theorem laidOut : laidOutB Tryd.prog = true := by kernel_rfl

theorem lifted (os : Os) (started : os.Started) (H : Type) (enc : TypeId × Value → H) :
    ReturnsInHanded {} Tryd.checked os 8 .any (fun w args => (Rows.packWritersSpec.pre enc Tryd.prog Tryd.f8 [] false w args ∧ laidMetH Tryd.prog laidT w) ∧ sizedMet enc Tryd.prog Tryd.f8 (OpenSpec.ofChange Rows.packWritersSpec) false w args)
      (Rows.packWritersSpec.post enc Tryd.prog Tryd.f8 false true false false) := by
  refine returnsInHanded_of_change_and (C := Tryd.checked) (X := fun w _ => laidMetH Tryd.prog laidT w) (fun _ _ _ hh h => h.of_heap hh) own started (by kernel_rfl) Tryd.func8
    (ChangeSpec.witness_shaped (enc := enc) (C := Tryd.checked) (os := os) (X := fun w _ => laidMetH Tryd.prog laidT w) false (World.doorLaid Tryd.prog 400 os) #[.agg #[.int .i64 0, .int .i64 0], .slice none 0 0, .slice none 0 0] 8 rfl (World.shaped_of_RefB (by kernel_rfl) (by kernel_rfl)) (by kernel_rfl) (by kernel_rfl) (by kernel_rfl) (door_met os _)) ?_
  intro W base args ds gs before hval0 hW hcnd hsz0 hL _
  have hT := tab_of_laid hL
  have hval : ∀ (j : Nat) t v, Tryd.f8.params[j]? = some t → args[j]? = some v → Value.okWide Tryd.prog W .any base t v := hval0
  have hsz : (DataW.weightsEach Tryd.prog (Tryd.f8.params.toList ++ Rows.packWritersSpec.plain.varTypes Tryd.prog) (ds ++ gs)).all (· ≤ reachBytes) = true := hsz0
  have hW' := hW
  obtain ⟨p, q, hA0, hV, rfl, hfz, hnd⟩ := hW
  have hA : DataW.TrodAll enc Tryd.prog W 0 (fun _ => true) true Tryd.f8.params.toList args.toList ds p := hA0
  rw [Tryd.params8] at hA hval hsz
  obtain ⟨v0, vs0, d0, ds0, p0, q0, hargs, rfl, rfl, h0, r0⟩ := trodAll_cons hA
  obtain ⟨v1, vs1, d1, ds1, p1, q1, rfl, rfl, rfl, h1, r1⟩ := trodAll_cons r0
  obtain ⟨v2, vs2, d2, ds2, p2, q2, rfl, rfl, rfl, h2, r2⟩ := trodAll_cons r1
  obtain ⟨rfl, rfl, rfl⟩ := trodAll_nil r2
  obtain rfl : args = #[v0, v1, v2] := by cases args; simp_all
  obtain ⟨rfl, rfl⟩ := trodVars_none hV
  have k0 := h0
  have lt0 : ∀ x ∈ p0, x.block < W.heap.size := by obtain ⟨m, hm⟩ := k0; exact DataW.trod_lt m _ _ _ hm
  obtain ⟨ca0, cb0, ya0, yb0, nn0, hv0, _, _, ga0, gb0⟩ := open_agg2 Tryd.underlying23 (by kernel_rfl) (by kernel_rfl) (hval 0 23 v0 rfl rfl) h0
  obtain ⟨e0, he0, _, we0⟩ := DataW.trod_int Tryd.underlying3 ga0
  obtain ⟨f0, hf0, _, wf0⟩ := DataW.trod_int Tryd.underlying3 gb0
  obtain rfl : ca0 = .int .i64 e0 := by simpa using he0
  obtain rfl : cb0 = .int .i64 f0 := by simpa using hf0
  subst hv0
  have be0 := bounds_i64 we0
  have bf0 := bounds_i64 wf0
  have k1 := h1
  have lt1 : ∀ x ∈ p1, x.block < W.heap.size := by obtain ⟨m, hm⟩ := k1; exact DataW.trod_lt m _ _ _ hm
  obtain ⟨A1, n1, c1, l1, I1⟩ := open_us (hval 1 24 v1 rfl rfl) h1 hsz (j := 1) rfl rfl
  obtain rfl := I1.val_
  have k2 := h2
  have lt2 : ∀ x ∈ p2, x.block < W.heap.size := by obtain ⟨m, hm⟩ := k2; exact DataW.trod_lt m _ _ _ hm
  obtain ⟨A2, n2, c2, l2, I2⟩ := open_is (hval 2 49 v2 rfl rfl) h2 hsz (j := 2) rfl rfl
  obtain rfl := I2.val_
  clear hA0 hval0 hsz0
  simp only [List.append_nil] at hW'
  refine (writers_any e0 f0 A1 l1 n1 c1 I1.len A2 n2 c2 l2 W I1.b64 (by have := I1.short; omega) I2.short I1.rd I2.rd hT).mono fun e W' ⟨he, bel⟩ => ?_
  subst he
  exact ⟨_, rfl, _, _, _, [], _, [], hW', trodAll_cons_mk (shut_bool Tryd.underlying4 _) trodAll_mk0, trodAll_cons_mk (Below.trod laidOut (by kernel_rfl) (of_decide_eq_true (by kernel_rfl)) k0 bel lt0) (trodAll_cons_mk (Below.trod laidOut (by kernel_rfl) (of_decide_eq_true (by kernel_rfl)) k1 bel lt1) (trodAll_cons_mk (Below.trod laidOut (by kernel_rfl) (of_decide_eq_true (by kernel_rfl)) k2 bel lt2) trodAll_mk0)), rfl, bel.frame _, fun h => by cases h⟩

theorem over : Rows.packWritersRow.holds Tryd.pinned (OpenSpec.ofChange Rows.packWritersSpec) :=
  OpenClaim.holds_of_wide 8 Tryd.f8 rfl rfl rfl rfl rfl rfl rfl ⟨rfl, rfl, rfl, rfl, rfl⟩ rfl rfl rfl rfl rfl (by kernel_rfl) Tryd.func8 (by kernel_rfl)
    (of_decide_eq_true (by kernel_rfl)) (by unfold Func.isWrapper; first | (rw [if_pos (by decide +kernel)]; kernel_rfl) | (rw [if_neg (by decide +kernel)]; exact ⟨rfl, rfl⟩))
    (fun os started H enc _ => lifted os started H enc)

theorem proved : Rows.PackWritersCardSaid :=
  Claim7.holds_tied_plain_at .later [] [.data] true (true, "5ca83c911220feab6a8400a5d73049f02ff188605a048ed35050831bd1b2a3a0") false
    over (fun _ h => by cases h) (by kernel_rfl) (fun _ h => by cases h) packWriters_row_tie rfl ⟨rfl, rfl⟩ (by kernel_rfl) rfl
    (fun f fn hf hfn => by
      obtain rfl : f = 8 := Option.some.inj ((show Tryd.prog.funcNamed "numeral/numerallaw27.PackWriters" = some 8 by kernel_rfl).symm.trans hf) |>.symm
      obtain rfl : fn = Tryd.f8 := (Option.some.inj (Tryd.func8.symm.trans hfn)).symm
      exact ⟨by kernel_rfl, fun j t ht => by
        rw [Tryd.params8] at ht
        have hm : t ∈ [23, 24, 49] := by simpa using Array.mem_of_getElem? ht
        have hall : ([23, 24, 49].all fun u => !Tryd.prog.wantsStandIn u) = true := by kernel_rfl
        exact (show Tryd.prog.wantsStandIn t = false by simpa using List.all_eq_true.1 hall t hm)⟩)
    (by kernel_rfl)
#print axioms proved
end Go.Proofs.YtefhannaofknnaaDoor.packWriters
