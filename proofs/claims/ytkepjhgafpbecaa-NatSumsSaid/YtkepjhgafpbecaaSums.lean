/- Walk: sums, over the state of a law. -/
import Derived.Test.YtkepjhgafpbecaaSt
import Derived.Test.YtkepjhgafpbecaaCmp
import Derived.Test.YtkepjhgafpbecaaAdd
import Derived.Test.YtkepjhgafpbecaaL
import Derived.Test.YtkepjhgafpbecaaM
import Derived.Test.YtkepjhgafpbecaaSubR
namespace Go.Proofs.Ytkepjhgafpbecaa
open Go.RowKit
set_option linter.unusedVariables false
set_option linter.unusedSimpArgs false
set_option maxHeartbeats 4000000
set_option maxRecDepth 100000

theorem St.shed {w wk : World} {kb : Nat} {gv wv : Value} {es ws : List Ent} {Fr : List Nat} {cells cells' : List (Nat × Value)} {pend pend0 : List Ent} {ls : List LentE} (S : St w wk kb gv wv es ws Fr cells' pend ls) (h : ∀ p ∈ cells, p ∈ cells') (h' : ∀ e ∈ pend0, e ∈ pend) : St w wk kb gv wv es ws Fr cells pend0 ls :=
  ⟨S.bel, S.bk, fun p hp => S.cl p (h p hp), fun e he => S.ow e (h' e he), S.ln, S.lap, S.ldist, fun e he x hx => S.wlap e (by
    rcases List.mem_append.1 he with he | he
    · exact List.mem_append_left _ he
    · exact List.mem_append_right _ (h' e he)) x hx⟩
theorem St.rdo {w wk : World} {kb : Nat} {gv wv : Value} {es ws : List Ent} {Fr : List Nat} {cells : List (Nat × Value)} {pend pend0 : List Ent} {ls : List LentE} (S : St w wk kb gv wv es ws Fr cells pend ls) {A : Option Addr} {l : List Nat} (h : Rd w A l ∨ ∃ cc, (⟨A, cc, l⟩ : Ent) ∈ pend0) (hs : ∀ e ∈ pend0, e ∈ pend) : Rd wk A l := by
  rcases h with h | ⟨cc, h⟩
  · exact S.rd h
  · exact (S.ow _ (hs _ h)).rd
theorem law_sums {w wk : World} {kb : Nat} {gv wv : Value} {es ws : List Ent} {Fr : List Nat} {cells : List (Nat × Value)} {pend0 : List Ent} {ls : List LentE} (S : St w wk kb gv wv es ws Fr cells pend0 ls) (hfew : es.length < 50) (i j gx cx gy cy : Nat) (lx ly : List Nat) (hi : ls[i]? = some ⟨gx, cx, lx⟩) (hj : ls[j]? = some ⟨gy, cy, ly⟩)
    (A B : Option Addr) (n m c d : Nat) (hn : n = lx.length) (hm : m = ly.length) (ha : Rd w A lx ∨ ∃ cc, (⟨A, cc, lx⟩ : Ent) ∈ pend0) (hb : Rd w B ly ∨ ∃ cc, (⟨B, cc, ly⟩ : Ent) ∈ pend0) :
    Calls Try.prog 40 #[.pointer (some ⟨kb, 0, none⟩), .agg #[.slice (some ⟨gx, 0, none⟩) lx.length cx], .agg #[.slice (some ⟨gy, 0, none⟩) ly.length cy], .agg #[.slice A n c], .agg #[.slice B m d]] wk fun e w' =>
      e = .returned (.bool true) ∧ ∃ gv' wv' es' ws' Fr', es'.length = 3 ∧ St w w' kb gv' wv' (es ++ es') (ws ++ ws') Fr' cells pend0 ls := by
  subst hn hm
  have S4 := (((S.put (.slice (some ⟨gx, 0, none⟩) lx.length cx)).put (.slice (some ⟨gy, 0, none⟩) ly.length cy)).put (.slice A lx.length c)).put (.slice B ly.length d)
  simp only [World.size_alloc] at S4
  go_enter Try.func40, Try.ntmps40
  obtain ⟨q1, q1z, q1f⟩ := S4.cell 3 rfl
  obtain ⟨q2, q2z, q2f⟩ := S4.cell 2 rfl
  go_wp2_with fail
  refine (nat_Cmp _ _ lx ly _ _ cx cy rfl rfl _ (S4.lrd i hi) (S4.lrd j hj)).mono ?_
  rintro e w3 ⟨rfl, hb4⟩
  have S5 := S4.below hb4
  clear S4 hb4
  obtain ⟨q6, q6z, q6f⟩ := S5.cell 1 rfl
  obtain ⟨q7, q7z, q7f⟩ := S5.cell 0 rfl
  go_wp2_with fail
  refine (ref_Cmp A B lx ly _ _ c d rfl rfl _ (S5.rdo ha (by intro e he; simp [he])) (S5.rdo hb (by intro e he; simp [he]))).mono ?_
  rintro e w8 ⟨rfl, hb9⟩
  have S10 := S5.below hb9
  clear S5 hb9
  obtain ⟨q11, q11z, q11f⟩ := S10.cell 3 rfl
  obtain ⟨q12, q12z, q12f⟩ := S10.cell 2 rfl
  go_wp2_with fail
  refine (nat_Add _ _ lx ly _ _ cx cy rfl rfl _ (S10.lrd i hi) (S10.lrd j hj)).mono ?_
  rintro e w13 ⟨A14, c15, rfl, o16, hb17⟩
  have f19 := S10.fresh o16
  have S18 := S10.next hb17 o16
  clear S10 o16 hb17
  obtain ⟨q20, q20z, q20f⟩ := S18.cell 1 rfl
  obtain ⟨q21, q21z, q21f⟩ := S18.cell 0 rfl
  go_wp2_with fail
  have S22 := S18.put (.slice A14 (addS lx ly).1.length c15)
  clear S18
  refine (ref_Add A B lx ly _ _ c d rfl rfl _ (S22.rdo ha (by intro e he; simp [he])) (S22.rdo hb (by intro e he; simp [he]))).mono ?_
  rintro e w23 ⟨A24, c25, rfl, o26, hb27⟩
  have S28 := S22.next hb27 o26
  clear S22 o26 hb27
  obtain ⟨q30, q30z, q30f⟩ := S28.cell 0 rfl
  go_wp2_with fail
  have S31 := S28.put (.slice A24 (addS lx ly).1.length c25)
  clear S28
  refine (st_adds S31 1 0 rfl rfl f19 (by first | omega | (simp; omega)) _ rfl rfl).mono ?_
  rintro e w32 ⟨gv33, wv34, rfl, S35⟩
  clear S31 f19
  obtain ⟨q36, q36z, q36f⟩ := S35.cell 5 rfl
  obtain ⟨q37, q37z, q37f⟩ := S35.cell 4 rfl
  go_wp2_with fail
  refine (nat_Mul _ _ lx ly _ _ cx cy rfl rfl _ (S35.lrd i hi) (S35.lrd j hj)).mono ?_
  rintro e w38 ⟨A39, c40, rfl, o41, hb42⟩
  have f44 := S35.fresh o41
  have S43 := S35.next hb42 o41
  clear S35 o41 hb42
  obtain ⟨q45, q45z, q45f⟩ := S43.cell 3 rfl
  obtain ⟨q46, q46z, q46f⟩ := S43.cell 2 rfl
  go_wp2_with fail
  have S47 := S43.put (.slice A39 (mulS lx ly).1.length c40)
  clear S43
  refine (ref_Mul A B lx ly _ _ c d rfl rfl _ (S47.rdo ha (by intro e he; simp [he])) (S47.rdo hb (by intro e he; simp [he]))).mono ?_
  rintro e w48 ⟨A49, c50, rfl, o51, hb52⟩
  have S53 := S47.next hb52 o51
  clear S47 o51 hb52
  obtain ⟨q55, q55z, q55f⟩ := S53.cell 0 rfl
  go_wp2_with fail
  have S56 := S53.put (.slice A49 (mulS lx ly).1.length c50)
  clear S53
  refine (st_adds S56 1 0 rfl rfl f44 (by first | omega | (simp; omega)) _ rfl rfl).mono ?_
  rintro e w57 ⟨gv58, wv59, rfl, S60⟩
  clear S56 f44
  obtain ⟨q61, q61z, q61f⟩ := S60.cell 7 rfl
  obtain ⟨q62, q62z, q62f⟩ := S60.cell 6 rfl
  go_wp2_with fail
  refine (nat_Sub _ _ lx ly _ _ cx cy rfl rfl _ (S60.lrd i hi) (S60.lrd j hj)).mono ?_
  rintro e w63 ⟨A64, c65, rfl, o66, hb67⟩
  have f69 := S60.fresh o66
  have S68 := S60.next hb67 o66
  clear S60 o66 hb67
  obtain ⟨q70, q70z, q70f⟩ := S68.cell 5 rfl
  obtain ⟨q71, q71z, q71f⟩ := S68.cell 4 rfl
  go_wp2_with fail
  have S72 := S68.put (.slice A64 (subS lx ly).1.length c65)
  clear S68
  refine (ref_Sub A B lx ly _ _ c d rfl rfl _ (S72.rdo ha (by intro e he; simp [he])) (S72.rdo hb (by intro e he; simp [he]))).mono ?_
  rintro e w73 ⟨A74, c75, rfl, o76, hb77⟩
  have S78 := S72.next hb77 o76
  clear S72 o76 hb77
  obtain ⟨q80, q80z, q80f⟩ := S78.cell 0 rfl
  go_wp2_with fail
  have S81 := S78.put (.slice A74 (subS lx ly).1.length c75)
  clear S78
  refine (st_adds S81 1 0 rfl rfl f69 (by first | omega | (simp; omega)) _ rfl rfl).mono ?_
  rintro e w82 ⟨gv83, wv84, rfl, S85⟩
  clear S81 f69
  have e1 : ((cmpS lx ly).1 == (cmpS lx ly).1) = true := beq_self_eq_true _
  have e2 : ((cmpS lx ly).2 == (cmpS lx ly).2) = true := beq_self_eq_true _
  have e3 : ((subS lx ly).2.1 == (subS lx ly).2.1) = true := beq_self_eq_true _
  go_wp2
  go_ret
  have SS := S85.shed (cells := cells) (pend0 := pend0) (by intro p hp; simp [hp]) (by intro e he; simp [he])
  simp only [List.append_assoc] at SS
  exact ⟨rfl, _, _, _, _, _, rfl, SS⟩
end Go.Proofs.Ytkepjhgafpbecaa
