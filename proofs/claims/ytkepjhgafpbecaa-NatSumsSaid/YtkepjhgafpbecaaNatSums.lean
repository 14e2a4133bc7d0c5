/- NatSums: of any two numbers, and of one twice, Cmp, Add, Sub, Mul, Check: the document's answers; each answer in memory of its own; what was lent stays, may be written over and asked again. No condition. -/
import Derived.Test.YtkepjhgafpbecaaRows
import Derived.Test.YtkepjhgafpbecaaSums
import Derived.Test.YtkepjhgafpbecaaSq
import Derived.Deep.DeepCutAuto
import Derived.StillTailTactics
namespace Go.Proofs.Ytkepjhgafpbecaa.natSums
open Go.ChangeShapes Go.WideShapes Go.ChangeAt Go.RowKit
open Go.ChangeMaps (open_string shut_string)
open Go.RowKit
set_option linter.unusedVariables false
set_option linter.unusedSimpArgs false
set_option maxHeartbeats 4000000
set_option maxRecDepth 100000
set_option maxHeartbeats 100000000

theorem set_same {w : World} {p : Addr} {u v : Value} (h : w.cell? p = some u) : (w.setCell p v).cell? p = some v := by
  first | exact World.cell?_setCell_same _ _ _ h | exact World.cell?_setCell_same _ h | exact World.cell?_setCell_same _ _ h
theorem new_at {w : World} {b : Nat} {v : Value} {t : TypeId} (hb : b = w.heap.size) : (w.alloc (.cells #[v] t)).cell? ⟨b, 0, none⟩ = some v := by subst hb; simp
theorem new_free {w : World} {b : Nat} {v : Value} {t : TypeId} (hb : b = w.heap.size) : (w.alloc (.cells #[v] t)).frozen? ⟨b, 0, none⟩ = false := by subst hb; simp
theorem far_free {w : World} {p a : Addr} {v : Value} (h : a.block ≠ p.block) (hf : w.frozen? a = false) : (w.setCell p v).frozen? a = false := (World.frozen?_of_block (Below.heap_setCell _ _ _ _ h)).trans hf
theorem set_free {w : World} {b : Nat} {v : Value} (hf : w.frozen? ⟨b, 0, none⟩ = false) : (w.setCell ⟨b, 0, none⟩ v).frozen? ⟨b, 0, none⟩ = false := by
  rw [← hf]; simp
theorem old_free {w : World} {a : Addr} {o : Obj} (h : a.block < w.heap.size) (hf : w.frozen? a = false) : (w.alloc o).frozen? a = false := (World.frozen?_alloc_past _ _ _ h).trans hf
theorem lent_lt {w : World} {B g cap : Nat} {l : List Nat} (h : Lent w B g cap l) : g < w.heap.size := by
  obtain ⟨cur, hb⟩ := h.blk
  exact hb.lt

theorem walk (A B : Option Addr) (la lb : List Nat) (n c m d : Nat) (hn : n = la.length) (hm : m = lb.length) (hsa : la.length * 4 ≤ 140737488351232) (hsb : lb.length * 4 ≤ 140737488351232) (w : World) (ha : Rd w A la) (hb : Rd w B lb) :
    Calls Try.prog 7 #[.agg #[.slice A n c], .agg #[.slice B m d]] w fun e w' => e = .returned (.bool true) ∧ Below w.heap.size w w' := by
  subst hn hm
  go_enter Try.func7, Try.ntmps7
  go_wp2_with fail
  have S0 := ((Sq.init w).put (.slice A la.length c)).put (.slice B lb.length d)
  simp only [World.size_alloc] at S0
  generalize hW : ((w.alloc (.cells #[.slice A la.length c] 35)).alloc (.cells #[.slice B lb.length d] 35)) = W at *
  clear hW
  obtain ⟨qa, qaz, qaf⟩ := S0.cell 1 rfl
  obtain ⟨qb, qbz, qbf⟩ := S0.cell 0 rfl
  have S1 := S0.drew
  have lA := fun W h => lent_any A la _ c rfl hsa W h
  have lB := fun W h => lent_any B lb _ d rfl hsb W h
  have hdr : ∀ W : World, W.drew.heap.size = W.heap.size := fun _ => rfl
  go_cut [5, 6] (fun v5 v6 wx => ∃ (b5 b6 g1 g2 k1 k2 : Nat), v5 = .pointer (some ⟨b5, 0, none⟩) ∧ v6 = .pointer (some ⟨b6, 0, none⟩) ∧ wx.cell? ⟨b5, 0, none⟩ = some (.slice (some ⟨g1, 0, none⟩) la.length k1) ∧ wx.cell? ⟨b6, 0, none⟩ = some (.slice (some ⟨g2, 0, none⟩) lb.length k2) ∧ wx.frozen? ⟨b5, 0, none⟩ = false ∧ wx.frozen? ⟨b6, 0, none⟩ = false ∧ Lent wx w.heap.size g1 k1 la ∧ Lent wx w.heap.size g2 k2 lb ∧ g1 ≠ g2 ∧ Below w.heap.size w wx ∧ wx.cell? ⟨w.heap.size, 0, none⟩ = some (.slice A la.length c) ∧ wx.cell? ⟨w.heap.size + 1, 0, none⟩ = some (.slice B lb.length d) ∧ wx.frozen? ⟨w.heap.size, 0, none⟩ = false ∧ wx.frozen? ⟨w.heap.size + 1, 0, none⟩ = false)
  case first =>
    go_region_held3 (fun w' => w'.cell? ⟨w.heap.size, 0, none⟩ = some (.slice A la.length c) ∧ w'.cell? ⟨w.heap.size + 1, 0, none⟩ = some (.slice B lb.length d))
     (first | exact ⟨qa, qb⟩ | exact e5 | exact e6 | (refine ⟨?_, ?_⟩ <;> (repeat (first | exact qa | exact qb | exact e5.1 | exact e5.2 | exact e6.1 | exact e6.2 | ((refine (World.cell?_setCell_far _ _ _ _ ?_).trans ?_); (first | omega | (simp; omega))) | ((refine (World.cell?_alloc_lt _ _ _ ?_).trans ?_); (first | omega | (simp; omega)))))) | go_keep)
     (first
     | (go_at_call 24; (with_reducible refine (lA _ ?_).mono ?_); (focus (first | exact S1.rd ha | exact (S1.put (.slice none 0 0)).rd ha | exact ((S1.put (.slice none 0 0)).put (.slice none 0 0)).rd ha)); rintro e w5 ⟨g1, k1, rfl, kA, b5⟩; (first | have S6 := S1.below b5 | have S6 := (S1.put (.slice none 0 0)).below b5 | have S6 := ((S1.put (.slice none 0 0)).put (.slice none 0 0)).below b5); have hb5s := b5.size; have gA1 := kA.2.2; have gA2 := lent_lt kA; (try simp only [hdr, World.size_alloc] at gA1); have e5 : w5.cell? ⟨w.heap.size, 0, none⟩ = some (.slice A la.length c) ∧ w5.cell? ⟨w.heap.size + 1, 0, none⟩ = some (.slice B lb.length d) := (by first | exact ⟨(S6.cell 1 rfl).1, (S6.cell 0 rfl).1⟩ | exact ⟨(S6.cell 2 rfl).1, (S6.cell 1 rfl).1⟩ | exact ⟨(S6.cell 3 rfl).1, (S6.cell 2 rfl).1⟩); (try obtain ⟨q0, q0z, q0f⟩ := S6.cell 0 rfl); (try obtain ⟨q1, q1z, q1f⟩ := S6.cell 1 rfl); (try obtain ⟨q2, q2z, q2f⟩ := S6.cell 2 rfl); (try obtain ⟨q3, q3z, q3f⟩ := S6.cell 3 rfl); (try simp only [hdr, World.size_alloc] at hb5s q0 q0z q0f q1 q1z q1f); (try simp only [hdr, World.size_alloc] at q2 q2z q2f); (try simp only [hdr, World.size_alloc] at q3 q3z q3f))
     | (go_at_call 24; (with_reducible refine (lB _ ?_).mono ?_); (focus (first | exact S6.rd hb | exact (S6.put (.slice none 0 0)).rd hb | exact ((S6.put (.slice none 0 0)).put (.slice none 0 0)).rd hb)); rintro e w6 ⟨g2, k2, rfl, kB, b6⟩; (first | have S7 := S6.below b6 | have S7 := (S6.put (.slice none 0 0)).below b6 | have S7 := ((S6.put (.slice none 0 0)).put (.slice none 0 0)).below b6); (first | have kA6 := kA.below b6 | have kA6 := (kA.alloc _).below b6 | have kA6 := ((kA.alloc _).alloc _).below b6); have hb6s := b6.size; have gB1 := kB.2.2; have gB2 := lent_lt kB; (try simp only [hdr, World.size_alloc] at gB1); have e6 : w6.cell? ⟨w.heap.size, 0, none⟩ = some (.slice A la.length c) ∧ w6.cell? ⟨w.heap.size + 1, 0, none⟩ = some (.slice B lb.length d) := (by first | exact ⟨(S7.cell 1 rfl).1, (S7.cell 0 rfl).1⟩ | exact ⟨(S7.cell 2 rfl).1, (S7.cell 1 rfl).1⟩ | exact ⟨(S7.cell 3 rfl).1, (S7.cell 2 rfl).1⟩); (try obtain ⟨p0, p0z, p0f⟩ := S7.cell 0 rfl); (try obtain ⟨p1, p1z, p1f⟩ := S7.cell 1 rfl); (try obtain ⟨p2, p2z, p2f⟩ := S7.cell 2 rfl); (try obtain ⟨p3, p3z, p3f⟩ := S7.cell 3 rfl); (try simp only [hdr, World.size_alloc] at hb6s p0 p0z p0f p1 p1z p1f); (try simp only [hdr, World.size_alloc] at p2 p2z p2f); (try simp only [hdr, World.size_alloc] at p3 p3z p3f))
     | fail)
    all_goals (
      go_wp2_with fail
      go_meet
      have hw5 : w.heap.size ≤ w5.heap.size := S6.size
      have hw6 : w.heap.size ≤ w6.heap.size := S7.size
      clear S0 S1
      refine ⟨_, _, g1, g2, k1, k2, rfl, rfl, ?_, ?_, ?_, ?_, ?_, ?_, ?_, ?_, ?_, ?_, ?_, ?_⟩
      · (repeat (first | (with_reducible exact p0) | (with_reducible exact p1) | (with_reducible exact p2) | (with_reducible exact p3) | (with_reducible exact e6.1) | (with_reducible exact e6.2) | ((with_reducible refine new_at ?_); (focus (first | rfl | (simp; done)))) | (with_reducible refine set_same (u := .slice none 0 0) ?_) | ((with_reducible refine (World.cell?_setCell_far _ _ _ _ ?_).trans ?_); (focus (first | omega | (simp; done) | (simp; omega)))) | ((with_reducible refine (World.cell?_alloc_lt _ _ _ ?_).trans ?_); (focus (first | omega | (simp; done) | (simp; omega))))))
      · (repeat (first | (with_reducible exact p0) | (with_reducible exact p1) | (with_reducible exact p2) | (with_reducible exact p3) | (with_reducible exact e6.1) | (with_reducible exact e6.2) | ((with_reducible refine new_at ?_); (focus (first | rfl | (simp; done)))) | (with_reducible refine set_same (u := .slice none 0 0) ?_) | ((with_reducible refine (World.cell?_setCell_far _ _ _ _ ?_).trans ?_); (focus (first | omega | (simp; done) | (simp; omega)))) | ((with_reducible refine (World.cell?_alloc_lt _ _ _ ?_).trans ?_); (focus (first | omega | (simp; done) | (simp; omega))))))
      · (repeat (first | (with_reducible exact p0f) | (with_reducible exact p1f) | (with_reducible exact p2f) | (with_reducible exact p3f) | ((with_reducible refine new_free ?_); (focus (first | rfl | (simp; done)))) | (with_reducible refine set_free ?_) | ((with_reducible refine far_free ?_ ?_); (focus (first | omega | (simp; done) | (simp; omega)))) | ((with_reducible refine old_free ?_ ?_); (focus (first | omega | (simp; done) | (simp; omega))))))
      · (repeat (first | (with_reducible exact p0f) | (with_reducible exact p1f) | (with_reducible exact p2f) | (with_reducible exact p3f) | ((with_reducible refine new_free ?_); (focus (first | rfl | (simp; done)))) | (with_reducible refine set_free ?_) | ((with_reducible refine far_free ?_ ?_); (focus (first | omega | (simp; done) | (simp; omega)))) | ((with_reducible refine old_free ?_ ?_); (focus (first | omega | (simp; done) | (simp; omega))))))
      · (repeat (first | ((with_reducible refine Lent.mono kA6 ?_); (first | omega | (simp; omega))) | (with_reducible refine Lent.alloc ?_ _) | ((with_reducible refine Lent.far ?_ ?_ _); rotate_left; (focus (first | omega | (simp; done) | (simp; omega))))))
      · (repeat (first | ((with_reducible refine Lent.mono kB ?_); (first | omega | (simp; omega))) | (with_reducible refine Lent.alloc ?_ _) | ((with_reducible refine Lent.far ?_ ?_ _); rotate_left; (focus (first | omega | (simp; done) | (simp; omega))))))
      · omega
      · (repeat (first | (with_reducible exact S7.bel) | (with_reducible refine Below.alloc ?_ ?_ _) | (with_reducible refine Below.setCell ?_ ?_ _) | omega | (simp; omega)))
      · (repeat (first | (with_reducible exact p0) | (with_reducible exact p1) | (with_reducible exact p2) | (with_reducible exact p3) | (with_reducible exact e6.1) | (with_reducible exact e6.2) | ((with_reducible refine new_at ?_); (focus (first | rfl | (simp; done)))) | (with_reducible refine set_same (u := .slice none 0 0) ?_) | ((with_reducible refine (World.cell?_setCell_far _ _ _ _ ?_).trans ?_); (focus (first | omega | (simp; done) | (simp; omega)))) | ((with_reducible refine (World.cell?_alloc_lt _ _ _ ?_).trans ?_); (focus (first | omega | (simp; done) | (simp; omega))))))
      · (repeat (first | (with_reducible exact p0) | (with_reducible exact p1) | (with_reducible exact p2) | (with_reducible exact p3) | (with_reducible exact e6.1) | (with_reducible exact e6.2) | ((with_reducible refine new_at ?_); (focus (first | rfl | (simp; done)))) | (with_reducible refine set_same (u := .slice none 0 0) ?_) | ((with_reducible refine (World.cell?_setCell_far _ _ _ _ ?_).trans ?_); (focus (first | omega | (simp; done) | (simp; omega)))) | ((with_reducible refine (World.cell?_alloc_lt _ _ _ ?_).trans ?_); (focus (first | omega | (simp; done) | (simp; omega))))))
      · (repeat (first | (with_reducible exact p0f) | (with_reducible exact p1f) | (with_reducible exact p2f) | (with_reducible exact p3f) | ((with_reducible refine new_free ?_); (focus (first | rfl | (simp; done)))) | (with_reducible refine set_free ?_) | ((with_reducible refine far_free ?_ ?_); (focus (first | omega | (simp; done) | (simp; omega)))) | ((with_reducible refine old_free ?_ ?_); (focus (first | omega | (simp; done) | (simp; omega))))))
      · (repeat (first | (with_reducible exact p0f) | (with_reducible exact p1f) | (with_reducible exact p2f) | (with_reducible exact p3f) | ((with_reducible refine new_free ?_); (focus (first | rfl | (simp; done)))) | (with_reducible refine set_free ?_) | ((with_reducible refine far_free ?_ ?_); (focus (first | omega | (simp; done) | (simp; omega)))) | ((with_reducible refine old_free ?_ ?_); (focus (first | omega | (simp; done) | (simp; omega)))))))
  case rest =>
    obtain ⟨b5, b6, gx, gy, cx, cy, rfl, rfl, c5, c6, f5, f6, KX, KY, hxy, hbx, ca, cb, fa, fb⟩ := hcut
    clear S0 S1 qa qaz qaf qb qbz qbf lA lB hdr
    have z5 := cell_lt c5
    have z6 := cell_lt c6
    have za := cell_lt ca
    have zb := cell_lt cb
    simp only at z5 z6 za zb
    have S0 := St.start (wk := wc) hbx [(b6, .slice (some ⟨gy, 0, none⟩) lb.length cy), (b5, .slice (some ⟨gx, 0, none⟩) la.length cx), (w.heap.size + 1, .slice B lb.length d), (w.heap.size, .slice A la.length c)] [⟨gx, cx, la⟩, ⟨gy, cy, lb⟩]
      (by
        intro p hp
        simp only [List.mem_cons, List.not_mem_nil, or_false] at hp
        rcases hp with rfl | rfl | rfl | rfl
        · exact ⟨c6, f6⟩
        · exact ⟨c5, f5⟩
        · exact ⟨cb, fb⟩
        · exact ⟨ca, fa⟩)
      (by
        intro x hx
        simp only [List.mem_cons, List.not_mem_nil, or_false] at hx
        rcases hx with rfl | rfl
        · exact KX
        · exact KY)
      (by simp; exact hxy)
    simp only [List.map] at S0
    have hb5x : b5 ≠ gx := by
      intro e; subst e
      have h1 := KX.1.rd.2.2 (by simp)
      obtain ⟨b, off, e1, hc⟩ := h1
      injection e1 with e1; injection e1 with e1 e2; subst e1 e2
      have := hc 0 (by simp)
      rw [Nat.zero_add] at this
      rw [c5] at this; cases this
    have hb6x : b6 ≠ gx := by
      intro e; subst e
      have h1 := KX.1.rd.2.2 (by simp)
      obtain ⟨b, off, e1, hc⟩ := h1
      injection e1 with e1; injection e1 with e1 e2; subst e1 e2
      have := hc 0 (by simp)
      rw [Nat.zero_add] at this
      rw [c6] at this; cases this
    have hbax : w.heap.size ≠ gx := by
      intro e
      have h1 := KX.1.rd.2.2 (by simp)
      obtain ⟨b, off, e1, hc⟩ := h1
      injection e1 with e1; injection e1 with e1 e2; subst e1 e2
      have := hc 0 (by simp)
      rw [Nat.zero_add, ← e] at this
      rw [ca] at this; cases this
    have hbbx : w.heap.size + 1 ≠ gx := by
      intro e
      have h1 := KX.1.rd.2.2 (by simp)
      obtain ⟨b, off, e1, hc⟩ := h1
      injection e1 with e1; injection e1 with e1 e2; subst e1 e2
      have := hc 0 (by simp)
      rw [Nat.zero_add, ← e] at this
      rw [cb] at this; cases this
    have HNE := Lib.hid (And.intro hb5x (And.intro hb6x (And.intro hbax hbbx)))
    clear hb5x hb6x hbax hbbx KX KY hbx hxy f5 f6 fa fb
    go_wp2_with fail
    refine (law_sums S0 (by decide) 0 1 gx cx gy cy la lb rfl rfl A B _ _ c d rfl rfl (.inl ha) (.inl hb)).mono ?_
    rintro e w1 ⟨rfl, gv1, wv1, es1, ws1, Fr1, hl1, S1⟩
    simp only [List.nil_append] at S1
    clear S0 c5 c6 ca cb z5 z6 za zb
    obtain ⟨r0, r0z, r0f⟩ := S1.cell 0 rfl
    obtain ⟨r1, r1z, r1f⟩ := S1.cell 1 rfl
    obtain ⟨r2, r2z, r2f⟩ := S1.cell 2 rfl
    obtain ⟨r3, r3z, r3f⟩ := S1.cell 3 rfl
    go_wp2_with fail
    refine (law_sums S1 (by omega) 0 0 gx cx gx cx la la rfl rfl A A _ _ c c rfl rfl (.inl ha) (.inl ha)).mono ?_
    rintro e w2 ⟨rfl, gv2, wv2, es2, ws2, Fr2, hl2, S2⟩
    clear S1 r0 r0z r0f r1 r1z r1f r2 r2z r2f r3 r3z r3f
    obtain ⟨r1, r1z, r1f⟩ := S2.cell 1 rfl
    obtain ⟨r3, r3z, r3f⟩ := S2.cell 3 rfl
    have kc1 := fun W h => nat_Check (some ⟨gx, 0, none⟩) la _ cx rfl W h
    have kc2 := fun W h => ref_Check A la _ c rfl W h
    have S3 := S2.below (Below.refl _ _).drew
    go_wp2_with fail
    go_region_held3 (fun w' => w'.cell? ⟨b5, 0, none⟩ = some (.slice (some ⟨gx, 0, none⟩) la.length cx) ∧ w'.cell? ⟨w.heap.size, 0, none⟩ = some (.slice A la.length c)) (first | exact ⟨r1, r3⟩ | exact e4 | exact e5 | go_keep)
      (first
      | (go_at_call 41; (with_reducible refine (kc1 _ ?_).mono ?_); (focus (first | exact S3.lrd 0 rfl)); rintro e w3 ⟨rfl, hb3⟩; have S4 := S3.below hb3; have e4 := And.intro (S4.cell 1 rfl).1 (S4.cell 3 rfl).1)
      | (go_at_call 42; (with_reducible refine (kc2 _ ?_).mono ?_); (focus (first | exact S4.rd ha)); rintro e w4 ⟨rfl, hb4⟩; have S5 := S4.below hb4; have e5 := And.intro (S5.cell 1 rfl).1 (S5.cell 3 rfl).1)
      | fail)
    clear S2 S3 S4 hb3 hb4 e4 e5 r1 r1z r1f r3 r3z r3f kc1 kc2
    obtain ⟨t0, t0z, t0f⟩ := S5.cell 0 rfl
    obtain ⟨t1, t1z, t1f⟩ := S5.cell 1 rfl
    obtain ⟨t2, t2z, t2f⟩ := S5.cell 2 rfl
    obtain ⟨t3, t3z, t3f⟩ := S5.cell 3 rfl
    go_wp2_with fail
    refine (kept_any A la _ c _ cx gx w.heap.size rfl rfl hsa _ (S5.rd ha) (S5.ln _ (List.mem_of_getElem? (i := 0) rfl))).mono ?_
    rintro e w5 ⟨rfl, hb5⟩
    have S6 := S5.below hb5
    clear S5 hb5 t0 t0z t0f t1 t1z t1f t2 t2z t2f t3 t3z t3f
    obtain ⟨t0, t0z, t0f⟩ := S6.cell 0 rfl
    obtain ⟨t1, t1z, t1f⟩ := S6.cell 1 rfl
    obtain ⟨t2, t2z, t2f⟩ := S6.cell 2 rfl
    obtain ⟨t3, t3z, t3f⟩ := S6.cell 3 rfl
    go_wp2_with fail
    refine (kept_any B lb _ d _ cy gy w.heap.size rfl rfl hsb _ (S6.rd hb) (S6.ln _ (List.mem_of_getElem? (i := 1) rfl))).mono ?_
    rintro e w6 ⟨rfl, hb6⟩
    have S7 := S6.below hb6
    clear S6 hb6 t0 t0z t0f t1 t1z t1f t2 t2z t2f t3 t3z t3f
    go_wp2
    go_loopw [11] (fun v11 wr => ∃ (i : Nat) (lx : List Nat), i ≤ la.length ∧ v11 = .int .i64 (i : Int) ∧ lx.length = la.length ∧ St w wr wc.heap.size gv2 wv2 (es1 ++ es2) (ws1 ++ ws2) Fr2 [(b6, .slice (some ⟨gy, 0, none⟩) lb.length cy), (b5, .slice (some ⟨gx, 0, none⟩) la.length cx), (w.heap.size + 1, .slice B lb.length d), (w.heap.size, .slice A la.length c)] [] [⟨gx, cx, lx⟩, ⟨gy, cy, lb⟩]) (fun v11 _ => la.length - (intOf v11).toNat)
    case atStart => exact ⟨0, la, Nat.zero_le _, rfl, rfl, S7⟩
    case round =>
      clear S7
      obtain ⟨i, lx, hi, rfl, hlx, S⟩ := hrel
      have HLX := Lib.hid hlx
      clear hlx
      obtain ⟨t1, t1z, t1f⟩ := S.cell 1 rfl
      by_cases hi1 : i < la.length
      · have hln := S.ln _ (List.mem_of_getElem? (i := 0) rfl)
        obtain ⟨g0, gcur, e0, hgB, hgl, hg0, hgf, hgb⟩ := hln.own.g.cell2 (k := i) (by have := HLX.out; show i < lx.length; omega)
        obtain rfl : g0 = gx := by injection e0 with e0; injection e0 with e0; exact e0.symm
        clear hln hgb e0
        go_wp2
        go_still_tail 10, (by kernel_rfl)
        go_wp2
        go_roundw
        case rel =>
          have h1 := bits_lo_u32 .xor (nth lx i : Int) 5
          have h2 := bits_hi_u32 .xor (nth lx i : Int) 5
          obtain ⟨y, hy⟩ : ∃ y : Nat, bits .xor .u32 (nth lx i : Int) 5 = (y : Int) := ⟨(bits .xor .u32 (nth lx i : Int) 5).toNat, by omega⟩
          refine ⟨i + 1, lx.set i y, by omega, vi (by omega), by rw [List.length_set]; exact HLX.out, ?_⟩
          have hne := HNE.out
          exact (S.below (Below.refl _ _).drew).poke 0 rfl (k := i) (y := y) (by show i < lx.length; have := HLX.out; omega) (by omega) hy (by
            intro p hp
            simp only [List.mem_cons, List.not_mem_nil, or_false] at hp
            rcases hp with rfl | rfl | rfl | rfl
            · exact hne.2.1
            · exact hne.1
            · exact hne.2.2.2
            · exact hne.2.2.1)
        case measure => first | (simp [intOf]; done) | (simp [intOf]; omega)
      · have hlx := HLX.out
        obtain rfl : i = la.length := by omega
        clear hi hi1 HLX
        have hlsh : lx.length * 4 ≤ 140737488351232 := by rw [hlx]; exact hsa
        have kt := fun W h => ref_Twin (some ⟨gx, 0, none⟩) lx _ cx rfl hlsh W h
        have hes : (es1 ++ es2).length = 6 := by rw [List.length_append, hl1, hl2]
        rw [← hlx] at S t1 ⊢
        clear hlx
        go_wp2_with fail
        refine (kt _ (S.lrd 0 rfl)).mono ?_
        rintro e w7 ⟨A7, k7, rfl, o7, hb7⟩
        have T1 := (S.next hb7 o7).put (.slice A7 lx.length k7)
        clear S o7 hb7 kt t1 t1z t1f
        obtain ⟨u0, u0z, u0f⟩ := T1.cell 0 rfl
        obtain ⟨u1, u1z, u1f⟩ := T1.cell 1 rfl
        obtain ⟨u2, u2z, u2f⟩ := T1.cell 2 rfl
        obtain ⟨u3, u3z, u3f⟩ := T1.cell 3 rfl
        go_wp2_with fail
        refine (law_sums T1 (by omega) 0 1 gx cx gy cy lx lb rfl rfl A7 B _ _ k7 d rfl rfl (.inr ⟨k7, by simp⟩) (.inl hb)).mono ?_
        rintro e w8 ⟨rfl, gv3, wv3, es3, ws3, Fr3, hl3, T2⟩
        clear T1 u0 u0z u0f u1 u1z u1f u2 u2z u2f u3 u3z u3f
        obtain ⟨u1, u1z, u1f⟩ := T2.cell 1 rfl
        obtain ⟨u2, u2z, u2f⟩ := T2.cell 2 rfl
        obtain ⟨u3, u3z, u3f⟩ := T2.cell 3 rfl
        go_wp2_with fail
        refine (kept_any B lb _ d _ cy gy w.heap.size rfl rfl hsb _ (T2.rd hb) (T2.ln _ (List.mem_of_getElem? (i := 1) rfl))).mono ?_
        rintro e w9 ⟨rfl, hb9⟩
        have T3 := T2.below hb9
        clear T2 hb9 u1 u1z u1f u2 u2z u2f u3 u3z u3f
        obtain ⟨u1, u1z, u1f⟩ := T3.cell 1 rfl
        obtain ⟨u2, u2z, u2f⟩ := T3.cell 2 rfl
        go_wp2_with fail
        refine (st_stands (T3.below ((Below.refl _ _).alloc (Nat.le_refl _) _)) (by simp; omega) (by simp; simp at hes; omega) (by simp) (some ⟨w9.heap.size, 0, none⟩) 2 2 rfl (fun _ => ⟨_, rfl, World.news_of_block (heap_alloc_new _ _)⟩)).mono ?_
        rintro e wz ⟨rfl, hz⟩
        go_wp2
        go_ret
        exact ⟨rfl, hz⟩

theorem own : ownKnob Try.prog.godebug = none := by kernel_rfl
theorem laidOut : laidOutB Try.prog = true := by kernel_rfl

theorem lifted (os : Os) (started : os.Started) (H : Type) (enc : TypeId × Value → H) :
    ReturnsInHanded {} Try.checked os 7 .any (Rows.natSumsSpec.pre6 enc Try.prog Try.f7 Rows.natSumsRow.domain false) (Rows.natSumsSpec.post enc Try.prog Try.f7 false true false false) := by
  refine returnsInHanded_of_change_sized (C := Try.checked) own started (by kernel_rfl) Try.func7
    (ChangeSpec.witness6 (enc := enc) (C := Try.checked) false ⟨#[], #[.agg #[.slice none 0 0], .agg #[.slice none 0 0]], []⟩ 8 (by kernel_rfl) (by kernel_rfl) (by kernel_rfl) (by kernel_rfl)) ?_
  intro W base args ds gs before hval0 hW hcnd hsz0 _
  have hval : ∀ (j : Nat) t v, Try.f7.params[j]? = some t → args[j]? = some v → Value.okWide Try.prog W .any base t v := hval0
  have hsz : (DataW.weightsEach Try.prog (Try.f7.params.toList ++ Rows.natSumsSpec.plain.varTypes Try.prog) (ds ++ gs)).all (· ≤ reachBytes) = true := hsz0
  have hW' := hW
  obtain ⟨p, q, hA0, hV, rfl, hfz, hnd⟩ := hW
  have hA : DataW.TrodAll enc Try.prog W 0 (fun _ => true) true Try.f7.params.toList args.toList ds p := hA0
  rw [Try.params7] at hA hval hsz
  obtain ⟨v0, vs0, d0, ds0, p0, q0, hargs, rfl, rfl, h0, r0⟩ := trodAll_cons hA
  obtain ⟨v1, vs1, d1, ds1, p1, q1, rfl, rfl, rfl, h1, r1⟩ := trodAll_cons r0
  obtain ⟨rfl, rfl, rfl⟩ := trodAll_nil r1
  obtain rfl : args = #[v0, v1] := by cases args; simp_all
  obtain ⟨rfl, rfl⟩ := trodVars_none hV
  have k0 := h0
  have lt0 : ∀ x ∈ p0, x.block < W.heap.size := by obtain ⟨m, hm⟩ := k0; exact DataW.trod_lt m _ _ _ hm
  obtain ⟨A0, n0, c0, l0, I0⟩ := open_nat (hval 0 35 v0 rfl rfl) h0 hsz (j := 0) rfl rfl
  obtain rfl := I0.val_
  have k1 := h1
  have lt1 : ∀ x ∈ p1, x.block < W.heap.size := by obtain ⟨m, hm⟩ := k1; exact DataW.trod_lt m _ _ _ hm
  obtain ⟨A1, n1, c1, l1, I1⟩ := open_nat (hval 1 35 v1 rfl rfl) h1 hsz (j := 1) rfl rfl
  obtain rfl := I1.val_
  clear hA0 hval0 hsz0
  simp only [List.append_nil] at hW'
  refine (walk A0 A1 l0 l1 n0 c0 n1 c1 I0.len I1.len I0.short I1.short W I0.rd I1.rd).mono fun e W' ⟨he, bel⟩ => ?_
  subst he
  exact ⟨_, rfl, _, _, _, [], _, [], hW', trodAll_cons_mk (shut_bool Try.underlying4 _) trodAll_mk0, trodAll_cons_mk (Below.trod laidOut (by kernel_rfl) (of_decide_eq_true (by kernel_rfl)) k0 bel lt0) (trodAll_cons_mk (Below.trod laidOut (by kernel_rfl) (of_decide_eq_true (by kernel_rfl)) k1 bel lt1) trodAll_mk0), rfl, bel.frame _, fun h => by cases h⟩

theorem over : Rows.natSumsRow.holds Try.pinned (OpenSpec.ofChange Rows.natSumsSpec) :=
  OpenClaim.holds_of_wide 7 Try.f7 rfl rfl rfl rfl rfl rfl rfl ⟨rfl, rfl, rfl, rfl, rfl⟩ rfl rfl rfl rfl rfl (by kernel_rfl) Try.func7 (by kernel_rfl)
    (of_decide_eq_true (by kernel_rfl)) (by unfold Func.isWrapper; first | (rw [if_pos (by decide +kernel)]; kernel_rfl) | (rw [if_neg (by decide +kernel)]; exact ⟨rfl, rfl⟩))
    (fun os started H enc _ => lifted os started H enc)

theorem proved : Rows.NatSumsSaid := over
#print axioms proved
end Go.Proofs.Ytkepjhgafpbecaa.natSums
