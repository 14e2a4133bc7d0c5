/- Walks: the document's writer; writers that are none. -/
import Derived.Test.YtefhannaofknnaaDoorPkRe
import Derived.Test.YtefhannaofknnaaDoorPkZH
import Derived.Test.YtefhannaofknnaaDoorPkL
namespace Go.Proofs.YtefhannaofknnaaDoor
open Go.RowKit
set_option linter.unusedVariables false
set_option linter.unusedSimpArgs false
set_option maxHeartbeats 4000000
set_option maxRecDepth 100000

/-- The document's writer that has the row l, its list v. -/
def RWC (w : World) (B q E F : Nat) (l : List Nat) (v : Value) : Prop :=
  Blk w q 52 #[.int .i64 (E : Int), .int .i64 (F : Int), v] ∧ OwnR w B 34 .u64 v l ∧ B ≤ q ∧ (∀ x ∈ l, x < 2 ^ (1 + E + F)) ∧ l.length ≤ 65536
/-- What the document's Put answers, and which blocks stay. -/
def PutR (w : World) (B q E F : Nat) (l : List Nat) (b : Nat) (v : Value) (en : Ending) (w' : World) : Prop :=
  if fitE E F b = 0 ∧ l.length < 65536 then en = .returned (.int .i64 0) ∧ ∃ v', RWC w' B q E F (l ++ [b]) v' ∧ Below B w w' ∧
    (∀ k, k < w.heap.size → k ≠ q → v.ownBlock ≠ some k → w'.heap[k]? = w.heap[k]?) ∧ (∀ g, v'.ownBlock = some g → v.ownBlock = some g ∨ w.heap.size ≤ g)
  else en = .returned (.int .i64 (if fitE E F b = 0 then 4 else fitE E F b)) ∧ Below w.heap.size w w'
theorem ref_Put (w : World) (B q E F : Nat) (l : List Nat) (b : Nat) (v : Value) (hb64 : b < 18446744073709551616) (hB : B ≤ w.heap.size) (hE1 : 2 ≤ E) (hE2 : E ≤ 11) (hF1 : 1 ≤ F) (hF2 : F ≤ 52) (h : RWC w B q E F l v) :
    Calls Tryd.prog 27 #[.pointer (some ⟨q, 0, none⟩), .int .u64 (b : Int)] w (PutR w B q E F l b v) := by
  obtain ⟨hblk, hown, hBq, hfit, hl⟩ := h
  obtain ⟨A0, k0, rfl⟩ := hown.len.2
  have c0 := hblk.cell 0
  have c1 := hblk.cell 1
  have c2 := hblk.cell 2
  simp only [List.getElem?_toArray, List.getElem?_cons_zero, List.getElem?_cons_succ] at c0 c1 c2
  have hz := hblk.lt
  by_cases hn : fitE E F b = 0 ∧ l.length < 65536
  · have e : PutR w B q E F l b (.slice A0 l.length k0) = fun en w' => en = .returned (.int .i64 0) ∧ ∃ v', RWC w' B q E F (l ++ [b]) v' ∧ Below B w w' ∧
        (∀ k, k < w.heap.size → k ≠ q → (Value.slice A0 l.length k0).ownBlock ≠ some k → w'.heap[k]? = w.heap[k]?) ∧ (∀ g, v'.ownBlock = some g → (Value.slice A0 l.length k0).ownBlock = some g ∨ w.heap.size ≤ g) := by
      funext en w'; unfold PutR; rw [if_pos hn]
    rw [e]
    obtain ⟨hf, hlt⟩ := hn
    have hb := (fit_lt ⟨hE1, hE2⟩ ⟨hF1, hF2⟩).1 hf
    have hfit2 : ∀ x ∈ l ++ [b], x < 2 ^ (1 + E + F) := by
      intro x hx
      rcases List.mem_append.1 hx with hx | hx
      · exact hfit x hx
      · simp at hx; rw [hx]; exact hb
    have HF := Lib.hid hf
    have HFT := Lib.hid hfit2
    have hg : decide ((65536 : Int) ≤ ((l.length : Nat) : Int)) = false := by simp; omega
    clear hf hfit hfit2 hb e
    go_enter Tryd.func27, Tryd.ntmps27
    go_wp2_with fail
    refine (ref_Fits _ _ _ b rfl hb64 _).mono ?_
    rintro r w2 ⟨rfl, hb2⟩
    rw [HF.out]
    have e0 := cell_keep hb2 c0
    have e2 := cell_keep hb2 c2
    have hk2 := hblk.below hb2 hblk.lt
    have ho2 := hown.below hb2 (Nat.le_refl _)
    have hz2 := hb2.size
    have hz3 := hk2.lt
    have ef2 := hk2.frozen 2
    clear c0 c1 c2 hblk hown
    go_wp2_with (first
      | (at_builtin
         focus   (refine wpList_appL elem64 rfl _ _ rfl (ho2.alloc _) rfl ⟨_, 0, none⟩ rfl b ?c1 ?c2 ?c3 (fun v3 w3 hown3 hgr3 hb3 hlie3 => ?_)
                  case c1 => simp [go_sem]
                  case c2 => omega
                  case c3 => simp only [World.size_alloc]; omega
                  have hk3 : Blk w3 q 52 #[.int .i64 (E : Int), .int .i64 (F : Int), .slice A0 l.length k0] := (hk2.alloc _).grown hgr3 (fun e => (ho2.apart hk2 (by decide) q e.symm) rfl)
                  have g2 : w3.cell? ⟨q, 2, none⟩ = some (.slice A0 l.length k0) := hk3.cell 2
                  have gf := hk3.frozen 2
                  obtain ⟨A3, k3, rfl⟩ := hown3.len.2
                  have hl3 : (l ++ [b]).length = l.length + 1 := by simp
                  rw [hl3] at hown3 hlie3
                  clear hl3
                  have gz := hk3.lt))
      )
    go_ret
    refine ⟨rfl, _, ⟨hk3.set_ 2 _, ?_, hBq, HFT.out, by simp; omega⟩, ?_, ?_, ?_⟩
    · exact hown3.far (p := ⟨q, 2, none⟩) (hown3.apart hk3 (by decide)) _
    · exact ((hb2.mono hB).trans (((Below.refl _ _).alloc (by omega) _).trans hb3)).setCell hBq _
    · intro k k1 k2 k3
      rw [Below.heap_setCell _ _ _ k k2, hgr3.block k (by simp; omega) (fun e => k3 e.symm), Below.heap_alloc _ _ _ (by omega)]
      exact hb2.block k k1
    · intro g hg
      rcases hlie3 g hg with h | h
      · exact .inl h
      · right; simp at h; omega
  · have e : PutR w B q E F l b (.slice A0 l.length k0) = fun en w' => en = .returned (.int .i64 (if fitE E F b = 0 then 4 else fitE E F b)) ∧ Below w.heap.size w w' := by
      funext en w'; unfold PutR; rw [if_neg hn]
    rw [e]
    clear e hown hfit
    by_cases hf : fitE E F b = 0
    · have hl2 : l.length = 65536 := by
        rcases Nat.lt_or_ge l.length 65536 with h | h
        · exact absurd ⟨hf, h⟩ hn
        · omega
      rw [if_pos hf]
      have HF := Lib.hid hf
      have hg : decide ((65536 : Int) ≤ ((l.length : Nat) : Int)) = true := by simp; omega
      clear hf hn hl2 hl
      go_enter Tryd.func27, Tryd.ntmps27
      go_wp2_with fail
      refine (ref_Fits _ _ _ b rfl hb64 _).mono ?_
      rintro r w2 ⟨rfl, hb2⟩
      rw [HF.out]
      have e2 := cell_keep hb2 c2
      go_wp2
      go_ret
      exact ⟨rfl, hb2⟩
    · rw [if_neg hf]
      have hz0 : (fitE (E : Int) (F : Int) b != 0) = true := by rw [bne_iff_ne]; exact hf
      clear hf hn
      go_enter Tryd.func27, Tryd.ntmps27
      go_wp2_with fail
      refine (ref_Fits _ _ _ b rfl hb64 _).mono ?_
      rintro r w2 ⟨rfl, hb2⟩
      go_wp2
      go_ret
      exact ⟨rfl, hb2⟩
theorem ref_Put_nil (b : Int) (w : World) : Calls Tryd.prog 27 #[.pointer none, .int .u64 b] w (Says w (.int .i64 1)) := by
  go_enter Tryd.func27, Tryd.ntmps27
  go_wp2
  go_ret
  exact ⟨rfl, Below.refl _ _⟩
theorem ref_Len_nil (w : World) : Calls Tryd.prog 28 #[.pointer none] w (Says w (.int .i64 0)) := by
  go_enter Tryd.func28, Tryd.ntmps28
  go_wp2
  go_ret
  exact ⟨rfl, Below.refl _ _⟩
theorem ref_Bytes_nil (w : World) : Calls Tryd.prog 29 #[.pointer none] w (Says w (.tuple #[.string ⟨#[]⟩, .int .i64 1])) := by
  go_enter Tryd.func29, Tryd.ntmps29
  go_wp2
  go_ret2
  exact ⟨rfl, Below.refl _ _⟩
theorem ref_Len (w : World) (q n c : Nat) (A : Option Addr) (h : w.cell? ⟨q, 2, none⟩ = some (.slice A n c)) : Calls Tryd.prog 28 #[.pointer (some ⟨q, 0, none⟩)] w (Says w (.int .i64 (n : Int))) := by
  go_enter Tryd.func28, Tryd.ntmps28
  go_wp2
  go_ret
  exact ⟨rfl, Below.refl _ _⟩
theorem ref_Bytes (w : World) (B q E F : Nat) (l : List Nat) (v : Value) (hE1 : 2 ≤ E) (hE2 : E ≤ 11) (hF1 : 1 ≤ F) (hF2 : F ≤ 52) (h : RWC w B q E F l v) :
    Calls Tryd.prog 29 #[.pointer (some ⟨q, 0, none⟩)] w (Says w (.tuple #[.string (bstr (by8 (packB (1 + E + F) l))), .int .i64 0])) := by
  obtain ⟨hblk, hown, hBq, hfit, hl⟩ := h
  obtain ⟨A0, k0, rfl⟩ := hown.len.2
  have c0 := hblk.cell 0
  have c1 := hblk.cell 1
  have c2 := hblk.cell 2
  simp only [List.getElem?_toArray, List.getElem?_cons_zero, List.getElem?_cons_succ] at c0 c1 c2
  have hz := hblk.lt
  have h64 : ∀ x ∈ l, x < 18446744073709551616 := fun x hx => Nat.lt_of_lt_of_le (hfit x hx) (Nat.pow_le_pow_right (n := 2) (j := 64) (by decide) (by omega))
  have hr0 := rowErr_z hE1 hE2 hF1 hF2 hl hfit
  have hP := fun w1 hr => ref_Pack (E : Int) (F : Int) A0 l l.length k0 rfl w1 h64 hr
  rw [packS_ok hr0] at hP
  simp only at hP
  have hrd := hown.rdK
  generalize bstr (by8 (packB (1 + E + F) l)) = S at hP ⊢
  clear hown hfit h64 hr0 hblk
  go_enter Tryd.func29, Tryd.ntmps29
  go_wp2
  go_region_held3 (fun w' => w'.cell? ⟨q, 0, none⟩ = some (.int .i64 (E : Int)) ∧ w'.cell? ⟨q, 1, none⟩ = some (.int .i64 (F : Int)) ∧ w'.cell? ⟨q, 2, none⟩ = some (.slice A0 l.length k0))
    (first | exact ⟨c0, c1, c2⟩ | exact ⟨cell_keep hb5 c0, cell_keep hb5 c1, cell_keep hb5 c2⟩ | go_keep)
    (first
    | (go_at_call 22; (with_reducible refine (hP _ (hrd.below ((Below.refl _ _).drew))).mono ?_); rintro r w5 ⟨rfl, hb5⟩)
    | fail)
  all_goals (
    have hx5 : Below w.heap.size w w5 := (Below.drew (Below.refl _ _)).trans hb5
    go_wp2
    go_ret2
    exact ⟨rfl, hx5⟩)
theorem writer_Put_none (p : Option Addr) (b : Int) (w : World) (h : p = none ∨ ∃ z, p = some ⟨z, 0, none⟩ ∧ w.cell? ⟨z, 3, none⟩ = some (.int .i64 0)) :
    Calls Tryd.prog 15 #[.pointer p, .int .u64 b] w (Says w (.int .i64 1)) := by
  rcases h with rfl | ⟨z, rfl, h⟩
  · go_enter Tryd.func15, Tryd.ntmps15
    go_wp2_with fail
    refine (writer_nil _).mono ?_
    rintro r w1 ⟨rfl, hb1⟩
    go_wp2
    go_ret
    exact ⟨rfl, hb1⟩
  · have hm := fun w1 h => writer_made z 0 w1 h
    have hd : decide ((0 : Int) < 0) = false := rfl
    rw [hd] at hm
    go_enter Tryd.func15, Tryd.ntmps15
    go_wp2_with fail
    refine (hm _ h).mono ?_
    rintro r w1 ⟨rfl, hb1⟩
    go_wp2
    go_ret
    exact ⟨rfl, hb1⟩
theorem writer_Len_none (p : Option Addr) (w : World) (h : p = none ∨ ∃ z, p = some ⟨z, 0, none⟩ ∧ w.cell? ⟨z, 3, none⟩ = some (.int .i64 0)) :
    Calls Tryd.prog 19 #[.pointer p] w (Says w (.int .i64 0)) := by
  rcases h with rfl | ⟨z, rfl, h⟩
  · go_enter Tryd.func19, Tryd.ntmps19
    go_wp2_with fail
    refine (writer_nil _).mono ?_
    rintro r w1 ⟨rfl, hb1⟩
    go_wp2
    go_ret
    exact ⟨rfl, hb1⟩
  · have hm := fun w1 h => writer_made z 0 w1 h
    have hd : decide ((0 : Int) < 0) = false := rfl
    rw [hd] at hm
    go_enter Tryd.func19, Tryd.ntmps19
    go_wp2_with fail
    refine (hm _ h).mono ?_
    rintro r w1 ⟨rfl, hb1⟩
    go_wp2
    go_ret
    exact ⟨rfl, hb1⟩
theorem writer_Bytes_none (p : Option Addr) (w : World) (h : p = none ∨ ∃ z, p = some ⟨z, 0, none⟩ ∧ w.cell? ⟨z, 3, none⟩ = some (.int .i64 0)) :
    Calls Tryd.prog 18 #[.pointer p] w (Says w (.tuple #[.string ⟨#[]⟩, .int .i64 1])) := by
  rcases h with rfl | ⟨z, rfl, h⟩
  · go_enter Tryd.func18, Tryd.ntmps18
    go_wp2_with fail
    refine (writer_nil _).mono ?_
    rintro r w1 ⟨rfl, hb1⟩
    go_wp2
    go_ret2
    exact ⟨rfl, hb1⟩
  · have hm := fun w1 h => writer_made z 0 w1 h
    have hd : decide ((0 : Int) < 0) = false := rfl
    rw [hd] at hm
    go_enter Tryd.func18, Tryd.ntmps18
    go_wp2_with fail
    refine (hm _ h).mono ?_
    rintro r w1 ⟨rfl, hb1⟩
    go_wp2
    go_ret2
    exact ⟨rfl, hb1⟩
end Go.Proofs.YtefhannaofknnaaDoor
namespace Go.Proofs.YtefhannaofknnaaDoor
open Go.RowKit
set_option linter.unusedVariables false
set_option linter.unusedSimpArgs false
set_option maxHeartbeats 4000000
set_option maxRecDepth 100000

theorem Blk.ne {w : World} {g g' : Nat} {t t' : TypeId} {cs cs' : Array Value} (h : Blk w g t cs) (h' : Blk w g' t' cs') (hne : t ≠ t') : g ≠ g' := by
  intro e
  subst e
  unfold Blk at h h'
  rw [h] at h'
  injection h' with h'
  injection h' with _ h'
  exact hne h'
theorem OwnR.ne_row {w : World} {B B' : Nat} {e e' : TypeId} {k k' : IntKind} {v v' : Value} {l l' : List Nat} (h : OwnR w B e k v l) (h' : OwnR w B' e' k' v' l') (hne : e' ≠ e) : ∀ g, v.ownBlock = some g → v'.ownBlock ≠ some g := by
  intro g hg hg'
  rcases h'.form with ⟨e0, _⟩ | ⟨g', cap, cur, e0, _, hh, _⟩
  · rw [e0] at hg'; simp [Value.ownBlock] at hg'
  · rw [e0] at hg'
    simp [Value.ownBlock] at hg'
    subst hg'
    exact h.apart hh hne _ hg rfl
/-- What stays behind a step that turns one struct p and its row cv alone. -/
def Stays (w w' : World) (p : Nat) (cv : Value) : Prop := ∀ k, k < w.heap.size → k ≠ p → cv.ownBlock ≠ some k → w'.heap[k]? = w.heap[k]?
theorem Stays.blk {w w' : World} {p : Nat} {cv : Value} (h : Stays w w' p cv) {g : Nat} {t : TypeId} {cs : Array Value} (hk : Blk w g t cs) (h1 : g ≠ p) (h2 : cv.ownBlock ≠ some g) : Blk w' g t cs := (h g hk.lt h1 h2).trans hk
theorem Stays.row {w w' : World} {p : Nat} {cv : Value} (h : Stays w w' p cv) {B : Nat} {e : TypeId} {k : IntKind} {v : Value} {l : List Nat} (ho : OwnR w B e k v l) (h1 : ∀ g, v.ownBlock = some g → g ≠ p) (h2 : ∀ g, v.ownBlock = some g → cv.ownBlock ≠ some g) : OwnR w' B e k v l :=
  ho.same fun g hg => h g (ho.lt g hg).2 (h1 g hg) (h2 g hg)
/-- The zero writer's cells. -/
def zeroW : Array Value := #[.int .i64 0, .int .i64 0, .slice none 0 0, .int .i64 0, .int .i64 0, .int .u64 0, .int .i64 0, .int .i64 0, .int .i64 0]
/-- Two writers (with the rows la, lb), the document's two (with lc, ld), the zero one. -/
structure Two (w : World) (B E F pa pb pc pd pz : Nat) (la lb lc ld : List Nat) (ca cb vc vd : Value) : Prop where
  a : WrC w B pa E F la ca
  b : WrC w B pb E F lb cb
  c : RWC w B pc E F lc vc
  d : RWC w B pd E F ld vd
  z : Blk w pz 59 zeroW
  ab : pa ≠ pb
  az : pa ≠ pz
  bz : pb ≠ pz
  cd : pc ≠ pd
  rab : ∀ g, ca.ownBlock = some g → cb.ownBlock ≠ some g
  rcd : ∀ g, vc.ownBlock = some g → vd.ownBlock ≠ some g
section
variable {w w' : World} {B E F pa pb pc pd pz : Nat} {la lb lc ld : List Nat} {ca cb vc vd : Value}
theorem Two.swap (h : Two w B E F pa pb pc pd pz la lb lc ld ca cb vc vd) : Two w B E F pb pa pd pc pz lb la ld lc cb ca vd vc :=
  ⟨h.b, h.a, h.d, h.c, h.z, h.ab.symm, h.bz, h.az, h.cd.symm, fun g h1 h2 => h.rab g h2 h1, fun g h1 h2 => h.rcd g h2 h1⟩
theorem Two.below (h : Two w B E F pa pb pc pd pz la lb lc ld ca cb vc vd) (hb : Below w.heap.size w w') : Two w' B E F pa pb pc pd pz la lb lc ld ca cb vc vd :=
  ⟨⟨h.a.1.below hb h.a.1.lt, h.a.2.1.below hb (Nat.le_refl _), h.a.2.2⟩, ⟨h.b.1.below hb h.b.1.lt, h.b.2.1.below hb (Nat.le_refl _), h.b.2.2⟩,
    ⟨h.c.1.below hb h.c.1.lt, h.c.2.1.below hb (Nat.le_refl _), h.c.2.2⟩, ⟨h.d.1.below hb h.d.1.lt, h.d.2.1.below hb (Nat.le_refl _), h.d.2.2⟩, h.z.below hb h.z.lt, h.ab, h.az, h.bz, h.cd, h.rab, h.rcd⟩
theorem Two.putA (h : Two w B E F pa pb pc pd pz la lb lc ld ca cb vc vd) {l' : List Nat} {c' : Value} (h1 : WrC w' B pa E F l' c') (hs : Stays w w' pa ca) (hl : ∀ g, c'.ownBlock = some g → ca.ownBlock = some g ∨ w.heap.size ≤ g) :
    Two w' B E F pa pb pc pd pz l' lb lc ld c' cb vc vd := by
  obtain ⟨⟨a1, a2, a3⟩, ⟨b1, b2, b3⟩, ⟨c1, c2, c3⟩, ⟨d1, d2, d3⟩, z, ab, az, bz, cd, rab, rcd⟩ := h
  refine ⟨h1, ⟨hs.blk b1 ab.symm fun e => a2.apart b1 (by decide) _ e rfl, hs.row b2 (b2.apart a1 (by decide)) (fun g hg hg' => rab g hg' hg), b3⟩,
    ⟨hs.blk c1 (Blk.ne c1 a1 (by decide)) fun e => a2.apart c1 (by decide) _ e rfl, hs.row c2 (c2.apart a1 (by decide)) (fun g hg hg' => a2.ne_row c2 (by decide) g hg' hg), c3⟩,
    ⟨hs.blk d1 (Blk.ne d1 a1 (by decide)) fun e => a2.apart d1 (by decide) _ e rfl, hs.row d2 (d2.apart a1 (by decide)) (fun g hg hg' => a2.ne_row d2 (by decide) g hg' hg), d3⟩,
    hs.blk z az.symm fun e => a2.apart z (by decide) _ e rfl, ab, az, bz, cd, ?_, rcd⟩
  intro g hg hg'
  rcases hl g hg with e | e
  · exact rab g e hg'
  · have := (b2.lt g hg').2; omega
theorem Two.putC (h : Two w B E F pa pb pc pd pz la lb lc ld ca cb vc vd) {l' : List Nat} {v' : Value} (h1 : RWC w' B pc E F l' v') (hs : Stays w w' pc vc) (hl : ∀ g, v'.ownBlock = some g → vc.ownBlock = some g ∨ w.heap.size ≤ g) :
    Two w' B E F pa pb pc pd pz la lb l' ld ca cb v' vd := by
  obtain ⟨⟨a1, a2, a3⟩, ⟨b1, b2, b3⟩, ⟨c1, c2, c3⟩, ⟨d1, d2, d3⟩, z, ab, az, bz, cd, rab, rcd⟩ := h
  refine ⟨⟨hs.blk a1 (Blk.ne a1 c1 (by decide)) fun e => c2.apart a1 (by decide) _ e rfl, hs.row a2 (a2.apart c1 (by decide)) (fun g hg hg' => c2.ne_row a2 (by decide) g hg' hg), a3⟩,
    ⟨hs.blk b1 (Blk.ne b1 c1 (by decide)) fun e => c2.apart b1 (by decide) _ e rfl, hs.row b2 (b2.apart c1 (by decide)) (fun g hg hg' => c2.ne_row b2 (by decide) g hg' hg), b3⟩, h1,
    ⟨hs.blk d1 cd.symm fun e => c2.apart d1 (by decide) _ e rfl, hs.row d2 (d2.apart c1 (by decide)) (fun g hg hg' => rcd g hg' hg), d3⟩,
    hs.blk z (Blk.ne z c1 (by decide)) fun e => c2.apart z (by decide) _ e rfl, ab, az, bz, cd, rab, ?_⟩
  intro g hg hg'
  rcases hl g hg with e | e
  · exact rcd g e hg'
  · have := (d2.lt g hg').2; omega
end
end Go.Proofs.YtefhannaofknnaaDoor
