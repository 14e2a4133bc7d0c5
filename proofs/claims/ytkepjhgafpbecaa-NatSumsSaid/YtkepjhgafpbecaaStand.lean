/- The book stands: each answer is what it must be, each in memory of its own. -/
import Derived.Test.YtkepjhgafpbecaaSd
import Derived.StillTailTactics
namespace Go.Proofs.Ytkepjhgafpbecaa
open Go.RowKit
set_option linter.unusedVariables false
set_option linter.unusedSimpArgs false
set_option maxHeartbeats 4000000
set_option maxRecDepth 100000
attribute [local go_sem ↓] Go.wp_at_zero Go.wp_at_succ

theorem info_u32s : (Try.prog.info? 33).map (fun i => (i.zero, i.size, i.bytes)) = some (some (.slice none 0 0), 1, 24) := by kernel_rfl

theorem book_stands (kb B : Nat) (gv wv : Value) (es ws le : List Ent) (Fr : List Nat) (LA : Option Addr) (m lc : Nat) (hm : m = le.length) (w : World) (hB : B ≤ w.heap.size)
    (hbk : Book w B kb gv wv es ws Fr) (h0 : 0 < es.length) (hfew : es.length ≤ 64) (hlew : le.length ≤ 8)
    (hle : 0 < m → ∃ ad, LA = some ad ∧ ∀ j u, (le.map Ent.v)[j]? = some u → w.cell? (ad.add j) = some u)
    (hlo : ∀ e ∈ le, Own w 28 B e.A e.c e.l) (hd : (es ++ le).Pairwise (fun a b => a.A = none ∨ a.A ≠ b.A)) :
    Calls Try.prog 23 #[.pointer (some ⟨kb, 0, none⟩), .slice LA m lc] w fun e w' => e = .returned (.bool true) ∧ Below B w w' := by
  subst hm
  have hwl : ws.length = es.length := by have := congrArg List.length hbk.same; simpa using this.symm
  have HS := Lib.hid hbk.same
  obtain ⟨gg, gc, gcur, rfl, hgg, hgb, hgc⟩ := row_reads hbk.pr.got h0
  obtain ⟨wg, wc, wcur, rfl, hwg, hwb, hwc⟩ := row_reads hbk.pr.want (by omega)
  have hw0 : ws.length ≤ 64 := by omega
  have hlt := hbk.pr.blk.lt
  have kbad : w.cell? ⟨kb, 2, none⟩ = some (.bool false) := hbk.pr.blk.cell 2
  have HWL := Lib.hid hwl
  clear hwl
  go_enter Try.func23, Try.ntmps23
  go_wp2
  go_loopw [5] (fun i wr => ∃ k : Nat, k ≤ es.length ∧ i = .int .i64 (k : Int) ∧ Below w.heap.size w wr) (fun i _ => es.length - (intOf i).toNat)
  case atStart => exact ⟨0, Nat.zero_le _, rfl, Below.refl _ _⟩
  case round =>
    obtain ⟨k, hk, rfl, hbl⟩ := hrel
    have p := hbk.pr.below hbl [] (by simp)
    have k0 := p.blk.cell 0
    have k1 := p.blk.cell 1
    simp at k0 k1
    have hltr := p.blk.lt
    by_cases hk1 : k < es.length
    · have hkw : k < ws.length := by rw [HWL.out]; exact hk1
      have hge := (hgb.below hbl hgb.lt).cell k
      rw [hgc k _ (ent_v es k hk1)] at hge
      have hwe := (hwb.below hbl hwb.lt).cell k
      rw [hwc k _ (ent_v ws k hkw)] at hwe
      have og := (hbk.goto_ _ (ent_mem es k hk1)).below hbl (Nat.le_refl _)
      have ow := (hbk.wanto _ (ent_mem ws k hkw)).below hbl (Nat.le_refl _)
      have he : (ent es k).l = (ent ws k).l := by
        have h1 : (es.map (·.l))[k]? = some (ent es k).l := by rw [List.getElem?_map, ent_get es k hk1]; rfl
        have h2 : (ws.map (·.l))[k]? = some (ent ws k).l := by rw [List.getElem?_map, ent_get ws k hkw]; rfl
        rw [HS.out, h2] at h1
        exact (Option.some.inj h1).symm
      have HE := Lib.hid (decide_eq_true he)
      clear he
      unfold Ent.v at hge hwe
      go_wp2
      go_still_tail 14, (by kernel_rfl)
      go_wp2_with fail
      refine (ref_Same _ _ _ _ _ _ _ _ rfl rfl _ og.drew.rd ow.drew.rd).mono ?_
      rintro e w1 ⟨rfl, hb1⟩
      rw [HE.out]
      have hbw1 := (Below.drew hbl).trans (hb1.mono hbl.size)
      go_wp2
      go_roundw
      case rel => exact ⟨k + 1, by omega, by go_num, hbw1⟩
      case measure => first | (simp [intOf]; done) | (simp [intOf]; omega)
    · have hke : k = es.length := by omega
      subst hke
      obtain ⟨i0, hi0, hz0, hz1, hz2⟩ := info_parts info_nat
      obtain ⟨i1, hi1, hy0, hy1, hy2⟩ := info_parts info_u32s
      go_wp2_with (at_builtin; refine wpList_appv rfl _ _ rfl i0 _ 24 Try.underlying30 hi0 hz0 hz1 hz2 (by decide) rfl p.got rfl LA le.length lc rfl (le.map Ent.v) (by simp) (ent_one le) ?c1 (by omega) (Nat.le_trans hB hbl.size) (fun v8 w8 hown8 hgrow8 => ?_))
      case c1 =>
        intro h
        obtain ⟨ad, e, hc⟩ := hle h
        exact ⟨ad, e, fun j u hu => (hbl.cell (cell_lt (hc j u hu))).trans (hc j u hu)⟩
      obtain ⟨E, hE⟩ : ∃ E, E = es ++ le := ⟨_, rfl⟩
      have hEl : E.length = es.length + le.length := by rw [hE]; simp
      have hEv : es.map Ent.v ++ le.map Ent.v = E.map Ent.v := by rw [hE]; simp
      rw [← hEl, hEv] at hown8
      obtain ⟨ga, ca, cur, rfl, hga, hgk, hcur⟩ := row_reads hown8 (by omega)
      have F8 : Fam w8 B E (fi E 0) := by
        rw [fi_zero]
        have h1 : ∀ e ∈ E, Own wr 28 B e.A e.c e.l := by
          intro e he
          rw [hE] at he
          rcases List.mem_append.1 he with he | he
          · exact (hbk.goto_ e he).below hbl (Nat.le_refl _)
          · exact (hlo e he).below hbl (Nat.le_refl _)
        intro j hj
        exact ⟨(h1 _ (ent_mem E j hj)).blocks (fun g cs hb => (hgrow8.block g hb.lt (fun e => ownsRow_ne p.got hb (by decide) g e.symm rfl)).trans hb), rfl⟩
      have hB8 : Below B w w8 := (hbl.mono hB).grown hgrow8 (Nat.le_trans hB hbl.size) (fun k hk => (p.got.lt k hk).1)
      rw [← hE] at hd
      have hN : E.length ≤ 72 := by omega
      have hN0 : 0 < E.length := by omega
      clear hown8 hgrow8 hEv hEl hE hlt kbad hltr k0 k1 p hbl hwc hwb hgc hgb hbk hle hlo
      go_wp2
      go_loopw [7] (fun i wr => ∃ k : Nat, k ≤ E.length ∧ i = .int .i64 (k : Int) ∧ Below B w wr ∧ Blk wr ga 35 cur ∧ Fam wr B E (fi E k)) (fun i _ => E.length - (intOf i).toNat)
      case atStart => exact ⟨0, Nat.zero_le _, rfl, hB8, hgk, F8⟩
      case round =>
        obtain ⟨wo, rfl⟩ : ∃ wo : World, wo = wr := ⟨_, rfl⟩
        obtain ⟨i, hi, rfl, hbi, hki, hFi⟩ := hrel
        by_cases hi1' : i < E.length
        · go_wp2
          have hlen := (hFi i hi1').1.2.1
          rw [(hFi i hi1').2] at hlen
          go_loopw [8] (fun v wr => ∃ q : Nat, q ≤ (ent E i).l.length ∧ v = .int .i64 (q : Int) ∧ Below B w wr ∧ Blk wr ga 35 cur ∧ Fam wr B E (fq E i q)) (fun v _ => (ent E i).l.length - (intOf v).toNat)
          case atStart => exact ⟨0, Nat.zero_le _, rfl, hbi, hki, by rw [fq_zero]; exact hFi⟩
          case round =>
            obtain ⟨q, hq, rfl, hbq, hkq, hFq⟩ := hrel
            have hc := hkq.cell i
            rw [hcur i _ (ent_v E i hi1')] at hc
            unfold Ent.v at hc
            by_cases hq1 : q < (ent E i).l.length
            · have own := (hFq i hi1').1
              rw [fq_self] at own
              obtain ⟨g, gcu, hA, hgB, hgl, hce, hfz, hgk2⟩ := own.g.cell2 (k := q) (by rw [part_len _ _ _ hq]; exact hq1)
              rw [hA] at hc
              have hne : ga ≠ g := Blk.ne_ hkq hgk2 (by decide)
              go_wp2
              go_roundw
              case rel =>
                refine ⟨q + 1, by omega, by go_num, hbq.setCell (by simpa using hgB) _, hkq.far (by simpa using hne) _, ?_⟩
                rw [← fq_succ E i q hq1]
                refine hFq.putE hd hi1' hA (by rw [fq_self, part_len _ _ _ hq]; exact hq1) (by omega) ?_
                omega
              case measure => first | (simp [intOf]; done) | (simp [intOf]; omega)
            · have hqe : q = (ent E i).l.length := by omega
              subst hqe
              go_wp2
              go_roundw
              case rel => exact ⟨i + 1, by omega, by go_num, hbq, hkq, by rw [← fq_all]; exact hFq⟩
              case measure => first | (simp [intOf]; done) | (simp [intOf]; omega)
        · have hie : i = E.length := by omega
          subst hie
          go_wp2
          go_loopw [9, 10] (fun v9 v10 wr => ∃ (k : Nat) (gs : List Ent) (V : Value), V = v9 ∧ gs.length = k ∧ k ≤ E.length ∧ v10 = .int .i64 (k : Int) ∧ wr.ownsRow B 33 1 v9 k (gs.map Ent.v) ∧ GrRel wr B wo.heap.size E gs ∧ Fam wr B E (fi E E.length) ∧ Blk wr ga 35 cur ∧ Below B w wr ∧ wo.heap.size ≤ wr.heap.size) (fun _ v _ => E.length - (intOf v).toNat)
          case atStart => exact ⟨0, [], _, rfl, rfl, Nat.zero_le _, rfl, World.ownsRow_nil _ _ _ _, fun j hj => by simp at hj, hFi, hki, hbi, Nat.le_refl _⟩
          case round =>
            have hEW := hFi.lt
            clear hFi hki hbi
            obtain ⟨wi, rfl⟩ : ∃ wi : World, wi = wr := ⟨_, rfl⟩
            obtain ⟨i, gs, V, rfl, hgl, hi, rfl, how, hgr, hFi, hki, hbi, hsi⟩ := hrel
            have HGL := Lib.hid hgl
            clear hgl
            by_cases hi1' : i < E.length
            · have hlen := (hFi i hi1').1.2.1
              rw [(hFi i hi1').2] at hlen
              have hc := hki.cell i
              rw [hcur i _ (ent_v E i hi1')] at hc
              unfold Ent.v at hc
              have hBi : B ≤ wi.heap.size := by have := hbi.size; omega
              go_wp2
              go_loopw [11, 12] (fun v11 v12 wr => ∃ (q : Nat) (A : Option Addr) (c : Nat), q ≤ 40 ∧ v12 = .int .i64 (q : Int) ∧ v11 = .slice A ((ent E i).l.length + q) c ∧ OwnG wr 28 B A c (mk1 i (ent E i).l.length ++ mk2 i q) ∧ (A = (ent E i).A ∨ ∃ g, A = some ⟨g, 0, none⟩ ∧ wi.heap.size ≤ g) ∧ wr.ownsRow B 33 1 V i (gs.map Ent.v) ∧ GrRel wr B wo.heap.size E gs ∧ Fam wr B E (fi E E.length) ∧ Blk wr ga 35 cur ∧ Below B w wr ∧ wi.heap.size ≤ wr.heap.size) (fun _ v _ => 40 - (intOf v).toNat)
              case atStart =>
                refine ⟨0, (ent E i).A, (ent E i).c, by omega, rfl, rfl, ?_, .inl rfl, how, hgr, hFi, hki, hbi, Nat.le_refl _⟩
                have := (hFi i hi1').1.g
                rw [fi_all E i hi1'] at this
                simpa [mk2] using this
              case round =>
                obtain ⟨q, A, c, hq, rfl, rfl, hoq, hAq, howq, hgq, hFq, hkq, hbq, hsq⟩ := hrel
                by_cases hq1 : q < 40
                · go_wp2_with (at_builtin; refine wpList_grow1 elemU bytesU rfl _ _ rfl (l := mk1 i (ent E i).l.length ++ mk2 i q) (OwnG.blocks hoq (fun g cs hb => Blk.alloc hb _)) (by simp [mk1_len, mk2_len]) (by simp; omega) rfl ⟨_, 0, none⟩ rfl (900000 + 1000 * i + q) (by omega) ?c2 (by simp [mk1_len, mk2_len]; omega) (fun A' c' w' ho' hbb hat hst => ?_))
                  case c2 => simp [go_sem]
                  go_roundw
                  case rel =>
                    have hW4 : ∀ j, j < E.length → ∀ g, (ent E j).A = some ⟨g, 0, none⟩ → g < wi.heap.size := fun j hj g hg => by have := hEW j hj g hg; omega
                    have hst' := (Stay.of_below ((Below.refl wr.heap.size wr).alloc (Nat.le_refl _) _) A _).trans hst
                    refine ⟨q + 1, A', c', by omega, by go_num, ?_, ?_, ?_, ownsRow_stay hoq hst' howq (by decide), hgq.grow hst' hd hi1' HGL.out hAq hEW hsi (fun j hj g hg => hgr.lt j hj g hg), hFq.grow hst' hd hi1' hAq hW4 ?_, hoq.far hst' hkq (by decide), ?_, ?_⟩
                    · simp only [List.length_append, mk1_len, mk2_len, List.length_singleton, Nat.add_assoc]
                    · rw [mk2_succ, ← List.append_assoc]; exact ho'
                    · rcases hat with e | ⟨g, e, hg⟩
                      · rw [e]; exact hAq
                      · exact .inr ⟨g, e, by simp at hg; omega⟩
                    · rw [fi_all E i hi1']; simp
                    · exact (hbq.alloc (by omega) _).trans hbb
                    · have := hbb.size; simp at this; omega
                  case measure => first | (simp [intOf]; done) | (simp [intOf]; omega)
                · have hqe : q = 40 := by omega
                  subst hqe
                  go_wp2_with (at_builtin; refine wpList_appv rfl _ _ rfl i1 _ 24 Try.underlying74 hi1 hy0 hy1 hy2 (by decide) rfl (World.ownsRow.alloc howq _) rfl (some ⟨_, 0, none⟩) 1 1 rfl [.slice A ((ent E i).l.length + 40) c] rfl (by simp [Value.oneCell']) (fun _ => ⟨_, rfl, World.news_of_block (heap_alloc_new _ _)⟩) (by omega) (by simp; omega) (fun v' w' hown' hgrow' => ?_))
                  go_roundw
                  case rel =>
                    have hk : ∀ g cs, Blk wr g 28 cs → Blk w' g 28 cs := fun g cs hb => (hgrow'.block g (by have := hb.lt; simp; omega) (fun e => ownsRow_ne howq hb (by decide) g e.symm rfl)).trans (hb.alloc _)
                    refine ⟨i + 1, gs ++ [⟨A, c, mk1 i (ent E i).l.length ++ mk2 i 40⟩], _, rfl, by simp [HGL.out], by omega, by go_num, ?_, (hgq.blocks hk).snoc _ (hoq.blocks hk) (by rw [HGL.out]) ?_, hFq.blocks hk, ?_, ?_, ?_⟩
                    · simpa [Ent.v, mk1_len, mk2_len] using hown'
                    · rw [HGL.out]
                      rcases hAq with e | ⟨g, e, hg⟩
                      · exact .inl e
                      · exact .inr ⟨g, e, by omega⟩
                    · exact (hgrow'.block ga (by have := hkq.lt; simp; omega) (fun e => ownsRow_ne howq hkq (by decide) ga e.symm rfl)).trans (hkq.alloc _)
                    · exact (hbq.alloc (by omega) _).grown hgrow' (by simp; omega) (fun k hk => (howq.lt k hk).1)
                    · have := hgrow'.size; simp at this; omega
                  case measure => first | (simp [intOf]; done) | (simp [intOf]; omega)
            · have hie : i = E.length := by omega
              subst hie
              obtain ⟨gb, gbc, gbcur, rfl, hgbB, hgbk, hgbc⟩ := row_reads how hN0
              have HF := hFi
              have HG := hgr
              go_wp2
              go_loopw [13] (fun v wr => ∃ k : Nat, k ≤ E.length ∧ v = .int .i64 (k : Int) ∧ Below wi.heap.size wi wr) (fun v _ => E.length - (intOf v).toNat)
              case atStart => exact ⟨0, Nat.zero_le _, rfl, Below.refl _ _⟩
              case round =>
                obtain ⟨i, hi, rfl, hbr⟩ := hrel
                by_cases hi1' : i < E.length
                · have hc := (hki.below hbr hki.lt).cell i
                  rw [hcur i _ (ent_v E i hi1')] at hc
                  have hlen := (hFi i hi1').1.2.1
                  rw [(hFi i hi1').2] at hlen
                  have ofam := (hFi i hi1').1.g
                  rw [fi_all E i hi1'] at ofam
                  have hgi : i < gs.length := by rw [HGL.out]; exact hi1'
                  obtain ⟨og, ogl, _⟩ := hgr i hgi
                  have hgc := (hgbk.below hbr hgbk.lt).cell i
                  rw [hgbc i _ (ent_v gs i hgi)] at hgc
                  rw [ogl] at og
                  have hgl : (ent gs i).l.length = (ent E i).l.length + 40 := by rw [ogl]; simp [mk1_len, mk2_len]
                  unfold Ent.v at hc hgc
                  rw [hgl] at hgc
                  have HGL2 := Lib.hid hgl
                  clear ogl hgl
                  go_wp2
                  go_loopw [15] (fun v wr => ∃ q : Nat, q ≤ (ent E i).l.length ∧ v = .int .i64 (q : Int) ∧ Below wi.heap.size wi wr) (fun v _ => (ent E i).l.length - (intOf v).toNat)
                  case atStart => exact ⟨0, Nat.zero_le _, rfl, hbr⟩
                  case round =>
                    obtain ⟨q, hq, rfl, hbq⟩ := hrel
                    have hc := (hki.below hbq hki.lt).cell i
                    rw [hcur i _ (ent_v E i hi1')] at hc
                    have hgc := (hgbk.below hbq hgbk.lt).cell i
                    rw [hgbc i _ (ent_v gs i hgi)] at hgc
                    unfold Ent.v at hc hgc
                    rw [HGL2.out] at hgc
                    by_cases hq1 : q < (ent E i).l.length
                    · obtain ⟨g1, hA1, hl1, hc1⟩ := ofam.cell (k := q) (by rw [mk1_len]; exact hq1)
                      obtain ⟨g2, hA2, hl2, hc2⟩ := og.cell (k := q) (by simp [mk1_len]; omega)
                      rw [nth_append_left _ _ _ (by rw [mk1_len]; exact hq1), mk1_nth _ _ _ hq1] at hc2
                      rw [mk1_nth _ _ _ hq1] at hc1
                      rw [hA1] at hc
                      rw [hA2] at hgc
                      have hd1 := (hbq.cell (p := ⟨g1, q, none⟩) hl1).trans hc1
                      have hd2 := (hbq.cell (p := ⟨g2, q, none⟩) hl2).trans hc2
                      obtain ⟨M, hM⟩ : ∃ M : Nat, M = 1000 * i + q % 1000 := ⟨_, rfl⟩
                      rw [← hM] at hd1 hd2
                      have hMi : (M : Int) = 1000 * (i : Int) + (q : Int) % 1000 := by omega
                      clear hc1 hc2
                      go_wp2
                      go_quiet (fail)
                      go_wp2
                      go_roundw
                      case rel => exact ⟨q + 1, by omega, by go_num, (by repeat' (first | (with_reducible assumption) | (with_reducible exact Below.refl _ _) | (with_reducible refine bdn ?_ _) | (with_reducible refine Below.drew ?_) | (with_reducible refine Below.setCell ?_ ?_ _) | (with_reducible refine Below.alloc ?_ ?_ _) | go_size))⟩
                      case measure => first | (simp [intOf]; done) | (simp [intOf]; omega)
                    · have hqe : q = (ent E i).l.length := by omega
                      subst hqe
                      go_wp2
                      go_loopw [16] (fun v wr => ∃ q : Nat, q ≤ 40 ∧ v = .int .i64 (q : Int) ∧ Below wi.heap.size wi wr) (fun v _ => 40 - (intOf v).toNat)
                      case atStart => exact ⟨0, Nat.zero_le _, rfl, hbq⟩
                      case round =>
                        obtain ⟨q, hq, rfl, hbq⟩ := hrel
                        by_cases hq1 : q < 40
                        · have hgc := (hgbk.below hbq hgbk.lt).cell i
                          rw [hgbc i _ (ent_v gs i hgi)] at hgc
                          unfold Ent.v at hgc
                          rw [HGL2.out] at hgc
                          obtain ⟨g2, hA2, hl2, hc2⟩ := og.cell (k := (ent E i).l.length + q) (by simp [mk1_len, mk2_len]; omega)
                          rw [nth_append_right _ _ _ (by rw [mk1_len]; omega), mk1_len, Nat.add_sub_cancel_left, mk2_nth _ _ _ hq1] at hc2
                          rw [hA2] at hgc
                          have hd2 := (hbq.cell (p := ⟨g2, (ent E i).l.length + q, none⟩) hl2).trans hc2
                          clear hc2
                          go_wp2
                          go_roundw
                          case rel => exact ⟨q + 1, by omega, by go_num, (by repeat' (first | (with_reducible assumption) | (with_reducible exact Below.refl _ _) | (with_reducible refine bdn ?_ _) | (with_reducible refine Below.drew ?_) | (with_reducible refine Below.setCell ?_ ?_ _) | (with_reducible refine Below.alloc ?_ ?_ _) | go_size))⟩
                          case measure => first | (simp [intOf]; done) | (simp [intOf]; omega)
                        · have hqe : q = 40 := by omega
                          subst hqe
                          go_wp2
                          go_roundw
                          case rel => exact ⟨i + 1, by omega, by go_num, hbq⟩
                          case measure => first | (simp [intOf]; done) | (simp [intOf]; omega)
                · have hie : i = E.length := by omega
                  subst hie
                  go_wp2
                  go_ret
                  exact ⟨rfl, hbi.trans (hbr.mono (by have := hbi.size; omega))⟩
end Go.Proofs.Ytkepjhgafpbecaa
