/- Walks: layer 4's Twin, Add with nought, Ratio, the document's way. -/
import Derived.Test.YtenekbfnlbipiaaGreatDoorBgDF
import Derived.Test.YtenekbfnlbipiaaGreatDoorSml
namespace Go.Proofs.YtenekbfnlbipiaaGreatDoor
open Go.RowKit
set_option linter.unusedVariables false
set_option linter.unusedSimpArgs false
set_option maxHeartbeats 4000000
set_option maxRecDepth 100000
namespace Bg
theorem ref_Twin (A:Option Addr) (v c:Nat) (hl:(limbs v).length≤200) (w:World) (h:Rd w A (limbs v)):
 Calls Tryz.prog 215 #[.agg #[.slice A (limbs v).length c]] w (NatOne 153 w (limbs v)):=by
 obtain⟨v0,hv0,ha0,k1⟩:=Blk.al w 67 #[.slice A (limbs v).length c]
 have hs0:v0.heap.size=w.heap.size+1:=by rw[hv0];simp
 have hb0:=ha0
 obtain⟨v1,hv1,ha1,k2⟩:=Blk.al v0 67 #[.slice none 0 0]
 have hs1:v1.heap.size=v0.heap.size+1:=by rw[hv1];simp
 replace k1:=k1.below ha1 k1.lt
 replace hb0:=hb0.trans (ha1.mono hb0.size)
 rw[hs0] at k2
 go_enter Tryz.func215,Tryz.ntmps215
 go_upto_region 1 with fail
 rw[←hv0, ←hv1]
 clear hv0 hs0 ha0 hv1 hs1 ha1
 replace h:=h.below hb0
 obtain⟨k1c0,k1z,k1f0⟩:=k1.b1
 obtain⟨k2c0,k2z,k2f0⟩:=k2.b1
 go_wp2_with (at_builtin;refine wpList_apps elemU rfl _ _ rfl (OwnR.nil _ v1.heap.size _ _) rfl A (limbs v) _ c rfl rfl (fun h0=>h.open_ h0) (.inr ⟨rfl,bytesU,by simp;omega⟩) nrf (fun u1 w2 hown1 hgr1 hb2=>?_))
 rw[List.nil_append] at hown1
 obtain⟨B,k,rfl,hle1,ho1⟩:=hown1.own (sm_limbs v) (by omega)
 have z4:=k2.lt
 clear k1c0 k1f0 k2c0 k2f0 k1z k2z
 replace k1:=k1.below hb2 k1.lt
 replace k2:=k2.below hb2 k2.lt
 replace hb0:=hb0.trans (hb2.mono hb0.size)
 obtain⟨k1c0,k1z,k1f0⟩:=k1.b1
 obtain⟨k2c0,k2z,k2f0⟩:=k2.b1
 go_wp2_with fail
 clear k1c0 k1f0 k2c0 k2f0 k1z k2z
 refine(ref_nat B _ k _).mono ?_
 rintro e w1 ⟨rfl,hb1⟩
 replace k1:=k1.below hb1 k1.lt
 replace k2:=k2.below hb1 k2.lt
 replace hb0:=hb0.trans (hb1.mono hb0.size)
 replace ho1:=ho1.below hb1 nrf
 clear hb1
 skip
 obtain⟨k1c0,k1z,k1f0⟩:=k1.b1
 obtain⟨k2c0,k2z,k2f0⟩:=k2.b1
 go_wp2
 refine bodyPost_ret (v:=.agg #[.slice B (limbs v).length k]) ?_ rfl ⟨B,k,rfl,((ho1.setCell z4 _).mono (by omega)),hb0.setCell (p:=⟨w.heap.size+1,0,none⟩) (by simp) _⟩
 refine results_cell_row rfl _ _ (w.heap.size+1) _ _ _ _ ?_ (k2.set_ 0 _) Tryz.underlying67 rfl (by kernel_rfl)
 rfl
theorem ref04_Twin (A:Option Addr) (K c:Nat) (X:Int) (hl:(limbs K).length≤200) (w:World) (h:Rd w A (limbs K)):
 Calls Tryz.prog 171 #[.agg #[.bool false,.slice A (limbs K).length c,.int .i64 X]] w fun e w'=>∃B k,e=.returned (.agg #[.bool false,.slice B (limbs K).length k,.int .i64 X])∧Own w' 153 w.heap.size B k (limbs K)∧Below w.heap.size w w':=by
 obtain⟨v0,hv0,ha0,k1⟩:=Blk.al w 117 #[.bool false,.slice A (limbs K).length c,.int .i64 X]
 have hs0:v0.heap.size=w.heap.size+1:=by rw[hv0];simp
 have hb0:=ha0
 obtain⟨v1,hv1,ha1,k2⟩:=Blk.al v0 117 #[.bool false,.slice none 0 0,.int .i64 0]
 have hs1:v1.heap.size=v0.heap.size+1:=by rw[hv1];simp
 replace k1:=k1.below ha1 k1.lt
 replace hb0:=hb0.trans (ha1.mono hb0.size)
 rw[hs0] at k2
 go_enter Tryz.func171,Tryz.ntmps171
 go_upto_region 1 with fail
 rw[←hv0, ←hv1]
 clear hv0 hs0 ha0 hv1 hs1 ha1
 replace h:=h.below hb0
 have z4:=k1.lt
 have z5:=k2.lt
 obtain⟨k1c0,k1c1,k1c2,k1z,k1f0,k1f1,k1f2⟩:=k1.b3
 obtain⟨k2c0,k2c1,k2c2,k2z,k2f0,k2f1,k2f2⟩:=k2.b3
 go_wp2_with fail
 clear k1c0 k1f0 k1c1 k1f1 k1c2 k1f2 k2c0 k2f0 k2c1 k2f1 k2c2 k2f2 k1z k2z
 refine(ref_Twin A K c hl _ h).mono ?_
 rintro e w1 ⟨B,k,rfl,own1,hb1⟩
 replace k1:=k1.below hb1 k1.lt
 replace k2:=k2.below hb1 k2.lt
 replace hb0:=hb0.trans (hb1.mono hb0.size)
 replace h:=h.below hb1
 clear hb1
 obtain⟨k1c0,k1c1,k1c2,k1z,k1f0,k1f1,k1f2⟩:=k1.b3
 obtain⟨k2c0,k2c1,k2c2,k2z,k2f0,k2f1,k2f2⟩:=k2.b3
 go_wp2
 refine bodyPost_ret (v:=.agg #[.bool false,.slice B (limbs K).length k,.int .i64 X]) ?_ rfl ⟨B,k,rfl,((((own1.setCell z4 _).setCell z5 _).setCell z5 _).setCell z5 _).mono (by omega),((((hb0.setCell (p:=⟨w.heap.size,1,none⟩) nrf _).setCell (p:=⟨w.heap.size+1,0,none⟩) (by simp) _).setCell (p:=⟨w.heap.size+1,1,none⟩) (by simp) _).setCell (p:=⟨w.heap.size+1,2,none⟩) (by simp) _)⟩
 refine results_cell_row rfl _ _ (w.heap.size+1) _ _ _ _ ?_ ((((k2.far (p:=⟨w.heap.size,1,none⟩) (by simp) _).set_ 0 _).set_ 1 _).set_ 2 _) Tryz.underlying117 rfl (by kernel_rfl)
 rfl
theorem ref04_Add_none (A1 A2:Option Addr) (v2 c1 c2:Nat) (q:Int) (hl2:(limbs v2).length≤100) (hq: -10000≤q∧q≤10000) (w:World) (h1:Rd w A1 (limbs 0)) (h2:Rd w A2 (limbs (dyK v2))):
 Calls Tryz.prog 120 #[.agg #[.bool false,.slice A1 (limbs 0).length c1,.int .i64 0],.agg #[.bool false,.slice A2 (limbs (dyK v2)).length c2,.int .i64 (dyE v2 q)]] w (DyT w v2 q):=by
 have l2:=Nat.le_trans (limbs_mono (dyK_le v2)) hl2
 have hTw:=fun W hA hB=>ref04_two A1 A2 0 v2 c1 c2 0 q (by decide) hl2 (by omega) hq W hA hB
 rw[dy_zero,show dyE 0 0=0 from rfl] at hTw
 unfold DyT
 obtain⟨K2,hK2⟩:∃z,z=dyK v2:=⟨_,rfl⟩
 obtain⟨X2,hX2⟩:∃z,z=dyE v2 q:=⟨_,rfl⟩
 rw[←hK2, ←hX2] at hTw ⊢
 rw[←hK2] at h2 l2
 replace l2:(limbs K2).length≤200:=by omega
 clear hK2 hX2 hl2 hq
 obtain⟨v0,hv0,ha0,k1⟩:=Blk.al w 117 #[.bool false,.slice A1 (limbs 0).length c1,.int .i64 0]
 have hs0:v0.heap.size=w.heap.size+1:=by rw[hv0];simp
 have hb0:=ha0
 obtain⟨v1,hv1,ha1,k2⟩:=Blk.al v0 117 #[.bool false,.slice A2 (limbs K2).length c2,.int .i64 X2]
 have hs1:v1.heap.size=v0.heap.size+1:=by rw[hv1];simp
 replace k1:=k1.below ha1 k1.lt
 replace hb0:=hb0.trans (ha1.mono hb0.size)
 obtain⟨v2,hv2,ha2,k3⟩:=Blk.al v1 117 #[.bool false,.slice none 0 0,.int .i64 0]
 have hs2:v2.heap.size=v1.heap.size+1:=by rw[hv2];simp
 replace k1:=k1.below ha2 k1.lt
 replace k2:=k2.below ha2 k2.lt
 replace hb0:=hb0.trans (ha2.mono hb0.size)
 rw[hs0] at k2
 rw[hs1,hs0] at k3
 simp only[Nat.add_assoc,Nat.reduceAdd] at k3
 go_enter Tryz.func120,Tryz.ntmps120
 go_upto_region 1 with fail
 rw[←hv0, ←hv1, ←hv2]
 clear hv0 hs0 ha0 hv1 hs1 ha1 hv2 hs2 ha2
 replace h1:=h1.below hb0
 replace h2:=h2.below hb0
 obtain⟨k1c0,k1c1,k1c2,k1z,k1f0,k1f1,k1f2⟩:=k1.b3
 obtain⟨k2c0,k2c1,k2c2,k2z,k2f0,k2f1,k2f2⟩:=k2.b3
 obtain⟨k3c0,k3c1,k3c2,k3z,k3f0,k3f1,k3f2⟩:=k3.b3
 go_wp2_with fail
 clear k1c0 k1f0 k1c1 k1f1 k1c2 k1f2 k2c0 k2f0 k2c1 k2f1 k2c2 k2f2 k3c0 k3f0 k3c1 k3f1 k3c2 k3f2 k1z k2z k3z
 refine(hTw _ h1 h2).mono ?_
 rintro e w1 ⟨rfl,hb1⟩
 replace k1:=k1.below hb1 k1.lt
 replace k2:=k2.below hb1 k2.lt
 replace k3:=k3.below hb1 k3.lt
 replace hb0:=hb0.trans (hb1.mono hb0.size)
 replace h1:=h1.below hb1
 replace h2:=h2.below hb1
 clear hb1
 obtain⟨k1c0,k1c1,k1c2,k1z,k1f0,k1f1,k1f2⟩:=k1.b3
 obtain⟨k2c0,k2c1,k2c2,k2z,k2f0,k2f1,k2f2⟩:=k2.b3
 obtain⟨k3c0,k3c1,k3c2,k3z,k3f0,k3f1,k3f2⟩:=k3.b3
 go_wp2_with fail
 clear k1c0 k1f0 k1c1 k1f1 k1c2 k1f2 k2c0 k2f0 k2c1 k2f1 k2c2 k2f2 k3c0 k3f0 k3c1 k3f1 k3c2 k3f2 k1z k2z k3z
 refine(ref04_none A1 0 c1 _).mono ?_
 rintro e w2 ⟨rfl,hb2⟩
 replace k1:=k1.below hb2 k1.lt
 replace k2:=k2.below hb2 k2.lt
 replace k3:=k3.below hb2 k3.lt
 replace hb0:=hb0.trans (hb2.mono hb0.size)
 replace h1:=h1.below hb2
 replace h2:=h2.below hb2
 clear hb2
 rw[decide_eq_true (rfl:(0:Nat)=0)]
 obtain⟨k1c0,k1c1,k1c2,k1z,k1f0,k1f1,k1f2⟩:=k1.b3
 obtain⟨k2c0,k2c1,k2c2,k2z,k2f0,k2f1,k2f2⟩:=k2.b3
 obtain⟨k3c0,k3c1,k3c2,k3z,k3f0,k3f1,k3f2⟩:=k3.b3
 go_wp2_with fail
 clear k1c0 k1f0 k1c1 k1f1 k1c2 k1f2 k2c0 k2f0 k2c1 k2f1 k2c2 k2f2 k3c0 k3f0 k3c1 k3f1 k3c2 k3f2 k1z k2z k3z
 have z4:=k3.lt
 refine(ref04_Twin A2 K2 c2 X2 l2 _ h2).mono ?_
 rintro e w3 ⟨B4,d4,rfl,own4,hb3⟩
 replace k1:=k1.below hb3 k1.lt
 replace k2:=k2.below hb3 k2.lt
 replace k3:=k3.below hb3 k3.lt
 replace hb0:=hb0.trans (hb3.mono hb0.size)
 replace h1:=h1.below hb3
 replace h2:=h2.below hb3
 clear hb3
 obtain⟨k1c0,k1c1,k1c2,k1z,k1f0,k1f1,k1f2⟩:=k1.b3
 obtain⟨k2c0,k2c1,k2c2,k2z,k2f0,k2f1,k2f2⟩:=k2.b3
 obtain⟨k3c0,k3c1,k3c2,k3z,k3f0,k3f1,k3f2⟩:=k3.b3
 go_wp2
 refine bodyPost_ret (v:=.tuple #[.agg #[.bool false,.slice B4 (limbs K2).length d4,.int .i64 X2],.int .i64 0]) ?_ rfl ⟨B4,d4,rfl,(((own4.setCell z4 _).setCell z4 _).setCell z4 _).mono (by omega),((bel3 hb0 (w.heap.size+2) (by simp)))⟩
 refine results_cell_tmp rfl _ _ (w.heap.size+2) _ _ _ _ _ ?_ ?_ ((((k3.set_ 0 _).set_ 1 _).set_ 2 _)) Tryz.underlying117 rfl (by kernel_rfl)
 · rfl
 · rfl
theorem ref04_Add (A1 A2:Option Addr) (v1 v2 c1 c2:Nat) (q:Int) (hl1:(limbs v1).length≤100) (hl2:(limbs v2).length≤100) (hq: -10000≤q∧q≤10000) (hv2:v2≠0) (w:World) (h1:Rd w A1 (limbs (dyK v1))) (h2:Rd w A2 (limbs (dyK v2))):
 Calls Tryz.prog 120 #[.agg #[.bool false,.slice A1 (limbs (dyK v1)).length c1,.int .i64 (dyE v1 q)],.agg #[.bool false,.slice A2 (limbs (dyK v2)).length c2,.int .i64 (dyE v2 q)]] w (DyT w (v1+v2) q):=by
 by_cases hv1:v1=0
 · subst hv1
   rw[Nat.zero_add]
   exact ref04_Add_none A1 A2 v2 c1 c2 q hl2 hq w h1 h2
 · exact ref04_Add_pos A1 A2 v1 v2 c1 c2 q hl1 hl2 hq hv1 hv2 w h1 h2
end Bg
namespace Bg
def RatA (w:World) (N D:Nat) (e:Ending) (w':World):Prop:=
 ∃A c B k,e=.returned (.tuple #[.agg #[.bool false,.slice A (limbs N).length c,.slice B (limbs D).length k],.int .i64 0])∧Own w' 153 w.heap.size A c (limbs N)∧Own w' 153 w.heap.size B k (limbs D)∧Below w.heap.size w w'
theorem ratio_core_pos (A:Option Addr) (K c x N D:Nat) (hx:x≤1000000)
 (hCh:∀W,Rd W A (limbs K)→Calls Tryz.prog 178 #[.agg #[.bool false,.slice A (limbs K).length c,.int .i64 (x:Int)]] W (Says W (.int .i64 0)))
 (hU1:∀W,Rd W A (limbs K)→Calls Tryz.prog 172 #[.agg #[.slice A (limbs K).length c],.int .i64 (x:Int)] W (NatAns 153 W (limbs N,0)))
 (hOf:∀W,Calls Tryz.prog 167 #[.int .u64 1] W (NatOne 153 W (limbs 1)))
 (hU2:∀A2 c2 W,Rd W A2 (limbs 1)→Calls Tryz.prog 172 #[.agg #[.slice A2 (limbs 1).length c2],.int .i64 0] W (NatAns 153 W (limbs D,0)))
 (w:World) (h:Rd w A (limbs K)):
 Calls Tryz.prog 124 #[.agg #[.bool false,.slice A (limbs K).length c,.int .i64 (x:Int)]] w (RatA w N D):=by
 have hm1:max (x:Int) 0=(x:Int):=by omega
 have hm1':max 0 (x:Int)=(x:Int):=by omega
 have hm2:max (-(x:Int)) 0=0:=by omega
 have hm3:max (IntKind.i64.wrap (-(x:Int))) 0=0:=by rw[IntKind.wrap_i64];omega
 have hif:(if IntKind.i64.wrap (-(x:Int))<0 then 0 else IntKind.i64.wrap (-(x:Int)))=0:=by rw[IntKind.wrap_i64];split <;> omega
 have hif2:(if IntKind.i64.wrap (-(x:Int))<0 then 0 else IntKind.i64.wrap (-(x:Int)))=0:=by rw[IntKind.wrap_i64];split <;> omega
 obtain⟨v0,hv0,ha0,k1⟩:=Blk.al w 117 #[.bool false,.slice A (limbs K).length c,.int .i64 (x:Int)]
 have hs0:v0.heap.size=w.heap.size+1:=by rw[hv0];simp
 have hb0:=ha0
 obtain⟨v1,hv1,ha1,k2⟩:=Blk.al v0 69 #[.bool false,.slice none 0 0,.slice none 0 0]
 have hs1:v1.heap.size=v0.heap.size+1:=by rw[hv1];simp
 replace k1:=k1.below ha1 k1.lt
 replace hb0:=hb0.trans (ha1.mono hb0.size)
 rw[hs0] at k2
 go_enter Tryz.func124,Tryz.ntmps124
 go_upto_region 1 with fail
 rw[←hv0, ←hv1]
 clear hv0 hs0 ha0 hv1 hs1 ha1
 replace h:=h.below hb0
 obtain⟨k1c0,k1c1,k1c2,k1z,k1f0,k1f1,k1f2⟩:=k1.b3
 obtain⟨k2c0,k2c1,k2c2,k2z,k2f0,k2f1,k2f2⟩:=k2.b3
 go_wp2_with fail
 clear k1c0 k1f0 k1c1 k1f1 k1c2 k1f2 k2c0 k2f0 k2c1 k2f1 k2c2 k2f2 k1z k2z
 refine(hCh _ h).mono ?_
 rintro e w1 ⟨rfl,hb1⟩
 replace k1:=k1.below hb1 k1.lt
 replace k2:=k2.below hb1 k2.lt
 replace hb0:=hb0.trans (hb1.mono hb0.size)
 replace h:=h.below hb1
 clear hb1
 obtain⟨k1c0,k1c1,k1c2,k1z,k1f0,k1f1,k1f2⟩:=k1.b3
 obtain⟨k2c0,k2c1,k2c2,k2z,k2f0,k2f1,k2f2⟩:=k2.b3
 go_wp2_with fail
 clear k1c0 k1f0 k1c1 k1f1 k1c2 k1f2 k2c0 k2f0 k2c1 k2f1 k2c2 k2f2 k1z k2z
 have z5:=k2.lt
 refine(hU1 _ h).mono ?_
 rintro e w2 ⟨A1,d1,rfl,own1,hb2⟩
 replace k1:=k1.below hb2 k1.lt
 replace k2:=k2.below hb2 k2.lt
 replace hb0:=hb0.trans (hb2.mono hb0.size)
 replace h:=h.below hb2
 clear hb2
 obtain⟨k1c0,k1c1,k1c2,k1z,k1f0,k1f1,k1f2⟩:=k1.b3
 obtain⟨k2c0,k2c1,k2c2,k2z,k2f0,k2f1,k2f2⟩:=k2.b3
 go_upto_region 5 with fail
 clear k1c0 k1f0 k1c1 k1f1 k1c2 k1f2 k2c0 k2f0 k2c1 k2f1 k2c2 k2f2 k1z k2z
 obtain⟨v,hxx2,hx2,k5⟩:=Blk.al w2 67 #[.slice A1 (limbs N).length d1]
 rw[←hxx2]
 clear hxx2
 replace k1:=k1.below hx2 k1.lt
 replace k2:=k2.below hx2 k2.lt
 replace hb0:=hb0.trans (hx2.mono hb0.size)
 replace own1:=own1.below hx2 nrf
 clear hx2 h
 have s0:v.cell? ⟨w.heap.size,2,none⟩=some (.int .i64 (x:Int)):=k1.cell 2
 have s0z:=k1.lt
 have C0:Obj:=.cells #[.slice none 0 0] 67
 go_cut [6,7] (fun v6 v7 wx=>∃(gp:Nat) (B:Option Addr) (k:Nat),v6=.pointer (some ⟨gp,0,none⟩)∧v7=.int .i64 0∧v.heap.size≤gp∧Blk wx gp 67 #[.slice B (limbs D).length k]∧Own wx 153 v.heap.size B k (limbs D)∧Below v.heap.size v wx)
 case first=>
  have nz:v.heap.size<(v.drew.alloc (.cells #[.slice none 0 0] 67)).heap.size:=by simp
  have kz:Blk (v.drew.alloc (.cells #[.slice none 0 0] 67)) v.heap.size 67 #[.slice none 0 0]:=Blk.new v.drew _ _
  have bz:Below v.heap.size v (v.drew.alloc (.cells #[.slice none 0 0] 67)):=(Below.drew (Below.refl _ _)).alloc nrf _
  have b0:Below v.heap.size v v.drew:=Below.drew (Below.refl _ _)
  go_region_held3 (fun w'=>w'.cell? ⟨w.heap.size,2,none⟩=some (.int .i64 (x:Int)))
   (first|exact s0|exact cell_keep bz s0|exact e5|exact(World.cell?_alloc_lt _ _ _ z5).trans e5|exact e6|exact(World.cell?_alloc_lt _ _ _ z6).trans e6|exact set_keep e6 z5|exact set_keep e6 s0z|go_keep)
   (first
   |(go_at_call 167
     (with_reducible refine(hOf _).mono ?_)
     rintro r w5 ⟨A2,c2,rfl,own2,hb5⟩
     have hw5:Below v.heap.size v w5:=by first|exact b0.trans hb5|exact bz.trans (hb5.mono (Nat.le_of_lt nz))
     have e5:=cell_keep hw5 s0
     have z5:=cell_lt e5
     have zz5:=hw5.size
     try (have kp5:Blk w5 v.heap.size 67 #[.slice none 0 0]:=kz.below hb5 nz))
   |(go_at_call 172
     (first|simp only[hif]|simp only[hif2]|skip)
     (with_reducible refine(hU2 A2 c2 _ own2.rd).mono ?_)
     rintro r w6 ⟨B,k,rfl,own3,hb6⟩
     have hw6:Below w5.heap.size w5 w6:=by first|exact hb6|exact((Below.refl _ _).alloc nrf _).trans (hb6.mono (by simp))
     have e6:=cell_keep hw6 e5
     have z6:=cell_lt e6
     have hw06:=hw5.trans (hw6.mono zz5)
     have own4:Own w6 153 w5.heap.size B k (limbs D):=by first|exact own3|exact own3.mono (by simp)
     first
      |(have kp6:Blk w6 v.heap.size 67 #[.slice none 0 0]:=kp5.below hw6 kp5.lt
        have zkp:=kp5.lt
        have p60:w6.cell? ⟨v.heap.size,0,none⟩=some (.slice none 0 0):=kp6.cell 0
        have p60f:=kp6.frozen 0
        have p6z:=kp6.lt)
      |(have kp6:Blk w6 w5.heap.size 67 #[.slice none 0 0]:=(Blk.new w5 _ _).below hb6 (by simp)
        have own5:Own w6 153 (w5.heap.size+1) B k (limbs D):=own3.mono (by simp)
        have p60:w6.cell? ⟨w5.heap.size,0,none⟩=some (.slice none 0 0):=kp6.cell 0
        have p60f:=kp6.frozen 0
        have p6z:=kp6.lt)
      |skip)
   |(go_at_call 172
     (first|simp only[hif]|simp only[hif2]|skip)
     (with_reducible refine(hU2 A2 c2 _ (own2.alloc _).rd).mono ?_)
     rintro r w6 ⟨B,k,rfl,own3,hb6⟩
     have hw6:Below w5.heap.size w5 w6:=by first|exact hb6|exact((Below.refl _ _).alloc nrf _).trans (hb6.mono (by simp))
     have e6:=cell_keep hw6 e5
     have z6:=cell_lt e6
     have hw06:=hw5.trans (hw6.mono zz5)
     have own4:Own w6 153 w5.heap.size B k (limbs D):=by first|exact own3|exact own3.mono (by simp)
     first
      |(have kp6:Blk w6 v.heap.size 67 #[.slice none 0 0]:=kp5.below hw6 kp5.lt
        have zkp:=kp5.lt
        have p60:w6.cell? ⟨v.heap.size,0,none⟩=some (.slice none 0 0):=kp6.cell 0
        have p60f:=kp6.frozen 0
        have p6z:=kp6.lt)
      |(have kp6:Blk w6 w5.heap.size 67 #[.slice none 0 0]:=(Blk.new w5 _ _).below hb6 (by simp)
        have own5:Own w6 153 (w5.heap.size+1) B k (limbs D):=own3.mono (by simp)
        have p60:w6.cell? ⟨w5.heap.size,0,none⟩=some (.slice none 0 0):=kp6.cell 0
        have p60f:=kp6.frozen 0
        have p6z:=kp6.lt)
      |skip)
   |fail)
  all_goals (go_wp2_with fail;go_meet)
  all_goals (first
   |exact⟨_,_,_,rfl,rfl,hw06.size,Blk.new _ _ _,(own4.alloc _).mono zz5,hw06.alloc hw06.size _⟩
   |exact⟨_,_,_,rfl,rfl,zz5,kp6.set_ 0 _,(own5.setCell (by simp) _).mono (by omega),hw06.setCell zz5 _⟩
   |exact⟨_,_,_,rfl,rfl,Nat.le_refl _,kp6.set_ 0 _,(own4.setCell zkp _).mono zz5,hw06.setCell nrf _⟩)
 case rest=>
  obtain⟨gp,B,k,rfl,rfl,hgp,k6,own2,hbc⟩:=hcut
  have hgp2:w.heap.size+1≠gp:=by have:=k2.lt;omega
  have z4:=k2.lt
  replace hb0:=hb0.trans (hbc.mono hb0.size)
  replace k1:=k1.below hbc k1.lt
  replace k2:=k2.below hbc k2.lt
  replace k5:=k5.below hbc k5.lt
  replace own1:=own1.below hbc nrf
  clear hbc s0 s0z
  obtain⟨k1c0,k1c1,k1c2,k1z,k1f0,k1f1,k1f2⟩:=k1.b3
  obtain⟨k2c0,k2c1,k2c2,k2z,k2f0,k2f1,k2f2⟩:=k2.b3
  obtain⟨k5c0,k5z,k5f0⟩:=k5.b1
  obtain⟨k6c0,k6z,k6f0⟩:=k6.b1
  go_wp2
  refine bodyPost_ret (v:=.tuple #[.agg #[.bool false,.slice A1 (limbs N).length d1,.slice B (limbs D).length k],.int .i64 0]) ?_ rfl ⟨A1,d1,B,k,rfl,(((own1.setCell z5 _).setCell z5 _).setCell z5 _).mono (by omega),(((own2.setCell z4 _).setCell z4 _).setCell z4 _).mono (by omega),(bel3 hb0 (w.heap.size+1) (by simp))⟩
  refine results_cell_tmp rfl _ _ (w.heap.size+1) _ _ _ _ _ ?_ ?_ (((k2.set_ 0 _).set_ 1 _).set_ 2 _) Tryz.underlying69 rfl (by kernel_rfl)
  · rfl
  · rfl
theorem ratio_core_neg (A:Option Addr) (K c x N D:Nat) (hx:x≤1000000) (hx0:0<x)
 (hCh:∀W,Rd W A (limbs K)→Calls Tryz.prog 178 #[.agg #[.bool false,.slice A (limbs K).length c,.int .i64 (-(x:Int))]] W (Says W (.int .i64 0)))
 (hU1:∀W,Rd W A (limbs K)→Calls Tryz.prog 172 #[.agg #[.slice A (limbs K).length c],.int .i64 0] W (NatAns 153 W (limbs N,0)))
 (hOf:∀W,Calls Tryz.prog 167 #[.int .u64 1] W (NatOne 153 W (limbs 1)))
 (hU2:∀A2 c2 W,Rd W A2 (limbs 1)→Calls Tryz.prog 172 #[.agg #[.slice A2 (limbs 1).length c2],.int .i64 (x:Int)] W (NatAns 153 W (limbs D,0)))
 (w:World) (h:Rd w A (limbs K)):
 Calls Tryz.prog 124 #[.agg #[.bool false,.slice A (limbs K).length c,.int .i64 (-(x:Int))]] w (RatA w N D):=by
 have hm1:max (-(x:Int)) 0=0:=by omega
 have hm1':max 0 (-(x:Int))=0:=by omega
 have hm2:max (-(-(x:Int))) 0=(x:Int):=by omega
 have hm3:max (IntKind.i64.wrap (-(-(x:Int)))) 0=(x:Int):=by rw[IntKind.wrap_i64];omega
 have hif:(if IntKind.i64.wrap (-(-(x:Int)))<0 then 0 else IntKind.i64.wrap (-(-(x:Int))))=(x:Int):=by rw[IntKind.wrap_i64];split <;> omega
 have hif2:(if IntKind.i64.wrap (x:Int)<0 then 0 else IntKind.i64.wrap (x:Int))=(x:Int):=by rw[IntKind.wrap_i64];split <;> omega
 obtain⟨v0,hv0,ha0,k1⟩:=Blk.al w 117 #[.bool false,.slice A (limbs K).length c,.int .i64 (-(x:Int))]
 have hs0:v0.heap.size=w.heap.size+1:=by rw[hv0];simp
 have hb0:=ha0
 obtain⟨v1,hv1,ha1,k2⟩:=Blk.al v0 69 #[.bool false,.slice none 0 0,.slice none 0 0]
 have hs1:v1.heap.size=v0.heap.size+1:=by rw[hv1];simp
 replace k1:=k1.below ha1 k1.lt
 replace hb0:=hb0.trans (ha1.mono hb0.size)
 rw[hs0] at k2
 go_enter Tryz.func124,Tryz.ntmps124
 go_upto_region 1 with fail
 rw[←hv0, ←hv1]
 clear hv0 hs0 ha0 hv1 hs1 ha1
 replace h:=h.below hb0
 obtain⟨k1c0,k1c1,k1c2,k1z,k1f0,k1f1,k1f2⟩:=k1.b3
 obtain⟨k2c0,k2c1,k2c2,k2z,k2f0,k2f1,k2f2⟩:=k2.b3
 go_wp2_with fail
 clear k1c0 k1f0 k1c1 k1f1 k1c2 k1f2 k2c0 k2f0 k2c1 k2f1 k2c2 k2f2 k1z k2z
 refine(hCh _ h).mono ?_
 rintro e w1 ⟨rfl,hb1⟩
 replace k1:=k1.below hb1 k1.lt
 replace k2:=k2.below hb1 k2.lt
 replace hb0:=hb0.trans (hb1.mono hb0.size)
 replace h:=h.below hb1
 clear hb1
 obtain⟨k1c0,k1c1,k1c2,k1z,k1f0,k1f1,k1f2⟩:=k1.b3
 obtain⟨k2c0,k2c1,k2c2,k2z,k2f0,k2f1,k2f2⟩:=k2.b3
 go_wp2_with fail
 clear k1c0 k1f0 k1c1 k1f1 k1c2 k1f2 k2c0 k2f0 k2c1 k2f1 k2c2 k2f2 k1z k2z
 have z5:=k2.lt
 refine(hU1 _ h).mono ?_
 rintro e w2 ⟨A1,d1,rfl,own1,hb2⟩
 replace k1:=k1.below hb2 k1.lt
 replace k2:=k2.below hb2 k2.lt
 replace hb0:=hb0.trans (hb2.mono hb0.size)
 replace h:=h.below hb2
 clear hb2
 obtain⟨k1c0,k1c1,k1c2,k1z,k1f0,k1f1,k1f2⟩:=k1.b3
 obtain⟨k2c0,k2c1,k2c2,k2z,k2f0,k2f1,k2f2⟩:=k2.b3
 go_upto_region 5 with fail
 clear k1c0 k1f0 k1c1 k1f1 k1c2 k1f2 k2c0 k2f0 k2c1 k2f1 k2c2 k2f2 k1z k2z
 obtain⟨v,hxx2,hx2,k5⟩:=Blk.al w2 67 #[.slice A1 (limbs N).length d1]
 rw[←hxx2]
 clear hxx2
 replace k1:=k1.below hx2 k1.lt
 replace k2:=k2.below hx2 k2.lt
 replace hb0:=hb0.trans (hx2.mono hb0.size)
 replace own1:=own1.below hx2 nrf
 clear hx2 h
 have s0:v.cell? ⟨w.heap.size,2,none⟩=some (.int .i64 (-(x:Int))):=k1.cell 2
 have s0z:=k1.lt
 have C0:Obj:=.cells #[.slice none 0 0] 67
 go_cut [6,7] (fun v6 v7 wx=>∃(gp:Nat) (B:Option Addr) (k:Nat),v6=.pointer (some ⟨gp,0,none⟩)∧v7=.int .i64 0∧v.heap.size≤gp∧Blk wx gp 67 #[.slice B (limbs D).length k]∧Own wx 153 v.heap.size B k (limbs D)∧Below v.heap.size v wx)
 case first=>
  have nz:v.heap.size<(v.drew.alloc (.cells #[.slice none 0 0] 67)).heap.size:=by simp
  have kz:Blk (v.drew.alloc (.cells #[.slice none 0 0] 67)) v.heap.size 67 #[.slice none 0 0]:=Blk.new v.drew _ _
  have bz:Below v.heap.size v (v.drew.alloc (.cells #[.slice none 0 0] 67)):=(Below.drew (Below.refl _ _)).alloc nrf _
  have b0:Below v.heap.size v v.drew:=Below.drew (Below.refl _ _)
  go_region_held3 (fun w'=>w'.cell? ⟨w.heap.size,2,none⟩=some (.int .i64 (-(x:Int))))
   (first|exact s0|exact cell_keep bz s0|exact e5|exact(World.cell?_alloc_lt _ _ _ z5).trans e5|exact e6|exact(World.cell?_alloc_lt _ _ _ z6).trans e6|exact set_keep e6 z5|exact set_keep e6 s0z|go_keep)
   (first
   |(go_at_call 167
     (with_reducible refine(hOf _).mono ?_)
     rintro r w5 ⟨A2,c2,rfl,own2,hb5⟩
     have hw5:Below v.heap.size v w5:=by first|exact b0.trans hb5|exact bz.trans (hb5.mono (Nat.le_of_lt nz))
     have e5:=cell_keep hw5 s0
     have z5:=cell_lt e5
     have zz5:=hw5.size
     try (have kp5:Blk w5 v.heap.size 67 #[.slice none 0 0]:=kz.below hb5 nz))
   |(go_at_call 172
     (first|simp only[hif]|simp only[hif2]|skip)
     (with_reducible refine(hU2 A2 c2 _ own2.rd).mono ?_)
     rintro r w6 ⟨B,k,rfl,own3,hb6⟩
     have hw6:Below w5.heap.size w5 w6:=by first|exact hb6|exact((Below.refl _ _).alloc nrf _).trans (hb6.mono (by simp))
     have e6:=cell_keep hw6 e5
     have z6:=cell_lt e6
     have hw06:=hw5.trans (hw6.mono zz5)
     have own4:Own w6 153 w5.heap.size B k (limbs D):=by first|exact own3|exact own3.mono (by simp)
     first
      |(have kp6:Blk w6 v.heap.size 67 #[.slice none 0 0]:=kp5.below hw6 kp5.lt
        have zkp:=kp5.lt
        have p60:w6.cell? ⟨v.heap.size,0,none⟩=some (.slice none 0 0):=kp6.cell 0
        have p60f:=kp6.frozen 0
        have p6z:=kp6.lt)
      |(have kp6:Blk w6 w5.heap.size 67 #[.slice none 0 0]:=(Blk.new w5 _ _).below hb6 (by simp)
        have own5:Own w6 153 (w5.heap.size+1) B k (limbs D):=own3.mono (by simp)
        have p60:w6.cell? ⟨w5.heap.size,0,none⟩=some (.slice none 0 0):=kp6.cell 0
        have p60f:=kp6.frozen 0
        have p6z:=kp6.lt)
      |skip)
   |(go_at_call 172
     (first|simp only[hif]|simp only[hif2]|skip)
     (with_reducible refine(hU2 A2 c2 _ (own2.alloc _).rd).mono ?_)
     rintro r w6 ⟨B,k,rfl,own3,hb6⟩
     have hw6:Below w5.heap.size w5 w6:=by first|exact hb6|exact((Below.refl _ _).alloc nrf _).trans (hb6.mono (by simp))
     have e6:=cell_keep hw6 e5
     have z6:=cell_lt e6
     have hw06:=hw5.trans (hw6.mono zz5)
     have own4:Own w6 153 w5.heap.size B k (limbs D):=by first|exact own3|exact own3.mono (by simp)
     first
      |(have kp6:Blk w6 v.heap.size 67 #[.slice none 0 0]:=kp5.below hw6 kp5.lt
        have zkp:=kp5.lt
        have p60:w6.cell? ⟨v.heap.size,0,none⟩=some (.slice none 0 0):=kp6.cell 0
        have p60f:=kp6.frozen 0
        have p6z:=kp6.lt)
      |(have kp6:Blk w6 w5.heap.size 67 #[.slice none 0 0]:=(Blk.new w5 _ _).below hb6 (by simp)
        have own5:Own w6 153 (w5.heap.size+1) B k (limbs D):=own3.mono (by simp)
        have p60:w6.cell? ⟨w5.heap.size,0,none⟩=some (.slice none 0 0):=kp6.cell 0
        have p60f:=kp6.frozen 0
        have p6z:=kp6.lt)
      |skip)
   |fail)
  all_goals (go_wp2_with fail;go_meet)
  all_goals (first
   |exact⟨_,_,_,rfl,rfl,hw06.size,Blk.new _ _ _,(own4.alloc _).mono zz5,hw06.alloc hw06.size _⟩
   |exact⟨_,_,_,rfl,rfl,zz5,kp6.set_ 0 _,(own5.setCell (by simp) _).mono (by omega),hw06.setCell zz5 _⟩
   |exact⟨_,_,_,rfl,rfl,Nat.le_refl _,kp6.set_ 0 _,(own4.setCell zkp _).mono zz5,hw06.setCell nrf _⟩)
 case rest=>
  obtain⟨gp,B,k,rfl,rfl,hgp,k6,own2,hbc⟩:=hcut
  have hgp2:w.heap.size+1≠gp:=by have:=k2.lt;omega
  have z4:=k2.lt
  replace hb0:=hb0.trans (hbc.mono hb0.size)
  replace k1:=k1.below hbc k1.lt
  replace k2:=k2.below hbc k2.lt
  replace k5:=k5.below hbc k5.lt
  replace own1:=own1.below hbc nrf
  clear hbc s0 s0z
  obtain⟨k1c0,k1c1,k1c2,k1z,k1f0,k1f1,k1f2⟩:=k1.b3
  obtain⟨k2c0,k2c1,k2c2,k2z,k2f0,k2f1,k2f2⟩:=k2.b3
  obtain⟨k5c0,k5z,k5f0⟩:=k5.b1
  obtain⟨k6c0,k6z,k6f0⟩:=k6.b1
  go_wp2
  refine bodyPost_ret (v:=.tuple #[.agg #[.bool false,.slice A1 (limbs N).length d1,.slice B (limbs D).length k],.int .i64 0]) ?_ rfl ⟨A1,d1,B,k,rfl,(((own1.setCell z5 _).setCell z5 _).setCell z5 _).mono (by omega),(((own2.setCell z4 _).setCell z4 _).setCell z4 _).mono (by omega),(bel3 hb0 (w.heap.size+1) (by simp))⟩
  refine results_cell_tmp rfl _ _ (w.heap.size+1) _ _ _ _ _ ?_ ?_ (((k2.set_ 0 _).set_ 1 _).set_ 2 _) Tryz.underlying69 rfl (by kernel_rfl)
  · rfl
  · rfl
end Bg
end Go.Proofs.YtenekbfnlbipiaaGreatDoor
