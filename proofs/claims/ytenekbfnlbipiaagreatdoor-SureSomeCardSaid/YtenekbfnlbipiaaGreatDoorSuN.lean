/- Walk: the scale for so many digits. -/
import Derived.Test.YtenekbfnlbipiaaGreatDoorSuM
import Derived.Test.YtenekbfnlbipiaaGreatDoorSuL
namespace Go.Proofs.YtenekbfnlbipiaaGreatDoor
open Go.RowKit
set_option linter.unusedVariables false
set_option linter.unusedSimpArgs false
set_option maxHeartbeats 4000000
set_option maxRecDepth 100000
theorem results_cell_tmp {P:Program} {fn:Func} {p q:Tmp} {ty:TypeId} (h:fn.results=#[.cell p ty,.tmp q]) (tmps:Array Value) (w:World) (g:Nat) (t:TypeId) (cs:Array Value) (fr:Nat × Nat) (d:TypeDesc) (y:Value)
 (hp:tmps.getD p undef=.pointer (some ⟨g,0,none⟩)) (hq:tmps.getD q undef=y) (hg:w.heap[g]?=some (.cells cs t fr))
 (hu:P.underlying ty=some d) (hd:(match d with| .struct _| .array _ _=>true|_=>false)=true) (hi:(P.info? ty).map (·.size)=some cs.size):
 (results fn tmps).run P w=.ok (.tuple #[.agg cs,y]) w:=by
 subst hq
 have hp':tmps[p]?.getD undef=.pointer (some ⟨g,0,none⟩):=by simpa using hp
 simp[results,h,hp',asAddr,run_loadVar_row w g t ty cs fr d hg hu hd hi]
theorem results_cells_tmp {P:Program} {fn:Func} {p p2 q:Tmp} {ty ty2:TypeId} (h:fn.results=#[.cell p ty,.cell p2 ty2,.tmp q]) (tmps:Array Value) (w:World) (g g2:Nat) (t t2:TypeId) (cs cs2:Array Value) (fr fr2:Nat × Nat) (d d2:TypeDesc) (y:Value)
 (hp:tmps.getD p undef=.pointer (some ⟨g,0,none⟩)) (hp2:tmps.getD p2 undef=.pointer (some ⟨g2,0,none⟩)) (hq:tmps.getD q undef=y) (hg:w.heap[g]?=some (.cells cs t fr)) (hg2:w.heap[g2]?=some (.cells cs2 t2 fr2))
 (hu:P.underlying ty=some d) (hd:(match d with| .struct _| .array _ _=>true|_=>false)=true) (hi:(P.info? ty).map (·.size)=some cs.size)
 (hu2:P.underlying ty2=some d2) (hd2:(match d2 with| .struct _| .array _ _=>true|_=>false)=true) (hi2:(P.info? ty2).map (·.size)=some cs2.size):
 (results fn tmps).run P w=.ok (.tuple #[.agg cs,.agg cs2,y]) w:=by
 subst hq
 have hp':tmps[p]?.getD undef=.pointer (some ⟨g,0,none⟩):=by simpa using hp
 have hp2':tmps[p2]?.getD undef=.pointer (some ⟨g2,0,none⟩):=by simpa using hp2
 simp[results,h,hp',hp2',asAddr,run_loadVar_row w g t ty cs fr d hg hu hd hi,run_loadVar_row w g2 t2 ty2 cs2 fr2 d2 hg2 hu2 hd2 hi2]
theorem W4_lo {v c d:Nat} (hc:c<18446744073709551616) (hd:d<18446744073709551616) (h:v=c*18446744073709551616+d):W4 v=#[.int .u64 0,.int .u64 0,.int .u64 (c:Int),.int .u64 (d:Int)]:=
 W4_of (a:=0) (b:=0) (by decide) hc hd (by decide) (by rw[h,Nat.zero_mul,Nat.zero_add])
def kB (k:Int):Nat:=tenN k+(if tenX k then 0 else 1)

theorem sure_at (p n s:Int) (hp1: -1000≤p) (hp2:p≤1000) (hn1:0≤n) (hn2:n≤100) (hsv:s=p+1-n) (hf:farB (-s)=false) (w:World) (hT:Tab5 w):
 Calls Tryz.prog 12 #[.int .i64 p,.int .i64 n] w (Says w (.tuple #[.agg (W4 (tenN (-s))++W4 (kB (-s))++#[.int .i64 (tenE (-s)),.int .i64 s]),.int .i64 0])):=by
 have hTe:=fun W hT=>power_Ten (-s) W hT
 have hWh:=fun W hT=>power_Whole (-s) W hT
 have e2:(tenHi (-s)=tenN (-s)/18446744073709551616)∧(tenLo (-s)=tenN (-s)%18446744073709551616)∧tenEr (-s)=0∧tenEx (-s)=tenE (-s)∧wholeB (-s)=tenX (-s):=by
  unfold tenHi tenLo tenEr tenEx wholeB;rw[hf];exact⟨rfl,rfl,rfl,rfl,rfl⟩
 rw[e2.1,e2.2.1,e2.2.2.1,e2.2.2.2.1] at hTe
 rw[e2.2.2.1,e2.2.2.2.2] at hWh
 have hbd:=(tenN_bd hf).2
 have hs1: -400≤s∧s≤400:=by
  simp only[farB,Bool.or_eq_false_iff,decide_eq_false_iff_not] at hf;omega
 clear e2
 unfold kB
 generalize tenE (-s)=X at hTe ⊢
 generalize tenN (-s)=T at hTe hbd ⊢
 have h128:(2:Nat)^128=340282366920938463463374607431768211456:=rfl
 rw[h128] at hbd
 have hNx:=fun W=>sure_next T hbd W
 obtain⟨H,hH⟩:∃a,a=T/18446744073709551616:=⟨_,rfl⟩
 obtain⟨L,hL⟩:∃a,a=T%18446744073709551616:=⟨_,rfl⟩
 have hW:=W4_lo (v:=T) (c:=H) (d:=L) (by omega) (by omega) (by omega)
 rw[hW] at hNx
 rw[←hH, ←hL] at hTe
 have hk: -(p+1-n)= -s:=by omega
 have hb0:Below w.heap.size w w:=Below.refl _ _
 clear hH hL hf h128 hbd
 subst hsv
 cases hX:tenX (-(p+1-n))
 · rw[hX] at hWh
   rw[if_neg (by decide)]
   obtain⟨y0,y1,y2,y3,hy⟩:∃y0 y1 y2 y3:Nat,W4 (T+1)=#[.int .u64 (y0:Int),.int .u64 (y1:Int),.int .u64 (y2:Int),.int .u64 (y3:Int)]:=⟨_,_,_,_,rfl⟩
   rw[hy] at hNx ⊢
   rw[hW]
   clear hy hW hX
   show Calls _ _ _ _ (Says w (.tuple #[.agg #[.int .u64 0,.int .u64 0,.int .u64 (H:Int),.int .u64 (L:Int),.int .u64 (y0:Int),.int .u64 (y1:Int),.int .u64 (y2:Int),.int .u64 (y3:Int),.int .i64 X,.int .i64 (p+1-n)],.int .i64 0]))
   go_enter Tryz.func12,Tryz.ntmps12
   go_wp2_with fail
   obtain⟨v1,E_,hv1,k1⟩:=Blk.a1 w 45 #[.int .u64 0,.int .u64 0,.int .u64 0,.int .u64 0,.int .u64 0,.int .u64 0,.int .u64 0,.int .u64 0,.int .i64 0,.int .i64 0]
   replace hb0:=hb0.trans (hv1.mono hb0.size)
   replace hT:=hT.below hv1
   rw[E_]
   clear hv1 E_
   refine(hTe _ hT).mono ?_
   rintro e w2 ⟨rfl,hb2⟩
   replace hb0:=hb0.trans (hb2.mono hb0.size)
   replace hT:=hT.below hb2
   replace k1:=k1.below hb2 k1.lt
   clear hb2
   have k1c0:=k1.cell 0
   have k1f0:=k1.frozen 0
   have k1c1:=k1.cell 1
   have k1f1:=k1.frozen 1
   have k1c2:=k1.cell 2
   have k1f2:=k1.frozen 2
   have k1c3:=k1.cell 3
   have k1f3:=k1.frozen 3
   have k1c4:=k1.cell 4
   have k1f4:=k1.frozen 4
   have k1c5:=k1.cell 5
   have k1f5:=k1.frozen 5
   have k1c6:=k1.cell 6
   have k1f6:=k1.frozen 6
   have k1c7:=k1.cell 7
   have k1f7:=k1.frozen 7
   have k1c8:=k1.cell 8
   have k1f8:=k1.frozen 8
   have k1c9:=k1.cell 9
   have k1f9:=k1.frozen 9
   have k1z:=k1.lt
   simp only[geCells] at k1c0 k1c1 k1c2 k1c3 k1c4 k1c5 k1c6 k1c7 k1c8 k1c9
   go_wp2_with fail
   clear k1c0 k1f0 k1c1 k1f1 k1c2 k1f2 k1c3 k1f3 k1c4 k1f4 k1c5 k1f5 k1c6 k1f6 k1c7 k1f7 k1c8 k1f8 k1c9 k1f9 k1z
   refine(hWh _ hT).mono ?_
   rintro e w3 ⟨rfl,hb3⟩
   replace hb0:=hb0.trans (hb3.mono hb0.size)
   replace hT:=hT.below hb3
   replace k1:=k1.below hb3 k1.lt
   clear hb3
   go_upto_region 7 with fail
   obtain⟨B,hB⟩:∃B,B=w3.heap.size:=⟨_,rfl⟩
   have k1z:=k1.lt
   have hBz:w.heap.size<B:=by omega
   have k2:Blk (w3.alloc (.cells #[.int .u64 0,.int .u64 0,.int .u64 (H:Int),.int .u64 (L:Int),.int .u64 0,.int .u64 0,.int .u64 0,.int .u64 0,.int .i64 X,.int .i64 (p+1-n)] 45)) B 45 #[.int .u64 0,.int .u64 0,.int .u64 (H:Int),.int .u64 (L:Int),.int .u64 0,.int .u64 0,.int .u64 0,.int .u64 0,.int .i64 X,.int .i64 (p+1-n)]:=by rw[hB];exact Blk.new w3 45 #[.int .u64 0,.int .u64 0,.int .u64 (H:Int),.int .u64 (L:Int),.int .u64 0,.int .u64 0,.int .u64 0,.int .u64 0,.int .i64 X,.int .i64 (p+1-n)]
   replace k1:=k1.alloc (.cells #[.int .u64 0,.int .u64 0,.int .u64 (H:Int),.int .u64 (L:Int),.int .u64 0,.int .u64 0,.int .u64 0,.int .u64 0,.int .i64 X,.int .i64 (p+1-n)] 45)
   replace hb0:=hb0.alloc (o:=.cells #[.int .u64 0,.int .u64 0,.int .u64 (H:Int),.int .u64 (L:Int),.int .u64 0,.int .u64 0,.int .u64 0,.int .u64 0,.int .i64 X,.int .i64 (p+1-n)] 45) (by omega)
   rw[←hB]
   have hne:w.heap.size≠B:=by omega
   have hle:w.heap.size≤B:=by omega
   generalize (w3.alloc (.cells #[.int .u64 0,.int .u64 0,.int .u64 (H:Int),.int .u64 (L:Int),.int .u64 0,.int .u64 0,.int .u64 0,.int .u64 0,.int .i64 X,.int .i64 (p+1-n)] 45))=v9 at*
   clear hB k1z
   have k1c0:=k1.cell 0
   have k1f0:=k1.frozen 0
   have k1c1:=k1.cell 1
   have k1f1:=k1.frozen 1
   have k1c2:=k1.cell 2
   have k1f2:=k1.frozen 2
   have k1c3:=k1.cell 3
   have k1f3:=k1.frozen 3
   have k1c4:=k1.cell 4
   have k1f4:=k1.frozen 4
   have k1c5:=k1.cell 5
   have k1f5:=k1.frozen 5
   have k1c6:=k1.cell 6
   have k1f6:=k1.frozen 6
   have k1c7:=k1.cell 7
   have k1f7:=k1.frozen 7
   have k1c8:=k1.cell 8
   have k1f8:=k1.frozen 8
   have k1c9:=k1.cell 9
   have k1f9:=k1.frozen 9
   have k1z:=k1.lt
   have k2c0:=k2.cell 0
   have k2f0:=k2.frozen 0
   have k2c1:=k2.cell 1
   have k2f1:=k2.frozen 1
   have k2c2:=k2.cell 2
   have k2f2:=k2.frozen 2
   have k2c3:=k2.cell 3
   have k2f3:=k2.frozen 3
   have k2c4:=k2.cell 4
   have k2f4:=k2.frozen 4
   have k2c5:=k2.cell 5
   have k2f5:=k2.frozen 5
   have k2c6:=k2.cell 6
   have k2f6:=k2.frozen 6
   have k2c7:=k2.cell 7
   have k2f7:=k2.frozen 7
   have k2c8:=k2.cell 8
   have k2f8:=k2.frozen 8
   have k2c9:=k2.cell 9
   have k2f9:=k2.frozen 9
   have k2z:=k2.lt
   simp only[geCells] at k1c0 k1c1 k1c2 k1c3 k1c4 k1c5 k1c6 k1c7 k1c8 k1c9 k2c0 k2c1 k2c2 k2c3 k2c4 k2c5 k2c6 k2c7 k2c8 k2c9
   go_upto_region 8 with fail
   clear k1c0 k1f0 k1c1 k1f1 k1c2 k1f2 k1c3 k1f3 k1c4 k1f4 k1c5 k1f5 k1c6 k1f6 k1c7 k1f7 k1c8 k1f8 k1c9 k1f9 k1z k2c0 k2f0 k2c1 k2f1 k2c2 k2f2 k2c3 k2f3 k2c4 k2f4 k2c5 k2f5 k2c6 k2f6 k2c7 k2f7 k2c8 k2f8 k2c9 k2f9 k2z
   refine(fun (HH:∀W,Blk W (w.heap.size) 45 #[.int .u64 0,.int .u64 0,.int .u64 0,.int .u64 0,.int .u64 0,.int .u64 0,.int .u64 0,.int .u64 0,.int .i64 0,.int .i64 0]∧Blk W (B) 45 #[.int .u64 0,.int .u64 0,.int .u64 (H:Int),.int .u64 (L:Int),.int .u64 0,.int .u64 0,.int .u64 (H:Int),.int .u64 (L:Int),.int .i64 X,.int .i64 (p+1-n)]∧Below w.heap.size w W→Code.wp _ _ _ _ W)=>HH _ ⟨by exact((((k1.far (p:=⟨B,4,none⟩) (by exact hne) _).far (p:=⟨B,5,none⟩) (by exact hne) _).far (p:=⟨B,6,none⟩) (by exact hne) _).far (p:=⟨B,7,none⟩) (by exact hne) _),by exact((((k2.set_ 4 _).set_ 5 _).set_ 6 _).set_ 7 _),by exact((((hb0.setCell (p:=⟨B,4,none⟩) (by exact hle) _).setCell (p:=⟨B,5,none⟩) (by exact hle) _).setCell (p:=⟨B,6,none⟩) (by exact hle) _).setCell (p:=⟨B,7,none⟩) (by exact hle) _)⟩) ?_
   clear k1 k2 hb0
   rintro w8 ⟨k1,k2,hb0⟩
   have k1c0:=k1.cell 0
   have k1f0:=k1.frozen 0
   have k1c1:=k1.cell 1
   have k1f1:=k1.frozen 1
   have k1c2:=k1.cell 2
   have k1f2:=k1.frozen 2
   have k1c3:=k1.cell 3
   have k1f3:=k1.frozen 3
   have k1c4:=k1.cell 4
   have k1f4:=k1.frozen 4
   have k1c5:=k1.cell 5
   have k1f5:=k1.frozen 5
   have k1c6:=k1.cell 6
   have k1f6:=k1.frozen 6
   have k1c7:=k1.cell 7
   have k1f7:=k1.frozen 7
   have k1c8:=k1.cell 8
   have k1f8:=k1.frozen 8
   have k1c9:=k1.cell 9
   have k1f9:=k1.frozen 9
   have k1z:=k1.lt
   have k2c0:=k2.cell 0
   have k2f0:=k2.frozen 0
   have k2c1:=k2.cell 1
   have k2f1:=k2.frozen 1
   have k2c2:=k2.cell 2
   have k2f2:=k2.frozen 2
   have k2c3:=k2.cell 3
   have k2f3:=k2.frozen 3
   have k2c4:=k2.cell 4
   have k2f4:=k2.frozen 4
   have k2c5:=k2.cell 5
   have k2f5:=k2.frozen 5
   have k2c6:=k2.cell 6
   have k2f6:=k2.frozen 6
   have k2c7:=k2.cell 7
   have k2f7:=k2.frozen 7
   have k2c8:=k2.cell 8
   have k2f8:=k2.frozen 8
   have k2c9:=k2.cell 9
   have k2f9:=k2.frozen 9
   have k2z:=k2.lt
   simp only[geCells] at k1c0 k1c1 k1c2 k1c3 k1c4 k1c5 k1c6 k1c7 k1c8 k1c9 k2c0 k2c1 k2c2 k2c3 k2c4 k2c5 k2c6 k2c7 k2c8 k2c9
   go_wp2_with fail
   clear k1c0 k1f0 k1c1 k1f1 k1c2 k1f2 k1c3 k1f3 k1c4 k1f4 k1c5 k1f5 k1c6 k1f6 k1c7 k1f7 k1c8 k1f8 k1c9 k1f9 k1z k2c0 k2f0 k2c1 k2f1 k2c2 k2f2 k2c3 k2f3 k2c4 k2f4 k2c5 k2f5 k2c6 k2f6 k2c7 k2f7 k2c8 k2f8 k2c9 k2f9 k2z
   refine(hNx _).mono ?_
   rintro e w9 ⟨rfl,hb9⟩
   replace hb0:=hb0.trans (hb9.mono hb0.size)
   replace k1:=k1.below hb9 k1.lt
   replace k2:=k2.below hb9 k2.lt
   clear hb9
   have k1c0:=k1.cell 0
   have k1f0:=k1.frozen 0
   have k1c1:=k1.cell 1
   have k1f1:=k1.frozen 1
   have k1c2:=k1.cell 2
   have k1f2:=k1.frozen 2
   have k1c3:=k1.cell 3
   have k1f3:=k1.frozen 3
   have k1c4:=k1.cell 4
   have k1f4:=k1.frozen 4
   have k1c5:=k1.cell 5
   have k1f5:=k1.frozen 5
   have k1c6:=k1.cell 6
   have k1f6:=k1.frozen 6
   have k1c7:=k1.cell 7
   have k1f7:=k1.frozen 7
   have k1c8:=k1.cell 8
   have k1f8:=k1.frozen 8
   have k1c9:=k1.cell 9
   have k1f9:=k1.frozen 9
   have k1z:=k1.lt
   have k2c0:=k2.cell 0
   have k2f0:=k2.frozen 0
   have k2c1:=k2.cell 1
   have k2f1:=k2.frozen 1
   have k2c2:=k2.cell 2
   have k2f2:=k2.frozen 2
   have k2c3:=k2.cell 3
   have k2f3:=k2.frozen 3
   have k2c4:=k2.cell 4
   have k2f4:=k2.frozen 4
   have k2c5:=k2.cell 5
   have k2f5:=k2.frozen 5
   have k2c6:=k2.cell 6
   have k2f6:=k2.frozen 6
   have k2c7:=k2.cell 7
   have k2f7:=k2.frozen 7
   have k2c8:=k2.cell 8
   have k2f8:=k2.frozen 8
   have k2c9:=k2.cell 9
   have k2f9:=k2.frozen 9
   have k2z:=k2.lt
   simp only[geCells] at k1c0 k1c1 k1c2 k1c3 k1c4 k1c5 k1c6 k1c7 k1c8 k1c9 k2c0 k2c1 k2c2 k2c3 k2c4 k2c5 k2c6 k2c7 k2c8 k2c9
   go_upto_region 10 with fail
   clear k1c0 k1f0 k1c1 k1f1 k1c2 k1f2 k1c3 k1f3 k1c4 k1f4 k1c5 k1f5 k1c6 k1f6 k1c7 k1f7 k1c8 k1f8 k1c9 k1f9 k1z k2c0 k2f0 k2c1 k2f1 k2c2 k2f2 k2c3 k2f3 k2c4 k2f4 k2c5 k2f5 k2c6 k2f6 k2c7 k2f7 k2c8 k2f8 k2c9 k2f9 k2z
   refine(fun (HH:∀W,Blk W (w.heap.size) 45 #[.int .u64 0,.int .u64 0,.int .u64 0,.int .u64 0,.int .u64 0,.int .u64 0,.int .u64 0,.int .u64 0,.int .i64 0,.int .i64 0]∧Blk W (B) 45 #[.int .u64 0,.int .u64 0,.int .u64 (H:Int),.int .u64 (L:Int),.int .u64 (y0:Int),.int .u64 (y1:Int),.int .u64 (y2:Int),.int .u64 (y3:Int),.int .i64 X,.int .i64 (p+1-n)]∧Below w.heap.size w W→Code.wp _ _ _ _ W)=>HH _ ⟨by exact((((k1.far (p:=⟨B,4,none⟩) (by exact hne) _).far (p:=⟨B,5,none⟩) (by exact hne) _).far (p:=⟨B,6,none⟩) (by exact hne) _).far (p:=⟨B,7,none⟩) (by exact hne) _),by exact((((k2.set_ 4 _).set_ 5 _).set_ 6 _).set_ 7 _),by exact((((hb0.setCell (p:=⟨B,4,none⟩) (by exact hle) _).setCell (p:=⟨B,5,none⟩) (by exact hle) _).setCell (p:=⟨B,6,none⟩) (by exact hle) _).setCell (p:=⟨B,7,none⟩) (by exact hle) _)⟩) ?_
   clear k1 k2 hb0
   rintro w10 ⟨k1,k2,hb0⟩
   have k1c0:=k1.cell 0
   have k1f0:=k1.frozen 0
   have k1c1:=k1.cell 1
   have k1f1:=k1.frozen 1
   have k1c2:=k1.cell 2
   have k1f2:=k1.frozen 2
   have k1c3:=k1.cell 3
   have k1f3:=k1.frozen 3
   have k1c4:=k1.cell 4
   have k1f4:=k1.frozen 4
   have k1c5:=k1.cell 5
   have k1f5:=k1.frozen 5
   have k1c6:=k1.cell 6
   have k1f6:=k1.frozen 6
   have k1c7:=k1.cell 7
   have k1f7:=k1.frozen 7
   have k1c8:=k1.cell 8
   have k1f8:=k1.frozen 8
   have k1c9:=k1.cell 9
   have k1f9:=k1.frozen 9
   have k1z:=k1.lt
   have k2c0:=k2.cell 0
   have k2f0:=k2.frozen 0
   have k2c1:=k2.cell 1
   have k2f1:=k2.frozen 1
   have k2c2:=k2.cell 2
   have k2f2:=k2.frozen 2
   have k2c3:=k2.cell 3
   have k2f3:=k2.frozen 3
   have k2c4:=k2.cell 4
   have k2f4:=k2.frozen 4
   have k2c5:=k2.cell 5
   have k2f5:=k2.frozen 5
   have k2c6:=k2.cell 6
   have k2f6:=k2.frozen 6
   have k2c7:=k2.cell 7
   have k2f7:=k2.frozen 7
   have k2c8:=k2.cell 8
   have k2f8:=k2.frozen 8
   have k2c9:=k2.cell 9
   have k2f9:=k2.frozen 9
   have k2z:=k2.lt
   simp only[geCells] at k1c0 k1c1 k1c2 k1c3 k1c4 k1c5 k1c6 k1c7 k1c8 k1c9 k2c0 k2c1 k2c2 k2c3 k2c4 k2c5 k2c6 k2c7 k2c8 k2c9
   go_wp2
   clear k1c0 k1f0 k1c1 k1f1 k1c2 k1f2 k1c3 k1f3 k1c4 k1f4 k1c5 k1f5 k1c6 k1f6 k1c7 k1f7 k1c8 k1f8 k1c9 k1f9 k1z k2c0 k2f0 k2c1 k2f1 k2c2 k2f2 k2c3 k2f3 k2c4 k2f4 k2c5 k2f5 k2c6 k2f6 k2c7 k2f7 k2c8 k2f8 k2c9 k2f9 k2z
   refine bodyPost_ret (v:=.tuple #[.agg #[.int .u64 0,.int .u64 0,.int .u64 (H:Int),.int .u64 (L:Int),.int .u64 (y0:Int),.int .u64 (y1:Int),.int .u64 (y2:Int),.int .u64 (y3:Int),.int .i64 X,.int .i64 (p+1-n)],.int .i64 0]) ?_ rfl ⟨rfl,((((((((((hb0.setCell (p:=⟨w.heap.size,0,none⟩) nrf _).setCell (p:=⟨w.heap.size,1,none⟩) nrf _).setCell (p:=⟨w.heap.size,2,none⟩) nrf _).setCell (p:=⟨w.heap.size,3,none⟩) nrf _).setCell (p:=⟨w.heap.size,4,none⟩) nrf _).setCell (p:=⟨w.heap.size,5,none⟩) nrf _).setCell (p:=⟨w.heap.size,6,none⟩) nrf _).setCell (p:=⟨w.heap.size,7,none⟩) nrf _).setCell (p:=⟨w.heap.size,8,none⟩) nrf _).setCell (p:=⟨w.heap.size,9,none⟩) nrf _)⟩
   refine results_cell_tmp rfl _ _ w.heap.size _ _ _ _ _ ?_ ?_ ((((((((((k1.set_ 0 _).set_ 1 _).set_ 2 _).set_ 3 _).set_ 4 _).set_ 5 _).set_ 6 _).set_ 7 _).set_ 8 _).set_ 9 _) Tryz.underlying45 rfl (by kernel_rfl)
   · rfl
   · rfl
 · rw[hX] at hWh
   rw[if_pos rfl,Nat.add_zero,hW]
   clear hW hNx hX
   show Calls _ _ _ _ (Says w (.tuple #[.agg #[.int .u64 0,.int .u64 0,.int .u64 (H:Int),.int .u64 (L:Int),.int .u64 0,.int .u64 0,.int .u64 (H:Int),.int .u64 (L:Int),.int .i64 X,.int .i64 (p+1-n)],.int .i64 0]))
   go_enter Tryz.func12,Tryz.ntmps12
   go_wp2_with fail
   obtain⟨v1,E_,hv1,k1⟩:=Blk.a1 w 45 #[.int .u64 0,.int .u64 0,.int .u64 0,.int .u64 0,.int .u64 0,.int .u64 0,.int .u64 0,.int .u64 0,.int .i64 0,.int .i64 0]
   replace hb0:=hb0.trans (hv1.mono hb0.size)
   replace hT:=hT.below hv1
   rw[E_]
   clear hv1 E_
   refine(hTe _ hT).mono ?_
   rintro e w2 ⟨rfl,hb2⟩
   replace hb0:=hb0.trans (hb2.mono hb0.size)
   replace hT:=hT.below hb2
   replace k1:=k1.below hb2 k1.lt
   clear hb2
   have k1c0:=k1.cell 0
   have k1f0:=k1.frozen 0
   have k1c1:=k1.cell 1
   have k1f1:=k1.frozen 1
   have k1c2:=k1.cell 2
   have k1f2:=k1.frozen 2
   have k1c3:=k1.cell 3
   have k1f3:=k1.frozen 3
   have k1c4:=k1.cell 4
   have k1f4:=k1.frozen 4
   have k1c5:=k1.cell 5
   have k1f5:=k1.frozen 5
   have k1c6:=k1.cell 6
   have k1f6:=k1.frozen 6
   have k1c7:=k1.cell 7
   have k1f7:=k1.frozen 7
   have k1c8:=k1.cell 8
   have k1f8:=k1.frozen 8
   have k1c9:=k1.cell 9
   have k1f9:=k1.frozen 9
   have k1z:=k1.lt
   simp only[geCells] at k1c0 k1c1 k1c2 k1c3 k1c4 k1c5 k1c6 k1c7 k1c8 k1c9
   go_wp2_with fail
   clear k1c0 k1f0 k1c1 k1f1 k1c2 k1f2 k1c3 k1f3 k1c4 k1f4 k1c5 k1f5 k1c6 k1f6 k1c7 k1f7 k1c8 k1f8 k1c9 k1f9 k1z
   refine(hWh _ hT).mono ?_
   rintro e w3 ⟨rfl,hb3⟩
   replace hb0:=hb0.trans (hb3.mono hb0.size)
   replace hT:=hT.below hb3
   replace k1:=k1.below hb3 k1.lt
   clear hb3
   go_upto_region 7 with fail
   obtain⟨B,hB⟩:∃B,B=w3.heap.size:=⟨_,rfl⟩
   have k1z:=k1.lt
   have hBz:w.heap.size<B:=by omega
   have k2:Blk (w3.alloc (.cells #[.int .u64 0,.int .u64 0,.int .u64 (H:Int),.int .u64 (L:Int),.int .u64 0,.int .u64 0,.int .u64 0,.int .u64 0,.int .i64 X,.int .i64 (p+1-n)] 45)) B 45 #[.int .u64 0,.int .u64 0,.int .u64 (H:Int),.int .u64 (L:Int),.int .u64 0,.int .u64 0,.int .u64 0,.int .u64 0,.int .i64 X,.int .i64 (p+1-n)]:=by rw[hB];exact Blk.new w3 45 #[.int .u64 0,.int .u64 0,.int .u64 (H:Int),.int .u64 (L:Int),.int .u64 0,.int .u64 0,.int .u64 0,.int .u64 0,.int .i64 X,.int .i64 (p+1-n)]
   replace k1:=k1.alloc (.cells #[.int .u64 0,.int .u64 0,.int .u64 (H:Int),.int .u64 (L:Int),.int .u64 0,.int .u64 0,.int .u64 0,.int .u64 0,.int .i64 X,.int .i64 (p+1-n)] 45)
   replace hb0:=hb0.alloc (o:=.cells #[.int .u64 0,.int .u64 0,.int .u64 (H:Int),.int .u64 (L:Int),.int .u64 0,.int .u64 0,.int .u64 0,.int .u64 0,.int .i64 X,.int .i64 (p+1-n)] 45) (by omega)
   rw[←hB]
   have hne:w.heap.size≠B:=by omega
   have hle:w.heap.size≤B:=by omega
   generalize (w3.alloc (.cells #[.int .u64 0,.int .u64 0,.int .u64 (H:Int),.int .u64 (L:Int),.int .u64 0,.int .u64 0,.int .u64 0,.int .u64 0,.int .i64 X,.int .i64 (p+1-n)] 45))=v9 at*
   clear hB k1z
   have k1c0:=k1.cell 0
   have k1f0:=k1.frozen 0
   have k1c1:=k1.cell 1
   have k1f1:=k1.frozen 1
   have k1c2:=k1.cell 2
   have k1f2:=k1.frozen 2
   have k1c3:=k1.cell 3
   have k1f3:=k1.frozen 3
   have k1c4:=k1.cell 4
   have k1f4:=k1.frozen 4
   have k1c5:=k1.cell 5
   have k1f5:=k1.frozen 5
   have k1c6:=k1.cell 6
   have k1f6:=k1.frozen 6
   have k1c7:=k1.cell 7
   have k1f7:=k1.frozen 7
   have k1c8:=k1.cell 8
   have k1f8:=k1.frozen 8
   have k1c9:=k1.cell 9
   have k1f9:=k1.frozen 9
   have k1z:=k1.lt
   have k2c0:=k2.cell 0
   have k2f0:=k2.frozen 0
   have k2c1:=k2.cell 1
   have k2f1:=k2.frozen 1
   have k2c2:=k2.cell 2
   have k2f2:=k2.frozen 2
   have k2c3:=k2.cell 3
   have k2f3:=k2.frozen 3
   have k2c4:=k2.cell 4
   have k2f4:=k2.frozen 4
   have k2c5:=k2.cell 5
   have k2f5:=k2.frozen 5
   have k2c6:=k2.cell 6
   have k2f6:=k2.frozen 6
   have k2c7:=k2.cell 7
   have k2f7:=k2.frozen 7
   have k2c8:=k2.cell 8
   have k2f8:=k2.frozen 8
   have k2c9:=k2.cell 9
   have k2f9:=k2.frozen 9
   have k2z:=k2.lt
   simp only[geCells] at k1c0 k1c1 k1c2 k1c3 k1c4 k1c5 k1c6 k1c7 k1c8 k1c9 k2c0 k2c1 k2c2 k2c3 k2c4 k2c5 k2c6 k2c7 k2c8 k2c9
   go_upto_region 8 with fail
   clear k1c0 k1f0 k1c1 k1f1 k1c2 k1f2 k1c3 k1f3 k1c4 k1f4 k1c5 k1f5 k1c6 k1f6 k1c7 k1f7 k1c8 k1f8 k1c9 k1f9 k1z k2c0 k2f0 k2c1 k2f1 k2c2 k2f2 k2c3 k2f3 k2c4 k2f4 k2c5 k2f5 k2c6 k2f6 k2c7 k2f7 k2c8 k2f8 k2c9 k2f9 k2z
   refine(fun (HH:∀W,Blk W (w.heap.size) 45 #[.int .u64 0,.int .u64 0,.int .u64 0,.int .u64 0,.int .u64 0,.int .u64 0,.int .u64 0,.int .u64 0,.int .i64 0,.int .i64 0]∧Blk W (B) 45 #[.int .u64 0,.int .u64 0,.int .u64 (H:Int),.int .u64 (L:Int),.int .u64 0,.int .u64 0,.int .u64 (H:Int),.int .u64 (L:Int),.int .i64 X,.int .i64 (p+1-n)]∧Below w.heap.size w W→Code.wp _ _ _ _ W)=>HH _ ⟨by exact((((k1.far (p:=⟨B,4,none⟩) (by exact hne) _).far (p:=⟨B,5,none⟩) (by exact hne) _).far (p:=⟨B,6,none⟩) (by exact hne) _).far (p:=⟨B,7,none⟩) (by exact hne) _),by exact((((k2.set_ 4 _).set_ 5 _).set_ 6 _).set_ 7 _),by exact((((hb0.setCell (p:=⟨B,4,none⟩) (by exact hle) _).setCell (p:=⟨B,5,none⟩) (by exact hle) _).setCell (p:=⟨B,6,none⟩) (by exact hle) _).setCell (p:=⟨B,7,none⟩) (by exact hle) _)⟩) ?_
   clear k1 k2 hb0
   rintro w8 ⟨k1,k2,hb0⟩
   have k1c0:=k1.cell 0
   have k1f0:=k1.frozen 0
   have k1c1:=k1.cell 1
   have k1f1:=k1.frozen 1
   have k1c2:=k1.cell 2
   have k1f2:=k1.frozen 2
   have k1c3:=k1.cell 3
   have k1f3:=k1.frozen 3
   have k1c4:=k1.cell 4
   have k1f4:=k1.frozen 4
   have k1c5:=k1.cell 5
   have k1f5:=k1.frozen 5
   have k1c6:=k1.cell 6
   have k1f6:=k1.frozen 6
   have k1c7:=k1.cell 7
   have k1f7:=k1.frozen 7
   have k1c8:=k1.cell 8
   have k1f8:=k1.frozen 8
   have k1c9:=k1.cell 9
   have k1f9:=k1.frozen 9
   have k1z:=k1.lt
   have k2c0:=k2.cell 0
   have k2f0:=k2.frozen 0
   have k2c1:=k2.cell 1
   have k2f1:=k2.frozen 1
   have k2c2:=k2.cell 2
   have k2f2:=k2.frozen 2
   have k2c3:=k2.cell 3
   have k2f3:=k2.frozen 3
   have k2c4:=k2.cell 4
   have k2f4:=k2.frozen 4
   have k2c5:=k2.cell 5
   have k2f5:=k2.frozen 5
   have k2c6:=k2.cell 6
   have k2f6:=k2.frozen 6
   have k2c7:=k2.cell 7
   have k2f7:=k2.frozen 7
   have k2c8:=k2.cell 8
   have k2f8:=k2.frozen 8
   have k2c9:=k2.cell 9
   have k2f9:=k2.frozen 9
   have k2z:=k2.lt
   simp only[geCells] at k1c0 k1c1 k1c2 k1c3 k1c4 k1c5 k1c6 k1c7 k1c8 k1c9 k2c0 k2c1 k2c2 k2c3 k2c4 k2c5 k2c6 k2c7 k2c8 k2c9
   go_wp2
   clear k1c0 k1f0 k1c1 k1f1 k1c2 k1f2 k1c3 k1f3 k1c4 k1f4 k1c5 k1f5 k1c6 k1f6 k1c7 k1f7 k1c8 k1f8 k1c9 k1f9 k1z k2c0 k2f0 k2c1 k2f1 k2c2 k2f2 k2c3 k2f3 k2c4 k2f4 k2c5 k2f5 k2c6 k2f6 k2c7 k2f7 k2c8 k2f8 k2c9 k2f9 k2z
   refine bodyPost_ret (v:=.tuple #[.agg #[.int .u64 0,.int .u64 0,.int .u64 (H:Int),.int .u64 (L:Int),.int .u64 0,.int .u64 0,.int .u64 (H:Int),.int .u64 (L:Int),.int .i64 X,.int .i64 (p+1-n)],.int .i64 0]) ?_ rfl ⟨rfl,((((((((((hb0.setCell (p:=⟨w.heap.size,0,none⟩) nrf _).setCell (p:=⟨w.heap.size,1,none⟩) nrf _).setCell (p:=⟨w.heap.size,2,none⟩) nrf _).setCell (p:=⟨w.heap.size,3,none⟩) nrf _).setCell (p:=⟨w.heap.size,4,none⟩) nrf _).setCell (p:=⟨w.heap.size,5,none⟩) nrf _).setCell (p:=⟨w.heap.size,6,none⟩) nrf _).setCell (p:=⟨w.heap.size,7,none⟩) nrf _).setCell (p:=⟨w.heap.size,8,none⟩) nrf _).setCell (p:=⟨w.heap.size,9,none⟩) nrf _)⟩
   refine results_cell_tmp rfl _ _ w.heap.size _ _ _ _ _ ?_ ?_ ((((((((((k1.set_ 0 _).set_ 1 _).set_ 2 _).set_ 3 _).set_ 4 _).set_ 5 _).set_ 6 _).set_ 7 _).set_ 8 _).set_ 9 _) Tryz.underlying45 rfl (by kernel_rfl)
   · rfl
   · rfl
theorem ten_up {p q:Int} {a:Nat} (h:p+q=(a:Int)):p.toNat+q.toNat=(-p).toNat+(-q).toNat+a:=by omega
theorem scale_hi {m:Nat} {q p k:Int} {n c1 c2:Nat} (hf:farB k=false) (hu:underB m q p=true) (hn:k+p=(n:Int)) (h1:0≤tenE k+(c1:Int)) (h2:0≤q+(c2:Int)):
 tenN k*m*2^(tenE k+q+(c1+c2)).toNat<10^n*2^(c1+c2):=by
 have ha:=(ends_at hf c1 h1).1
 rw[under_at m q p c2 h2,decide_eq_true_eq] at hu
 have he:(tenE k+q+((c1:Int)+(c2:Int))).toNat=(tenE k+c1).toNat+(q+c2).toNat:=by omega
 rw[he,Nat.pow_add,Nat.pow_add]
 have hx:=ten_up (p:=k) (q:=p) hn
 have hten:10^k.toNat*10^p.toNat=10^(-k).toNat*10^(-p).toNat*10^n:=by rw[←Nat.pow_add, ←Nat.pow_add, ←Nat.pow_add,hx]
 have hm1:tenN k*2^(tenE k+(c1:Int)).toNat*10^(-k).toNat*(m*2^(q+(c2:Int)).toNat*10^(-p).toNat)<10^k.toNat*2^c1*(10^p.toNat*2^c2):=by
  have hb:0<10^k.toNat*2^c1:=Nat.mul_pos (ten_pos _) (Nat.two_pow_pos _)
  exact Nat.lt_of_le_of_lt (Nat.mul_le_mul_right _ ha) ((Nat.mul_lt_mul_left hb).2 hu)
 have e1:tenN k*2^(tenE k+(c1:Int)).toNat*10^(-k).toNat*(m*2^(q+(c2:Int)).toNat*10^(-p).toNat)=10^(-k).toNat*10^(-p).toNat*(tenN k*m*(2^(tenE k+(c1:Int)).toNat*2^(q+(c2:Int)).toNat)):=by ac_rfl
 have e2:10^k.toNat*2^c1*(10^p.toNat*2^c2)=10^(-k).toNat*10^(-p).toNat*(10^n*(2^c1*2^c2)):=by
  rw[show 10^k.toNat*2^c1*(10^p.toNat*2^c2)=10^k.toNat*10^p.toNat*(2^c1*2^c2) by ac_rfl,hten];ac_rfl
 rw[e1,e2] at hm1
 exact Nat.lt_of_mul_lt_mul_left hm1
theorem scale_lo {m:Nat} {q p k:Int} {n c1 c2:Nat} (h0:0<m) (hf:farB k=false) (hu:underB m q p=false) (hn:k+p=(n:Int)) (h1:0≤tenE k+(c1:Int)) (h2:0≤q+(c2:Int)):
 10^n*2^(c1+c2)<(tenN k+1)*m*2^(tenE k+q+(c1+c2)).toNat:=by
 have ha:=(ends_at hf c1 h1).2.1
 rw[under_at m q p c2 h2,decide_eq_false_iff_not,Nat.not_lt] at hu
 have he:(tenE k+q+((c1:Int)+(c2:Int))).toNat=(tenE k+c1).toNat+(q+c2).toNat:=by omega
 rw[he,Nat.pow_add,Nat.pow_add]
 have hx:=ten_up (p:=k) (q:=p) hn
 have hten:10^k.toNat*10^p.toNat=10^(-k).toNat*10^(-p).toNat*10^n:=by rw[←Nat.pow_add, ←Nat.pow_add, ←Nat.pow_add,hx]
 have hm1:10^k.toNat*2^c1*(10^p.toNat*2^c2)<(tenN k+1)*2^(tenE k+(c1:Int)).toNat*10^(-k).toNat*(m*2^(q+(c2:Int)).toNat*10^(-p).toNat):=by
  have hb:0<m*2^(q+(c2:Int)).toNat*10^(-p).toNat:=Nat.mul_pos (Nat.mul_pos h0 (Nat.two_pow_pos _)) (ten_pos _)
  exact Nat.lt_of_le_of_lt (Nat.mul_le_mul_left _ hu) ((Nat.mul_lt_mul_right hb).2 ha)
 have e1:(tenN k+1)*2^(tenE k+(c1:Int)).toNat*10^(-k).toNat*(m*2^(q+(c2:Int)).toNat*10^(-p).toNat)=10^(-k).toNat*10^(-p).toNat*((tenN k+1)*m*(2^(tenE k+(c1:Int)).toNat*2^(q+(c2:Int)).toNat)):=by ac_rfl
 have e2:10^k.toNat*2^c1*(10^p.toNat*2^c2)=10^(-k).toNat*10^(-p).toNat*(10^n*(2^c1*2^c2)):=by
  rw[show 10^k.toNat*2^c1*(10^p.toNat*2^c2)=10^k.toNat*10^p.toNat*(2^c1*2^c2) by ac_rfl,hten];ac_rfl
 rw[e1,e2] at hm1
 exact Nat.lt_of_mul_lt_mul_left hm1
theorem pow17 {n:Nat} (h:n≤17):10^n≤10^17:=Nat.pow_le_pow_right (by decide) h
theorem scale_ok {m:Nat} {q P:Int} (h0:m≠0) (hm:m<9007199254740992) (hP:IsFirst m q P) {n:Nat} (hn1:1≤n) (hn2:n≤17) {k:Int} (hk:k=n-1-P) (hf:farB k=false):
 ∃N:Nat, -(tenE k+q-2)=(N:Int)∧64≤N∧N<192∧∀m',2*m≤m'→m'≤6*m→
  tenN k*m'<2^192∧kB k*m'<2^192∧tenN k*m'/2^N<2^60∧kB k*m'/2^N<2^60∧tenN k*m'≠0∧kB k*m'≠0:=by
 obtain⟨t1,t2⟩:=tenN_bd hf
 obtain⟨c1,hc1⟩:∃c1:Nat,c1=(-(tenE k)).toNat:=⟨_,rfl⟩
 obtain⟨c2,hc2⟩:∃c2:Nat,c2=(-q).toNat:=⟨_,rfl⟩
 have hA:=scale_hi (n:=n) (c1:=c1) (c2:=c2) hf hP.2 (by omega) (by omega) (by omega)
 have hB:=scale_lo (n:=n-1) (c1:=c1) (c2:=c2) (Nat.pos_of_ne_zero h0) hf hP.1 (by omega) (by omega) (by omega)
 have hU:kB k=tenN k∨kB k=tenN k+1:=by unfold kB;cases tenX k <;> simp
 have hd0:0≤tenE k+q+((c1:Int)+(c2:Int)):=by omega
 obtain⟨d,hd⟩:∃d:Nat,d=(tenE k+q+((c1:Int)+(c2:Int))).toNat:=⟨_,rfl⟩
 rw[←hd] at hA hB
 have hdi:tenE k+q+((c1:Int)+(c2:Int))=(d:Int):=by omega
 obtain⟨c,hc⟩:∃c,c=c1+c2:=⟨_,rfl⟩
 rw[←hc] at hA hB
 have hci:tenE k+q+(c:Int)=(d:Int):=by omega
 clear hc1 hc2 hd hdi hd0
 generalize tenN k=T at*
 generalize kB k=U at*
 have hpn:=pow17 hn2
 have e17:(10:Nat)^17=100000000000000000:=rfl
 rw[e17] at hpn
 -- d + 70 < c
 have hcd:d+70<c:=by
  apply Nat.lt_of_not_le
  intro hle
  have h1:2^c≤2^(d+70):=Nat.pow_le_pow_right (by decide) hle
  have h2:2^127*1*2^d≤T*m*2^d:=Nat.mul_le_mul_right _ (Nat.mul_le_mul t1 (by omega))
  have h3:10^n*2^c≤100000000000000000*2^(d+70):=Nat.mul_le_mul hpn h1
  rw[Nat.pow_add] at h3
  have hp:=Nat.two_pow_pos d
  generalize 2^d=D at*
  have e127:(2:Nat)^127=170141183460469231731687303715884105728:=rfl
  have e70:(2:Nat)^70=1180591620717411303424:=rfl
  rw[e127] at h2
  rw[e70] at h3
  omega
 have hdc:c<d+182:=by
  apply Nat.lt_of_not_le
  intro hle
  have h1:2^(d+182)≤2^c:=Nat.pow_le_pow_right (by decide) hle
  have h2:(T+1)*m*2^d≤2^128*9007199254740992*2^d:=Nat.mul_le_mul_right _ (Nat.mul_le_mul t2 (by omega))
  have h3:1*2^c≤10^(n-1)*2^c:=Nat.mul_le_mul_right _ (ten_pos _)
  rw[Nat.pow_add] at h1
  have hp:=Nat.two_pow_pos d
  generalize 2^d=D at*
  have e128:(2:Nat)^128=340282366920938463463374607431768211456:=rfl
  have e182:(2:Nat)^182=6129982163463555433433388108601236734474956488734408704:=rfl
  rw[e128] at h2
  rw[e182] at h1
  omega
 refine⟨c-d+2,by omega,by omega,by omega,fun m' hm1 hm2=>?_⟩
 have hb:∀V,V=T∨V=T+1→V*m'<2^192∧V*m'/2^(c-d+2)<2^60∧V*m'≠0:=by
  intro V hV
  have hV2:V≤2^128:=by omega
  refine⟨?_,?_,?_⟩
  · have h1:V*m'≤2^128*54043195528445952:=Nat.mul_le_mul hV2 (by omega)
    exact Nat.lt_of_le_of_lt h1 (by decide)
  · rw[Nat.div_lt_iff_lt_mul (Nat.two_pow_pos _)]
    have hV3:V≤2*T:=by omega
    have h1:V*m'≤2*T*(6*m):=Nat.mul_le_mul hV3 hm2
    have e1:2*T*(6*m)=12*(T*m):=by
     rw[show 2*T*(6*m)=2*6*(T*m) by ac_rfl]
    rw[e1] at h1
    have hcc:2^c=2^(c-d)*2^d:=by rw[←Nat.pow_add];congr 1;omega
    rw[hcc, ←Nat.mul_assoc] at hA
    have hA2:T*m<10^n*2^(c-d):=Nat.lt_of_mul_lt_mul_right hA
    have hA3:10^n*2^(c-d)≤100000000000000000*2^(c-d):=Nat.mul_le_mul_right _ hpn
    rw[Nat.pow_add]
    generalize 2^(c-d)=D at*
    have e60:(2:Nat)^60=1152921504606846976:=rfl
    have e2:(2:Nat)^2=4:=rfl
    rw[e60,e2]
    omega
  · have:0<V:=by omega
    exact Nat.pos_iff_ne_zero.1 (Nat.mul_pos this (by omega))
 have hT:=hb T (.inl rfl)
 have hU2:=hb U hU
 exact⟨hT.1,hU2.1,hT.2.1,hU2.2.1,hT.2.2,hU2.2.2⟩
def kS (P:Int) (n:Nat):Int:=(n:Int)-1-P
def NS (q P:Int) (n:Nat):Nat:=(-(tenE (kS P n)+q-2)).toNat
def loE (P:Int) (n m':Nat):Nat:=tenN (kS P n)*m'
def hiE (P:Int) (n m':Nat):Nat:=kB (kS P n)*m'
def someS (m:Nat) (q P:Int) (n:Nat):Option Nat:=
 if nearS (loE P n (4*m)) (NS q P n)=nearS (hiE P n (4*m)) (NS q P n) then some (nearS (loE P n (4*m)) (NS q P n)) else none
def roundS (m:Nat) (q P:Int) (inn:Bool) (lo n:Nat):Option (Option Nat):=
 if ceilS inn (loE P n lo) (NS q P n)=ceilS inn (hiE P n lo) (NS q P n)∧floorS inn (loE P n (4*m+2)) (NS q P n)=floorS inn (hiE P n (4*m+2)) (NS q P n) then
   if floorS inn (loE P n (4*m+2)) (NS q P n)<ceilS inn (loE P n lo) (NS q P n) then none
   else match someS m q P n with
    |none=>some none
    |some x=>some (some (max (ceilS inn (loE P n lo) (NS q P n)) (min (floorS inn (loE P n (4*m+2)) (NS q P n)) x)))
 else some none
def digS (m:Nat) (q P:Int) (inn:Bool) (lo:Nat):Nat→Nat→Option (Nat × Int)
 |0,_=>none
 |fuel+1,n=>match roundS m q P inn lo n with
  |none=>digS m q P inn lo fuel (n+1)
  |some none=>none
  |some (some x)=>some (x,P+1-n)
theorem ceil_lt (inn:Bool) {v n:Nat} (h:v/2^n<2^60):ceilS inn v n<1152921504606846978:=by
 have e60:(2:Nat)^60=1152921504606846976:=rfl
 rw[e60] at h
 unfold ceilS;split <;> omega
theorem floor_lt (inn:Bool) {v n:Nat} (h:v/2^n<2^60):floorS inn v n<1152921504606846978:=by
 have e60:(2:Nat)^60=1152921504606846976:=rfl
 rw[e60] at h
 unfold floorS;split <;> omega
theorem near_lt {v n:Nat} (h:v/2^n<2^60):nearS v n<1152921504606846978:=by
 have e60:(2:Nat)^60=1152921504606846976:=rfl
 rw[e60] at h
 unfold nearS;split <;> omega
end Go.Proofs.YtenekbfnlbipiaaGreatDoor
