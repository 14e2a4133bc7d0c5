/- Walk: a float is taken apart. -/
import Derived.Test.YtenekbfnlbipiaaGreatDoorSuQ
import Derived.BigRegion
namespace Go.Proofs.YtenekbfnlbipiaaGreatDoor
open Go.RowKit
set_option linter.unusedVariables false
set_option linter.unusedSimpArgs false
set_option maxHeartbeats 4000000
set_option maxRecDepth 100000

theorem results_open {P:Program} {fn:Func} {p p2 q q2:Tmp} {ty ty2:TypeId} (h:fn.results=#[.cell p ty,.tmp q,.cell p2 ty2,.tmp q2]) (tmps:Array Value) (w:World) (g g2:Nat) (t t2:TypeId) (cs cs2:Array Value) (fr fr2:Nat × Nat) (d d2:TypeDesc) (y z:Value)
 (hp:tmps.getD p undef=.pointer (some ⟨g,0,none⟩)) (hp2:tmps.getD p2 undef=.pointer (some ⟨g2,0,none⟩)) (hq:tmps.getD q undef=y) (hq2:tmps.getD q2 undef=z) (hg:w.heap[g]?=some (.cells cs t fr)) (hg2:w.heap[g2]?=some (.cells cs2 t2 fr2))
 (hu:P.underlying ty=some d) (hd:(match d with| .struct _| .array _ _=>true|_=>false)=true) (hi:(P.info? ty).map (·.size)=some cs.size)
 (hu2:P.underlying ty2=some d2) (hd2:(match d2 with| .struct _| .array _ _=>true|_=>false)=true) (hi2:(P.info? ty2).map (·.size)=some cs2.size):
 (results fn tmps).run P w=.ok (.tuple #[.agg cs,y,.agg cs2,z]) w:=by
 subst hq hq2
 have hp':tmps[p]?.getD undef=.pointer (some ⟨g,0,none⟩):=by simpa using hp
 have hp2':tmps[p2]?.getD undef=.pointer (some ⟨g2,0,none⟩):=by simpa using hp2
 simp[results,h,hp',hp2',asAddr,run_loadVar_row w g t ty cs fr d hg hu hd hi,run_loadVar_row w g2 t2 ty2 cs2 fr2 d2 hg2 hu2 hd2 hi2]

theorem open_err (e f:Int) (b:Nat) (c:Nat) (r:Int) (hr:(r !=0)=true) (hC:∀W,Calls Tryz.prog 31 #[.agg #[.int .i64 e,.int .i64 f],.int .u64 (b:Int)] W (Says W (.tuple #[.int .u8 (c:Int),.int .i64 r]))) (w:World):
 Calls Tryz.prog 10 #[.agg #[.int .i64 e,.int .i64 f],.int .u64 (b:Int)] w (Says w (.tuple #[.agg #[.bool false,.int .u64 0,.int .i64 0,.bool false],.bool false,.agg #[.bool false,.string ⟨#[]⟩,.int .i64 0],.int .i64 r])):=by
 have hb0:Below w.heap.size w w:=Below.refl _ _
 go_enter Tryz.func10,Tryz.ntmps10
 go_upto_region 1 with fail
 obtain⟨v1,E_,hv1,k1,k2,k3⟩:=Blk.a3 w 23 #[.int .i64 e,.int .i64 f] 37 #[.bool false,.int .u64 0,.int .i64 0,.bool false] 26 #[.bool false,.string ⟨#[]⟩,.int .i64 0]
 replace hb0:=hb0.trans (hv1.mono hb0.size)
 rw[E_]
 clear hv1 E_
 obtain⟨k1c0,k1c1,k1z,k1f0,k1f1⟩:=k1.b2
 obtain⟨k2c0,k2c1,k2c2,k2c3,k2z,k2f0,k2f1,k2f2,k2f3⟩:=k2.b4
 obtain⟨k3c0,k3c1,k3c2,k3z,k3f0,k3f1,k3f2⟩:=k3.b3
 go_wp2_with fail
 clear k1c0 k1f0 k1c1 k1f1 k1z k2c0 k2f0 k2c1 k2f1 k2c2 k2f2 k2c3 k2f3 k2z k3c0 k3f0 k3c1 k3f1 k3c2 k3f2 k3z
 refine(hC _).mono ?_
 rintro e w2 ⟨rfl,hb2⟩
 replace hb0:=hb0.trans (hb2.mono hb0.size)
 replace k1:=k1.below hb2 k1.lt
 replace k2:=k2.below hb2 k2.lt
 replace k3:=k3.below hb2 k3.lt
 clear hb2
 obtain⟨k1c0,k1c1,k1z,k1f0,k1f1⟩:=k1.b2
 obtain⟨k2c0,k2c1,k2c2,k2c3,k2z,k2f0,k2f1,k2f2,k2f3⟩:=k2.b4
 obtain⟨k3c0,k3c1,k3c2,k3z,k3f0,k3f1,k3f2⟩:=k3.b3
 go_wp2
 go_region
 go_wp2
 refine bodyPost_ret (v:=.tuple #[.agg #[.bool false,.int .u64 0,.int .i64 0,.bool false],.bool false,.agg #[.bool false,.string ⟨#[]⟩,.int .i64 0],.int .i64 r]) ?_ rfl ⟨rfl,(((((bel3 hb0 (w.heap.size+1) (by simp)).setCell (p:=⟨w.heap.size+1,3,none⟩) (by simp) _).setCell (p:=⟨w.heap.size+2,0,none⟩) (by simp) _).setCell (p:=⟨w.heap.size+2,1,none⟩) (by simp) _).setCell (p:=⟨w.heap.size+2,2,none⟩) (by simp) _).drew⟩
 refine results_open rfl _ _ (w.heap.size+1) (w.heap.size+2) _ _ _ _ _ _ _ _ _ _ ?_ ?_ ?_ ?_ (((((((k2.set_ 0 _).set_ 1 _).set_ 2 _).set_ 3 _).far (p:=⟨w.heap.size+2,0,none⟩) (by simp) _).far (p:=⟨w.heap.size+2,1,none⟩) (by simp) _).far (p:=⟨w.heap.size+2,2,none⟩) (by simp) _).drew (((((((k3.far (p:=⟨w.heap.size+1,0,none⟩) (by simp) _).far (p:=⟨w.heap.size+1,1,none⟩) (by simp) _).far (p:=⟨w.heap.size+1,2,none⟩) (by simp) _).far (p:=⟨w.heap.size+1,3,none⟩) (by simp) _).set_ 0 _).set_ 1 _).set_ 2 _).drew Tryz.underlying37 rfl (by kernel_rfl) Tryz.underlying26 rfl (by kernel_rfl)
 all_goals rfl

theorem open_inf4 (e f:Int) (b:Nat) (ng:Bool) (X Y:Nat) (hC:∀W,Calls Tryz.prog 31 #[.agg #[.int .i64 e,.int .i64 f],.int .u64 (b:Int)] W (Says W (.tuple #[.int .u8 4,.int .i64 0]))) (hS:∀W,Calls Tryz.prog 32 #[.agg #[.int .i64 e,.int .i64 f],.int .u64 (b:Int)] W (Says W (.tuple #[.agg #[.bool ng,.int .i64 (X:Int),.int .u64 (Y:Int)],.int .i64 0]))) (w:World):
 Calls Tryz.prog 10 #[.agg #[.int .i64 e,.int .i64 f],.int .u64 (b:Int)] w (Says w (.tuple #[.agg #[.bool false,.int .u64 0,.int .i64 0,.bool false],.bool false,.agg #[.bool false,.string ⟨#[]⟩,.int .i64 0],.int .i64 8])):=by
 have hb0:Below w.heap.size w w:=Below.refl _ _
 go_enter Tryz.func10,Tryz.ntmps10
 go_upto_region 1 with fail
 obtain⟨v1,E_,hv1,k1,k2,k3⟩:=Blk.a3 w 23 #[.int .i64 e,.int .i64 f] 37 #[.bool false,.int .u64 0,.int .i64 0,.bool false] 26 #[.bool false,.string ⟨#[]⟩,.int .i64 0]
 replace hb0:=hb0.trans (hv1.mono hb0.size)
 rw[E_]
 clear hv1 E_
 obtain⟨k1c0,k1c1,k1z,k1f0,k1f1⟩:=k1.b2
 obtain⟨k2c0,k2c1,k2c2,k2c3,k2z,k2f0,k2f1,k2f2,k2f3⟩:=k2.b4
 obtain⟨k3c0,k3c1,k3c2,k3z,k3f0,k3f1,k3f2⟩:=k3.b3
 go_wp2_with fail
 clear k1c0 k1f0 k1c1 k1f1 k1z k2c0 k2f0 k2c1 k2f1 k2c2 k2f2 k2c3 k2f3 k2z k3c0 k3f0 k3c1 k3f1 k3c2 k3f2 k3z
 refine(hC _).mono ?_
 rintro e w2 ⟨rfl,hb2⟩
 replace hb0:=hb0.trans (hb2.mono hb0.size)
 replace k1:=k1.below hb2 k1.lt
 replace k2:=k2.below hb2 k2.lt
 replace k3:=k3.below hb2 k3.lt
 clear hb2
 obtain⟨k1c0,k1c1,k1z,k1f0,k1f1⟩:=k1.b2
 obtain⟨k2c0,k2c1,k2c2,k2c3,k2z,k2f0,k2f1,k2f2,k2f3⟩:=k2.b4
 obtain⟨k3c0,k3c1,k3c2,k3z,k3f0,k3f1,k3f2⟩:=k3.b3
 go_wp2_with fail
 clear k1c0 k1f0 k1c1 k1f1 k1z k2c0 k2f0 k2c1 k2f1 k2c2 k2f2 k2c3 k2f3 k2z k3c0 k3f0 k3c1 k3f1 k3c2 k3f2 k3z
 refine(hS _).mono ?_
 rintro e w3 ⟨rfl,hb3⟩
 replace hb0:=hb0.trans (hb3.mono hb0.size)
 replace k1:=k1.below hb3 k1.lt
 replace k2:=k2.below hb3 k2.lt
 replace k3:=k3.below hb3 k3.lt
 clear hb3
 go_upto_region 5 with fail
 obtain⟨B,hB⟩:∃B,B=w3.heap.size:=⟨_,rfl⟩
 have k3z:=k3.lt
 have hBz:w.heap.size+2<B:=by omega
 have k4:Blk (w3.alloc (.cells #[.bool ng,.int .i64 (X:Int),.int .u64 (Y:Int)] 77)) B 77 #[.bool ng,.int .i64 (X:Int),.int .u64 (Y:Int)]:=by rw[hB];exact Blk.new w3 77 #[.bool ng,.int .i64 (X:Int),.int .u64 (Y:Int)]
 replace k1:=k1.alloc (.cells #[.bool ng,.int .i64 (X:Int),.int .u64 (Y:Int)] 77)
 replace k2:=k2.alloc (.cells #[.bool ng,.int .i64 (X:Int),.int .u64 (Y:Int)] 77)
 replace k3:=k3.alloc (.cells #[.bool ng,.int .i64 (X:Int),.int .u64 (Y:Int)] 77)
 replace hb0:=hb0.alloc (o:=.cells #[.bool ng,.int .i64 (X:Int),.int .u64 (Y:Int)] 77) (by omega)
 rw[←hB]
 generalize (w3.alloc (.cells #[.bool ng,.int .i64 (X:Int),.int .u64 (Y:Int)] 77))=v9 at*
 clear hB k3z
 obtain⟨k1c0,k1c1,k1z,k1f0,k1f1⟩:=k1.b2
 obtain⟨k2c0,k2c1,k2c2,k2c3,k2z,k2f0,k2f1,k2f2,k2f3⟩:=k2.b4
 obtain⟨k3c0,k3c1,k3c2,k3z,k3f0,k3f1,k3f2⟩:=k3.b3
 obtain⟨k4c0,k4c1,k4c2,k4z,k4f0,k4f1,k4f2⟩:=k4.b3
 go_wp2
 go_region
 go_wp2
 refine bodyPost_ret (v:=.tuple #[.agg #[.bool false,.int .u64 0,.int .i64 0,.bool false],.bool false,.agg #[.bool false,.string ⟨#[]⟩,.int .i64 0],.int .i64 8]) ?_ rfl ⟨rfl,(((((bel3 hb0 (w.heap.size+1) (by simp)).setCell (p:=⟨w.heap.size+1,3,none⟩) (by simp) _).setCell (p:=⟨w.heap.size+2,0,none⟩) (by simp) _).setCell (p:=⟨w.heap.size+2,1,none⟩) (by simp) _).setCell (p:=⟨w.heap.size+2,2,none⟩) (by simp) _).drew⟩
 refine results_open rfl _ _ (w.heap.size+1) (w.heap.size+2) _ _ _ _ _ _ _ _ _ _ ?_ ?_ ?_ ?_ (((((((k2.set_ 0 _).set_ 1 _).set_ 2 _).set_ 3 _).far (p:=⟨w.heap.size+2,0,none⟩) (by simp) _).far (p:=⟨w.heap.size+2,1,none⟩) (by simp) _).far (p:=⟨w.heap.size+2,2,none⟩) (by simp) _).drew (((((((k3.far (p:=⟨w.heap.size+1,0,none⟩) (by simp) _).far (p:=⟨w.heap.size+1,1,none⟩) (by simp) _).far (p:=⟨w.heap.size+1,2,none⟩) (by simp) _).far (p:=⟨w.heap.size+1,3,none⟩) (by simp) _).set_ 0 _).set_ 1 _).set_ 2 _).drew Tryz.underlying37 rfl (by kernel_rfl) Tryz.underlying26 rfl (by kernel_rfl)
 all_goals rfl

theorem open_inf5 (e f:Int) (b:Nat) (ng:Bool) (X Y:Nat) (hC:∀W,Calls Tryz.prog 31 #[.agg #[.int .i64 e,.int .i64 f],.int .u64 (b:Int)] W (Says W (.tuple #[.int .u8 5,.int .i64 0]))) (hS:∀W,Calls Tryz.prog 32 #[.agg #[.int .i64 e,.int .i64 f],.int .u64 (b:Int)] W (Says W (.tuple #[.agg #[.bool ng,.int .i64 (X:Int),.int .u64 (Y:Int)],.int .i64 0]))) (w:World):
 Calls Tryz.prog 10 #[.agg #[.int .i64 e,.int .i64 f],.int .u64 (b:Int)] w (Says w (.tuple #[.agg #[.bool false,.int .u64 0,.int .i64 0,.bool false],.bool false,.agg #[.bool false,.string ⟨#[]⟩,.int .i64 0],.int .i64 8])):=by
 have hb0:Below w.heap.size w w:=Below.refl _ _
 go_enter Tryz.func10,Tryz.ntmps10
 go_upto_region 1 with fail
 obtain⟨v1,E_,hv1,k1,k2,k3⟩:=Blk.a3 w 23 #[.int .i64 e,.int .i64 f] 37 #[.bool false,.int .u64 0,.int .i64 0,.bool false] 26 #[.bool false,.string ⟨#[]⟩,.int .i64 0]
 replace hb0:=hb0.trans (hv1.mono hb0.size)
 rw[E_]
 clear hv1 E_
 obtain⟨k1c0,k1c1,k1z,k1f0,k1f1⟩:=k1.b2
 obtain⟨k2c0,k2c1,k2c2,k2c3,k2z,k2f0,k2f1,k2f2,k2f3⟩:=k2.b4
 obtain⟨k3c0,k3c1,k3c2,k3z,k3f0,k3f1,k3f2⟩:=k3.b3
 go_wp2_with fail
 clear k1c0 k1f0 k1c1 k1f1 k1z k2c0 k2f0 k2c1 k2f1 k2c2 k2f2 k2c3 k2f3 k2z k3c0 k3f0 k3c1 k3f1 k3c2 k3f2 k3z
 refine(hC _).mono ?_
 rintro e w2 ⟨rfl,hb2⟩
 replace hb0:=hb0.trans (hb2.mono hb0.size)
 replace k1:=k1.below hb2 k1.lt
 replace k2:=k2.below hb2 k2.lt
 replace k3:=k3.below hb2 k3.lt
 clear hb2
 obtain⟨k1c0,k1c1,k1z,k1f0,k1f1⟩:=k1.b2
 obtain⟨k2c0,k2c1,k2c2,k2c3,k2z,k2f0,k2f1,k2f2,k2f3⟩:=k2.b4
 obtain⟨k3c0,k3c1,k3c2,k3z,k3f0,k3f1,k3f2⟩:=k3.b3
 go_wp2_with fail
 clear k1c0 k1f0 k1c1 k1f1 k1z k2c0 k2f0 k2c1 k2f1 k2c2 k2f2 k2c3 k2f3 k2z k3c0 k3f0 k3c1 k3f1 k3c2 k3f2 k3z
 refine(hS _).mono ?_
 rintro e w3 ⟨rfl,hb3⟩
 replace hb0:=hb0.trans (hb3.mono hb0.size)
 replace k1:=k1.below hb3 k1.lt
 replace k2:=k2.below hb3 k2.lt
 replace k3:=k3.below hb3 k3.lt
 clear hb3
 go_upto_region 5 with fail
 obtain⟨B,hB⟩:∃B,B=w3.heap.size:=⟨_,rfl⟩
 have k3z:=k3.lt
 have hBz:w.heap.size+2<B:=by omega
 have k4:Blk (w3.alloc (.cells #[.bool ng,.int .i64 (X:Int),.int .u64 (Y:Int)] 77)) B 77 #[.bool ng,.int .i64 (X:Int),.int .u64 (Y:Int)]:=by rw[hB];exact Blk.new w3 77 #[.bool ng,.int .i64 (X:Int),.int .u64 (Y:Int)]
 replace k1:=k1.alloc (.cells #[.bool ng,.int .i64 (X:Int),.int .u64 (Y:Int)] 77)
 replace k2:=k2.alloc (.cells #[.bool ng,.int .i64 (X:Int),.int .u64 (Y:Int)] 77)
 replace k3:=k3.alloc (.cells #[.bool ng,.int .i64 (X:Int),.int .u64 (Y:Int)] 77)
 replace hb0:=hb0.alloc (o:=.cells #[.bool ng,.int .i64 (X:Int),.int .u64 (Y:Int)] 77) (by omega)
 rw[←hB]
 generalize (w3.alloc (.cells #[.bool ng,.int .i64 (X:Int),.int .u64 (Y:Int)] 77))=v9 at*
 clear hB k3z
 obtain⟨k1c0,k1c1,k1z,k1f0,k1f1⟩:=k1.b2
 obtain⟨k2c0,k2c1,k2c2,k2c3,k2z,k2f0,k2f1,k2f2,k2f3⟩:=k2.b4
 obtain⟨k3c0,k3c1,k3c2,k3z,k3f0,k3f1,k3f2⟩:=k3.b3
 obtain⟨k4c0,k4c1,k4c2,k4z,k4f0,k4f1,k4f2⟩:=k4.b3
 go_wp2
 go_region
 go_wp2
 refine bodyPost_ret (v:=.tuple #[.agg #[.bool false,.int .u64 0,.int .i64 0,.bool false],.bool false,.agg #[.bool false,.string ⟨#[]⟩,.int .i64 0],.int .i64 8]) ?_ rfl ⟨rfl,(((((bel3 hb0 (w.heap.size+1) (by simp)).setCell (p:=⟨w.heap.size+1,3,none⟩) (by simp) _).setCell (p:=⟨w.heap.size+2,0,none⟩) (by simp) _).setCell (p:=⟨w.heap.size+2,1,none⟩) (by simp) _).setCell (p:=⟨w.heap.size+2,2,none⟩) (by simp) _).drew⟩
 refine results_open rfl _ _ (w.heap.size+1) (w.heap.size+2) _ _ _ _ _ _ _ _ _ _ ?_ ?_ ?_ ?_ (((((((k2.set_ 0 _).set_ 1 _).set_ 2 _).set_ 3 _).far (p:=⟨w.heap.size+2,0,none⟩) (by simp) _).far (p:=⟨w.heap.size+2,1,none⟩) (by simp) _).far (p:=⟨w.heap.size+2,2,none⟩) (by simp) _).drew (((((((k3.far (p:=⟨w.heap.size+1,0,none⟩) (by simp) _).far (p:=⟨w.heap.size+1,1,none⟩) (by simp) _).far (p:=⟨w.heap.size+1,2,none⟩) (by simp) _).far (p:=⟨w.heap.size+1,3,none⟩) (by simp) _).set_ 0 _).set_ 1 _).set_ 2 _).drew Tryz.underlying37 rfl (by kernel_rfl) Tryz.underlying26 rfl (by kernel_rfl)
 all_goals rfl

theorem open_zero (e f:Int) (b:Nat) (ng:Bool) (X Y:Nat) (hC:∀W,Calls Tryz.prog 31 #[.agg #[.int .i64 e,.int .i64 f],.int .u64 (b:Int)] W (Says W (.tuple #[.int .u8 1,.int .i64 0]))) (hS:∀W,Calls Tryz.prog 32 #[.agg #[.int .i64 e,.int .i64 f],.int .u64 (b:Int)] W (Says W (.tuple #[.agg #[.bool ng,.int .i64 (X:Int),.int .u64 (Y:Int)],.int .i64 0]))) (w:World):
 Calls Tryz.prog 10 #[.agg #[.int .i64 e,.int .i64 f],.int .u64 (b:Int)] w (Says w (.tuple #[.agg #[.bool false,.int .u64 0,.int .i64 0,.bool false],.bool false,.agg #[.bool ng,.string ⟨#[]⟩,.int .i64 0],.int .i64 0])):=by
 have hb0:Below w.heap.size w w:=Below.refl _ _
 go_enter Tryz.func10,Tryz.ntmps10
 go_upto_region 1 with fail
 obtain⟨v1,E_,hv1,k1,k2,k3⟩:=Blk.a3 w 23 #[.int .i64 e,.int .i64 f] 37 #[.bool false,.int .u64 0,.int .i64 0,.bool false] 26 #[.bool false,.string ⟨#[]⟩,.int .i64 0]
 replace hb0:=hb0.trans (hv1.mono hb0.size)
 rw[E_]
 clear hv1 E_
 obtain⟨k1c0,k1c1,k1z,k1f0,k1f1⟩:=k1.b2
 obtain⟨k2c0,k2c1,k2c2,k2c3,k2z,k2f0,k2f1,k2f2,k2f3⟩:=k2.b4
 obtain⟨k3c0,k3c1,k3c2,k3z,k3f0,k3f1,k3f2⟩:=k3.b3
 go_wp2_with fail
 clear k1c0 k1f0 k1c1 k1f1 k1z k2c0 k2f0 k2c1 k2f1 k2c2 k2f2 k2c3 k2f3 k2z k3c0 k3f0 k3c1 k3f1 k3c2 k3f2 k3z
 refine(hC _).mono ?_
 rintro e w2 ⟨rfl,hb2⟩
 replace hb0:=hb0.trans (hb2.mono hb0.size)
 replace k1:=k1.below hb2 k1.lt
 replace k2:=k2.below hb2 k2.lt
 replace k3:=k3.below hb2 k3.lt
 clear hb2
 obtain⟨k1c0,k1c1,k1z,k1f0,k1f1⟩:=k1.b2
 obtain⟨k2c0,k2c1,k2c2,k2c3,k2z,k2f0,k2f1,k2f2,k2f3⟩:=k2.b4
 obtain⟨k3c0,k3c1,k3c2,k3z,k3f0,k3f1,k3f2⟩:=k3.b3
 go_wp2_with fail
 clear k1c0 k1f0 k1c1 k1f1 k1z k2c0 k2f0 k2c1 k2f1 k2c2 k2f2 k2c3 k2f3 k2z k3c0 k3f0 k3c1 k3f1 k3c2 k3f2 k3z
 refine(hS _).mono ?_
 rintro e w3 ⟨rfl,hb3⟩
 replace hb0:=hb0.trans (hb3.mono hb0.size)
 replace k1:=k1.below hb3 k1.lt
 replace k2:=k2.below hb3 k2.lt
 replace k3:=k3.below hb3 k3.lt
 clear hb3
 go_upto_region 5 with fail
 obtain⟨B,hB⟩:∃B,B=w3.heap.size:=⟨_,rfl⟩
 have k3z:=k3.lt
 have hBz:w.heap.size+2<B:=by omega
 have k4:Blk (w3.alloc (.cells #[.bool ng,.int .i64 (X:Int),.int .u64 (Y:Int)] 77)) B 77 #[.bool ng,.int .i64 (X:Int),.int .u64 (Y:Int)]:=by rw[hB];exact Blk.new w3 77 #[.bool ng,.int .i64 (X:Int),.int .u64 (Y:Int)]
 replace k1:=k1.alloc (.cells #[.bool ng,.int .i64 (X:Int),.int .u64 (Y:Int)] 77)
 replace k2:=k2.alloc (.cells #[.bool ng,.int .i64 (X:Int),.int .u64 (Y:Int)] 77)
 replace k3:=k3.alloc (.cells #[.bool ng,.int .i64 (X:Int),.int .u64 (Y:Int)] 77)
 replace hb0:=hb0.alloc (o:=.cells #[.bool ng,.int .i64 (X:Int),.int .u64 (Y:Int)] 77) (by omega)
 rw[←hB]
 generalize (w3.alloc (.cells #[.bool ng,.int .i64 (X:Int),.int .u64 (Y:Int)] 77))=v9 at*
 clear hB k3z
 obtain⟨k1c0,k1c1,k1z,k1f0,k1f1⟩:=k1.b2
 obtain⟨k2c0,k2c1,k2c2,k2c3,k2z,k2f0,k2f1,k2f2,k2f3⟩:=k2.b4
 obtain⟨k3c0,k3c1,k3c2,k3z,k3f0,k3f1,k3f2⟩:=k3.b3
 obtain⟨k4c0,k4c1,k4c2,k4z,k4f0,k4f1,k4f2⟩:=k4.b3
 go_wp2
 go_region
 go_wp2
 refine bodyPost_ret (v:=.tuple #[.agg #[.bool false,.int .u64 0,.int .i64 0,.bool false],.bool false,.agg #[.bool ng,.string ⟨#[]⟩,.int .i64 0],.int .i64 0]) ?_ rfl ⟨rfl,(((((bel3 hb0 (w.heap.size+1) (by simp)).setCell (p:=⟨w.heap.size+1,3,none⟩) (by simp) _).setCell (p:=⟨w.heap.size+2,0,none⟩) (by simp) _).setCell (p:=⟨w.heap.size+2,1,none⟩) (by simp) _).setCell (p:=⟨w.heap.size+2,2,none⟩) (by simp) _).drew⟩
 refine results_open rfl _ _ (w.heap.size+1) (w.heap.size+2) _ _ _ _ _ _ _ _ _ _ ?_ ?_ ?_ ?_ (((((((k2.set_ 0 _).set_ 1 _).set_ 2 _).set_ 3 _).far (p:=⟨w.heap.size+2,0,none⟩) (by simp) _).far (p:=⟨w.heap.size+2,1,none⟩) (by simp) _).far (p:=⟨w.heap.size+2,2,none⟩) (by simp) _).drew (((((((k3.far (p:=⟨w.heap.size+1,0,none⟩) (by simp) _).far (p:=⟨w.heap.size+1,1,none⟩) (by simp) _).far (p:=⟨w.heap.size+1,2,none⟩) (by simp) _).far (p:=⟨w.heap.size+1,3,none⟩) (by simp) _).set_ 0 _).set_ 1 _).set_ 2 _).drew Tryz.underlying37 rfl (by kernel_rfl) Tryz.underlying26 rfl (by kernel_rfl)
 all_goals rfl

theorem open_small (e f:Int) (b:Nat) (ng:Bool) (X Y:Nat) (hE:2≤e∧e≤11) (E P:Nat) (hE2:e-1=(E:Int)) (hP:IntKind.i64.wrap (2^E)=(P:Int)) (hP2:P≤1024) (hf:1≤f∧f≤52) (hC:∀W,Calls Tryz.prog 31 #[.agg #[.int .i64 e,.int .i64 f],.int .u64 (b:Int)] W (Says W (.tuple #[.int .u8 2,.int .i64 0]))) (hS:∀W,Calls Tryz.prog 32 #[.agg #[.int .i64 e,.int .i64 f],.int .u64 (b:Int)] W (Says W (.tuple #[.agg #[.bool ng,.int .i64 (X:Int),.int .u64 (Y:Int)],.int .i64 0]))) (w:World):
 Calls Tryz.prog 10 #[.agg #[.int .i64 e,.int .i64 f],.int .u64 (b:Int)] w (Says w (.tuple #[.agg #[.bool ng,.int .u64 (Y:Int),.int .i64 (2-(P:Int)-f),.bool false],.bool true,.agg #[.bool false,.string ⟨#[]⟩,.int .i64 0],.int .i64 0])):=by
 have hb0:Below w.heap.size w w:=Below.refl _ _
 go_enter Tryz.func10,Tryz.ntmps10
 go_upto_region 1 with fail
 obtain⟨v1,E_,hv1,k1,k2,k3⟩:=Blk.a3 w 23 #[.int .i64 e,.int .i64 f] 37 #[.bool false,.int .u64 0,.int .i64 0,.bool false] 26 #[.bool false,.string ⟨#[]⟩,.int .i64 0]
 replace hb0:=hb0.trans (hv1.mono hb0.size)
 rw[E_]
 clear hv1 E_
 obtain⟨k1c0,k1c1,k1z,k1f0,k1f1⟩:=k1.b2
 obtain⟨k2c0,k2c1,k2c2,k2c3,k2z,k2f0,k2f1,k2f2,k2f3⟩:=k2.b4
 obtain⟨k3c0,k3c1,k3c2,k3z,k3f0,k3f1,k3f2⟩:=k3.b3
 go_wp2_with fail
 clear k1c0 k1f0 k1c1 k1f1 k1z k2c0 k2f0 k2c1 k2f1 k2c2 k2f2 k2c3 k2f3 k2z k3c0 k3f0 k3c1 k3f1 k3c2 k3f2 k3z
 refine(hC _).mono ?_
 rintro e w2 ⟨rfl,hb2⟩
 replace hb0:=hb0.trans (hb2.mono hb0.size)
 replace k1:=k1.below hb2 k1.lt
 replace k2:=k2.below hb2 k2.lt
 replace k3:=k3.below hb2 k3.lt
 clear hb2
 obtain⟨k1c0,k1c1,k1z,k1f0,k1f1⟩:=k1.b2
 obtain⟨k2c0,k2c1,k2c2,k2c3,k2z,k2f0,k2f1,k2f2,k2f3⟩:=k2.b4
 obtain⟨k3c0,k3c1,k3c2,k3z,k3f0,k3f1,k3f2⟩:=k3.b3
 go_wp2_with fail
 clear k1c0 k1f0 k1c1 k1f1 k1z k2c0 k2f0 k2c1 k2f1 k2c2 k2f2 k2c3 k2f3 k2z k3c0 k3f0 k3c1 k3f1 k3c2 k3f2 k3z
 refine(hS _).mono ?_
 rintro e w3 ⟨rfl,hb3⟩
 replace hb0:=hb0.trans (hb3.mono hb0.size)
 replace k1:=k1.below hb3 k1.lt
 replace k2:=k2.below hb3 k2.lt
 replace k3:=k3.below hb3 k3.lt
 clear hb3
 go_upto_region 5 with fail
 obtain⟨B,hB⟩:∃B,B=w3.heap.size:=⟨_,rfl⟩
 have k3z:=k3.lt
 have hBz:w.heap.size+2<B:=by omega
 have k4:Blk (w3.alloc (.cells #[.bool ng,.int .i64 (X:Int),.int .u64 (Y:Int)] 77)) B 77 #[.bool ng,.int .i64 (X:Int),.int .u64 (Y:Int)]:=by rw[hB];exact Blk.new w3 77 #[.bool ng,.int .i64 (X:Int),.int .u64 (Y:Int)]
 replace k1:=k1.alloc (.cells #[.bool ng,.int .i64 (X:Int),.int .u64 (Y:Int)] 77)
 replace k2:=k2.alloc (.cells #[.bool ng,.int .i64 (X:Int),.int .u64 (Y:Int)] 77)
 replace k3:=k3.alloc (.cells #[.bool ng,.int .i64 (X:Int),.int .u64 (Y:Int)] 77)
 replace hb0:=hb0.alloc (o:=.cells #[.bool ng,.int .i64 (X:Int),.int .u64 (Y:Int)] 77) (by omega)
 rw[←hB]
 generalize (w3.alloc (.cells #[.bool ng,.int .i64 (X:Int),.int .u64 (Y:Int)] 77))=v9 at*
 clear hB k3z
 obtain⟨k1c0,k1c1,k1z,k1f0,k1f1⟩:=k1.b2
 obtain⟨k2c0,k2c1,k2c2,k2c3,k2z,k2f0,k2f1,k2f2,k2f3⟩:=k2.b4
 obtain⟨k3c0,k3c1,k3c2,k3z,k3f0,k3f1,k3f2⟩:=k3.b3
 obtain⟨k4c0,k4c1,k4c2,k4z,k4f0,k4f1,k4f2⟩:=k4.b3
 go_wp2
 go_region
 go_upto_region 14 with fail
 clear k1c0 k1f0 k1c1 k1f1 k1z k2c0 k2f0 k2c1 k2f1 k2c2 k2f2 k2c3 k2f3 k2z k3c0 k3f0 k3c1 k3f1 k3c2 k3f2 k3z k4c0 k4f0 k4c1 k4f1 k4c2 k4f2 k4z
 refine(fun (HH:∀W,Blk W (w.heap.size) 23 #[.int .i64 e,.int .i64 f]∧Blk W (w.heap.size+1) 37 #[.bool ng,.int .u64 (Y:Int),.int .i64 (2-(P:Int)-f),.bool false]∧Blk W (w.heap.size+2) 26 #[.bool false,.string ⟨#[]⟩,.int .i64 0]∧Blk W (B) 77 #[.bool ng,.int .i64 (X:Int),.int .u64 (Y:Int)]∧Below w.heap.size w W→Code.wp _ _ _ _ W)=>HH _ ⟨by exact((((k1.far (p:=⟨w.heap.size+1,0,none⟩) (by show w.heap.size≠w.heap.size+1;omega) _).far (p:=⟨w.heap.size+1,1,none⟩) (by show w.heap.size≠w.heap.size+1;omega) _).far (p:=⟨w.heap.size+1,2,none⟩) (by show w.heap.size≠w.heap.size+1;omega) _).far (p:=⟨w.heap.size+1,3,none⟩) (by show w.heap.size≠w.heap.size+1;omega) _).drew,by exact((((k2.set_ 0 _).set_ 1 _).set_ 2 _).set_ 3 _).drew,by exact((((k3.far (p:=⟨w.heap.size+1,0,none⟩) (by show w.heap.size+2≠w.heap.size+1;omega) _).far (p:=⟨w.heap.size+1,1,none⟩) (by show w.heap.size+2≠w.heap.size+1;omega) _).far (p:=⟨w.heap.size+1,2,none⟩) (by show w.heap.size+2≠w.heap.size+1;omega) _).far (p:=⟨w.heap.size+1,3,none⟩) (by show w.heap.size+2≠w.heap.size+1;omega) _).drew,by exact((((k4.far (p:=⟨w.heap.size+1,0,none⟩) (by show B≠w.heap.size+1;omega) _).far (p:=⟨w.heap.size+1,1,none⟩) (by show B≠w.heap.size+1;omega) _).far (p:=⟨w.heap.size+1,2,none⟩) (by show B≠w.heap.size+1;omega) _).far (p:=⟨w.heap.size+1,3,none⟩) (by show B≠w.heap.size+1;omega) _).drew,by exact((((hb0.setCell (p:=⟨w.heap.size+1,0,none⟩) (by show w.heap.size≤w.heap.size+1;omega) _).setCell (p:=⟨w.heap.size+1,1,none⟩) (by show w.heap.size≤w.heap.size+1;omega) _).setCell (p:=⟨w.heap.size+1,2,none⟩) (by show w.heap.size≤w.heap.size+1;omega) _).setCell (p:=⟨w.heap.size+1,3,none⟩) (by show w.heap.size≤w.heap.size+1;omega) _).drew⟩) ?_
 clear k1 k2 k3 k4 hb0
 rintro u1 ⟨k1,k2,k3,k4,hb0⟩
 obtain⟨k1c0,k1c1,k1z,k1f0,k1f1⟩:=k1.b2
 obtain⟨k2c0,k2c1,k2c2,k2c3,k2z,k2f0,k2f1,k2f2,k2f3⟩:=k2.b4
 obtain⟨k3c0,k3c1,k3c2,k3z,k3f0,k3f1,k3f2⟩:=k3.b3
 obtain⟨k4c0,k4c1,k4c2,k4z,k4f0,k4f1,k4f2⟩:=k4.b3
 go_wp2
 go_region
 go_wp2
 refine bodyPost_ret (v:=.tuple #[.agg #[.bool ng,.int .u64 (Y:Int),.int .i64 (2-(P:Int)-f),.bool false],.bool true,.agg #[.bool false,.string ⟨#[]⟩,.int .i64 0],.int .i64 0]) ?_ rfl ⟨rfl,(((((bel3 hb0 (w.heap.size+1) (by simp)).setCell (p:=⟨w.heap.size+1,3,none⟩) (by simp) _).setCell (p:=⟨w.heap.size+2,0,none⟩) (by simp) _).setCell (p:=⟨w.heap.size+2,1,none⟩) (by simp) _).setCell (p:=⟨w.heap.size+2,2,none⟩) (by simp) _).drew⟩
 refine results_open rfl _ _ (w.heap.size+1) (w.heap.size+2) _ _ _ _ _ _ _ _ _ _ ?_ ?_ ?_ ?_ (((((((k2.set_ 0 _).set_ 1 _).set_ 2 _).set_ 3 _).far (p:=⟨w.heap.size+2,0,none⟩) (by simp) _).far (p:=⟨w.heap.size+2,1,none⟩) (by simp) _).far (p:=⟨w.heap.size+2,2,none⟩) (by simp) _).drew (((((((k3.far (p:=⟨w.heap.size+1,0,none⟩) (by simp) _).far (p:=⟨w.heap.size+1,1,none⟩) (by simp) _).far (p:=⟨w.heap.size+1,2,none⟩) (by simp) _).far (p:=⟨w.heap.size+1,3,none⟩) (by simp) _).set_ 0 _).set_ 1 _).set_ 2 _).drew Tryz.underlying37 rfl (by kernel_rfl) Tryz.underlying26 rfl (by kernel_rfl)
 all_goals rfl

theorem open_norma (e:Int) (F:Nat) (b:Nat) (ng:Bool) (X Y:Nat) (hE:2≤e∧e≤11) (E P:Nat) (hE2:e-1=(E:Int)) (hP:IntKind.i64.wrap (2^E)=(P:Int)) (hP2:P≤1024) (hf:1≤(F:Int)∧(F:Int)≤52) (Q M:Nat) (hX:X≤4096) (hQ:IntKind.u64.wrap (2^F)=(Q:Int)) (hM:bits BinOp.or IntKind.u64 (Y:Int) (Q:Int)=(M:Int)) (y0:((Y:Int)==0)=true) (x1:decide ((1:Int)<(X:Int))=true) (x2:decide (1<X)=true) (hC:∀W,Calls Tryz.prog 31 #[.agg #[.int .i64 e,.int .i64 (F:Int)],.int .u64 (b:Int)] W (Says W (.tuple #[.int .u8 3,.int .i64 0]))) (hS:∀W,Calls Tryz.prog 32 #[.agg #[.int .i64 e,.int .i64 (F:Int)],.int .u64 (b:Int)] W (Says W (.tuple #[.agg #[.bool ng,.int .i64 (X:Int),.int .u64 (Y:Int)],.int .i64 0]))) (w:World):
 Calls Tryz.prog 10 #[.agg #[.int .i64 e,.int .i64 (F:Int)],.int .u64 (b:Int)] w (Says w (.tuple #[.agg #[.bool ng,.int .u64 (M:Int),.int .i64 ((2-(P:Int)-(F:Int))+((X:Int)-1)),.bool true],.bool true,.agg #[.bool false,.string ⟨#[]⟩,.int .i64 0],.int .i64 0])):=by
 have hb0:Below w.heap.size w w:=Below.refl _ _
 go_enter Tryz.func10,Tryz.ntmps10
 go_upto_region 1 with fail
 obtain⟨v1,E_,hv1,k1,k2,k3⟩:=Blk.a3 w 23 #[.int .i64 e,.int .i64 (F:Int)] 37 #[.bool false,.int .u64 0,.int .i64 0,.bool false] 26 #[.bool false,.string ⟨#[]⟩,.int .i64 0]
 replace hb0:=hb0.trans (hv1.mono hb0.size)
 rw[E_]
 clear hv1 E_
 obtain⟨k1c0,k1c1,k1z,k1f0,k1f1⟩:=k1.b2
 obtain⟨k2c0,k2c1,k2c2,k2c3,k2z,k2f0,k2f1,k2f2,k2f3⟩:=k2.b4
 obtain⟨k3c0,k3c1,k3c2,k3z,k3f0,k3f1,k3f2⟩:=k3.b3
 go_wp2_with fail
 clear k1c0 k1f0 k1c1 k1f1 k1z k2c0 k2f0 k2c1 k2f1 k2c2 k2f2 k2c3 k2f3 k2z k3c0 k3f0 k3c1 k3f1 k3c2 k3f2 k3z
 refine(hC _).mono ?_
 rintro e w2 ⟨rfl,hb2⟩
 replace hb0:=hb0.trans (hb2.mono hb0.size)
 replace k1:=k1.below hb2 k1.lt
 replace k2:=k2.below hb2 k2.lt
 replace k3:=k3.below hb2 k3.lt
 clear hb2
 obtain⟨k1c0,k1c1,k1z,k1f0,k1f1⟩:=k1.b2
 obtain⟨k2c0,k2c1,k2c2,k2c3,k2z,k2f0,k2f1,k2f2,k2f3⟩:=k2.b4
 obtain⟨k3c0,k3c1,k3c2,k3z,k3f0,k3f1,k3f2⟩:=k3.b3
 go_wp2_with fail
 clear k1c0 k1f0 k1c1 k1f1 k1z k2c0 k2f0 k2c1 k2f1 k2c2 k2f2 k2c3 k2f3 k2z k3c0 k3f0 k3c1 k3f1 k3c2 k3f2 k3z
 refine(hS _).mono ?_
 rintro e w3 ⟨rfl,hb3⟩
 replace hb0:=hb0.trans (hb3.mono hb0.size)
 replace k1:=k1.below hb3 k1.lt
 replace k2:=k2.below hb3 k2.lt
 replace k3:=k3.below hb3 k3.lt
 clear hb3
 go_upto_region 5 with fail
 obtain⟨B,hB⟩:∃B,B=w3.heap.size:=⟨_,rfl⟩
 have k3z:=k3.lt
 have hBz:w.heap.size+2<B:=by omega
 have k4:Blk (w3.alloc (.cells #[.bool ng,.int .i64 (X:Int),.int .u64 (Y:Int)] 77)) B 77 #[.bool ng,.int .i64 (X:Int),.int .u64 (Y:Int)]:=by rw[hB];exact Blk.new w3 77 #[.bool ng,.int .i64 (X:Int),.int .u64 (Y:Int)]
 replace k1:=k1.alloc (.cells #[.bool ng,.int .i64 (X:Int),.int .u64 (Y:Int)] 77)
 replace k2:=k2.alloc (.cells #[.bool ng,.int .i64 (X:Int),.int .u64 (Y:Int)] 77)
 replace k3:=k3.alloc (.cells #[.bool ng,.int .i64 (X:Int),.int .u64 (Y:Int)] 77)
 replace hb0:=hb0.alloc (o:=.cells #[.bool ng,.int .i64 (X:Int),.int .u64 (Y:Int)] 77) (by omega)
 rw[←hB]
 generalize (w3.alloc (.cells #[.bool ng,.int .i64 (X:Int),.int .u64 (Y:Int)] 77))=v9 at*
 clear hB k3z
 obtain⟨k1c0,k1c1,k1z,k1f0,k1f1⟩:=k1.b2
 obtain⟨k2c0,k2c1,k2c2,k2c3,k2z,k2f0,k2f1,k2f2,k2f3⟩:=k2.b4
 obtain⟨k3c0,k3c1,k3c2,k3z,k3f0,k3f1,k3f2⟩:=k3.b3
 obtain⟨k4c0,k4c1,k4c2,k4z,k4f0,k4f1,k4f2⟩:=k4.b3
 go_wp2
 go_region
 go_upto_region 14 with fail
 clear k1c0 k1f0 k1c1 k1f1 k1z k2c0 k2f0 k2c1 k2f1 k2c2 k2f2 k2c3 k2f3 k2z k3c0 k3f0 k3c1 k3f1 k3c2 k3f2 k3z k4c0 k4f0 k4c1 k4f1 k4c2 k4f2 k4z
 refine(fun (HH:∀W,Blk W (w.heap.size) 23 #[.int .i64 e,.int .i64 (F:Int)]∧Blk W (w.heap.size+1) 37 #[.bool ng,.int .u64 (Y:Int),.int .i64 (2-(P:Int)-(F:Int)),.bool false]∧Blk W (w.heap.size+2) 26 #[.bool false,.string ⟨#[]⟩,.int .i64 0]∧Blk W (B) 77 #[.bool ng,.int .i64 (X:Int),.int .u64 (Y:Int)]∧Below w.heap.size w W→Code.wp _ _ _ _ W)=>HH _ ⟨by exact((((k1.far (p:=⟨w.heap.size+1,0,none⟩) (by show w.heap.size≠w.heap.size+1;omega) _).far (p:=⟨w.heap.size+1,1,none⟩) (by show w.heap.size≠w.heap.size+1;omega) _).far (p:=⟨w.heap.size+1,2,none⟩) (by show w.heap.size≠w.heap.size+1;omega) _).far (p:=⟨w.heap.size+1,3,none⟩) (by show w.heap.size≠w.heap.size+1;omega) _).drew,by exact((((k2.set_ 0 _).set_ 1 _).set_ 2 _).set_ 3 _).drew,by exact((((k3.far (p:=⟨w.heap.size+1,0,none⟩) (by show w.heap.size+2≠w.heap.size+1;omega) _).far (p:=⟨w.heap.size+1,1,none⟩) (by show w.heap.size+2≠w.heap.size+1;omega) _).far (p:=⟨w.heap.size+1,2,none⟩) (by show w.heap.size+2≠w.heap.size+1;omega) _).far (p:=⟨w.heap.size+1,3,none⟩) (by show w.heap.size+2≠w.heap.size+1;omega) _).drew,by exact((((k4.far (p:=⟨w.heap.size+1,0,none⟩) (by show B≠w.heap.size+1;omega) _).far (p:=⟨w.heap.size+1,1,none⟩) (by show B≠w.heap.size+1;omega) _).far (p:=⟨w.heap.size+1,2,none⟩) (by show B≠w.heap.size+1;omega) _).far (p:=⟨w.heap.size+1,3,none⟩) (by show B≠w.heap.size+1;omega) _).drew,by exact((((hb0.setCell (p:=⟨w.heap.size+1,0,none⟩) (by show w.heap.size≤w.heap.size+1;omega) _).setCell (p:=⟨w.heap.size+1,1,none⟩) (by show w.heap.size≤w.heap.size+1;omega) _).setCell (p:=⟨w.heap.size+1,2,none⟩) (by show w.heap.size≤w.heap.size+1;omega) _).setCell (p:=⟨w.heap.size+1,3,none⟩) (by show w.heap.size≤w.heap.size+1;omega) _).drew⟩) ?_
 clear k1 k2 k3 k4 hb0
 rintro u1 ⟨k1,k2,k3,k4,hb0⟩
 obtain⟨k1c0,k1c1,k1z,k1f0,k1f1⟩:=k1.b2
 obtain⟨k2c0,k2c1,k2c2,k2c3,k2z,k2f0,k2f1,k2f2,k2f3⟩:=k2.b4
 obtain⟨k3c0,k3c1,k3c2,k3z,k3f0,k3f1,k3f2⟩:=k3.b3
 obtain⟨k4c0,k4c1,k4c2,k4z,k4f0,k4f1,k4f2⟩:=k4.b3
 go_wp2
 go_region
 go_upto_region 16 with fail
 clear k1c0 k1f0 k1c1 k1f1 k1z k2c0 k2f0 k2c1 k2f1 k2c2 k2f2 k2c3 k2f3 k2z k3c0 k3f0 k3c1 k3f1 k3c2 k3f2 k3z k4c0 k4f0 k4c1 k4f1 k4c2 k4f2 k4z
 refine(fun (HH:∀W,Blk W (w.heap.size) 23 #[.int .i64 e,.int .i64 (F:Int)]∧Blk W (w.heap.size+1) 37 #[.bool ng,.int .u64 (M:Int),.int .i64 (2-(P:Int)-(F:Int)),.bool false]∧Blk W (w.heap.size+2) 26 #[.bool false,.string ⟨#[]⟩,.int .i64 0]∧Blk W (B) 77 #[.bool ng,.int .i64 (X:Int),.int .u64 (Y:Int)]∧Below w.heap.size w W→Code.wp _ _ _ _ W)=>HH _ ⟨by exact(k1.far (p:=⟨w.heap.size+1,1,none⟩) (by show w.heap.size≠w.heap.size+1;omega) _).drew,by exact(k2.set_ 1 _).drew,by exact(k3.far (p:=⟨w.heap.size+1,1,none⟩) (by show w.heap.size+2≠w.heap.size+1;omega) _).drew,by exact(k4.far (p:=⟨w.heap.size+1,1,none⟩) (by show B≠w.heap.size+1;omega) _).drew,by exact(hb0.setCell (p:=⟨w.heap.size+1,1,none⟩) (by show w.heap.size≤w.heap.size+1;omega) _).drew⟩) ?_
 clear k1 k2 k3 k4 hb0
 rintro u2 ⟨k1,k2,k3,k4,hb0⟩
 obtain⟨k1c0,k1c1,k1z,k1f0,k1f1⟩:=k1.b2
 obtain⟨k2c0,k2c1,k2c2,k2c3,k2z,k2f0,k2f1,k2f2,k2f3⟩:=k2.b4
 obtain⟨k3c0,k3c1,k3c2,k3z,k3f0,k3f1,k3f2⟩:=k3.b3
 obtain⟨k4c0,k4c1,k4c2,k4z,k4f0,k4f1,k4f2⟩:=k4.b3
 go_upto_region 17 with fail
 clear k1c0 k1f0 k1c1 k1f1 k1z k2c0 k2f0 k2c1 k2f1 k2c2 k2f2 k2c3 k2f3 k2z k3c0 k3f0 k3c1 k3f1 k3c2 k3f2 k3z k4c0 k4f0 k4c1 k4f1 k4c2 k4f2 k4z
 refine(fun (HH:∀W,Blk W (w.heap.size) 23 #[.int .i64 e,.int .i64 (F:Int)]∧Blk W (w.heap.size+1) 37 #[.bool ng,.int .u64 (M:Int),.int .i64 ((2-(P:Int)-(F:Int))+((X:Int)-1)),.bool false]∧Blk W (w.heap.size+2) 26 #[.bool false,.string ⟨#[]⟩,.int .i64 0]∧Blk W (B) 77 #[.bool ng,.int .i64 (X:Int),.int .u64 (Y:Int)]∧Below w.heap.size w W→Code.wp _ _ _ _ W)=>HH _ ⟨by exact(k1.far (p:=⟨w.heap.size+1,2,none⟩) (by show w.heap.size≠w.heap.size+1;omega) _),by exact(k2.set_ 2 _),by exact(k3.far (p:=⟨w.heap.size+1,2,none⟩) (by show w.heap.size+2≠w.heap.size+1;omega) _),by exact(k4.far (p:=⟨w.heap.size+1,2,none⟩) (by show B≠w.heap.size+1;omega) _),by exact(hb0.setCell (p:=⟨w.heap.size+1,2,none⟩) (by show w.heap.size≤w.heap.size+1;omega) _)⟩) ?_
 clear k1 k2 k3 k4 hb0
 rintro u3 ⟨k1,k2,k3,k4,hb0⟩
 obtain⟨k1c0,k1c1,k1z,k1f0,k1f1⟩:=k1.b2
 obtain⟨k2c0,k2c1,k2c2,k2c3,k2z,k2f0,k2f1,k2f2,k2f3⟩:=k2.b4
 obtain⟨k3c0,k3c1,k3c2,k3z,k3f0,k3f1,k3f2⟩:=k3.b3
 obtain⟨k4c0,k4c1,k4c2,k4z,k4f0,k4f1,k4f2⟩:=k4.b3
 go_upto_region 18 with fail
 clear k1c0 k1f0 k1c1 k1f1 k1z k2c0 k2f0 k2c1 k2f1 k2c2 k2f2 k2c3 k2f3 k2z k3c0 k3f0 k3c1 k3f1 k3c2 k3f2 k3z k4c0 k4f0 k4c1 k4f1 k4c2 k4f2 k4z
 refine(fun (HH:∀W,Blk W (w.heap.size) 23 #[.int .i64 e,.int .i64 (F:Int)]∧Blk W (w.heap.size+1) 37 #[.bool ng,.int .u64 (M:Int),.int .i64 ((2-(P:Int)-(F:Int))+((X:Int)-1)),.bool true]∧Blk W (w.heap.size+2) 26 #[.bool false,.string ⟨#[]⟩,.int .i64 0]∧Blk W (B) 77 #[.bool ng,.int .i64 (X:Int),.int .u64 (Y:Int)]∧Below w.heap.size w W→Code.wp _ _ _ _ W)=>HH _ ⟨by exact(k1.far (p:=⟨w.heap.size+1,3,none⟩) (by show w.heap.size≠w.heap.size+1;omega) _),by exact(k2.set_ 3 _),by exact(k3.far (p:=⟨w.heap.size+1,3,none⟩) (by show w.heap.size+2≠w.heap.size+1;omega) _),by exact(k4.far (p:=⟨w.heap.size+1,3,none⟩) (by show B≠w.heap.size+1;omega) _),by exact(hb0.setCell (p:=⟨w.heap.size+1,3,none⟩) (by show w.heap.size≤w.heap.size+1;omega) _)⟩) ?_
 clear k1 k2 k3 k4 hb0
 rintro u4 ⟨k1,k2,k3,k4,hb0⟩
 obtain⟨k1c0,k1c1,k1z,k1f0,k1f1⟩:=k1.b2
 obtain⟨k2c0,k2c1,k2c2,k2c3,k2z,k2f0,k2f1,k2f2,k2f3⟩:=k2.b4
 obtain⟨k3c0,k3c1,k3c2,k3z,k3f0,k3f1,k3f2⟩:=k3.b3
 obtain⟨k4c0,k4c1,k4c2,k4z,k4f0,k4f1,k4f2⟩:=k4.b3
 go_region
 go_wp2
 refine bodyPost_ret (v:=.tuple #[.agg #[.bool ng,.int .u64 (M:Int),.int .i64 ((2-(P:Int)-(F:Int))+((X:Int)-1)),.bool true],.bool true,.agg #[.bool false,.string ⟨#[]⟩,.int .i64 0],.int .i64 0]) ?_ rfl ⟨rfl,(((((bel3 hb0 (w.heap.size+1) (by simp)).setCell (p:=⟨w.heap.size+1,3,none⟩) (by simp) _).setCell (p:=⟨w.heap.size+2,0,none⟩) (by simp) _).setCell (p:=⟨w.heap.size+2,1,none⟩) (by simp) _).setCell (p:=⟨w.heap.size+2,2,none⟩) (by simp) _).drew⟩
 refine results_open rfl _ _ (w.heap.size+1) (w.heap.size+2) _ _ _ _ _ _ _ _ _ _ ?_ ?_ ?_ ?_ (((((((k2.set_ 0 _).set_ 1 _).set_ 2 _).set_ 3 _).far (p:=⟨w.heap.size+2,0,none⟩) (by simp) _).far (p:=⟨w.heap.size+2,1,none⟩) (by simp) _).far (p:=⟨w.heap.size+2,2,none⟩) (by simp) _).drew (((((((k3.far (p:=⟨w.heap.size+1,0,none⟩) (by simp) _).far (p:=⟨w.heap.size+1,1,none⟩) (by simp) _).far (p:=⟨w.heap.size+1,2,none⟩) (by simp) _).far (p:=⟨w.heap.size+1,3,none⟩) (by simp) _).set_ 0 _).set_ 1 _).set_ 2 _).drew Tryz.underlying37 rfl (by kernel_rfl) Tryz.underlying26 rfl (by kernel_rfl)
 all_goals rfl

theorem open_normb (e:Int) (F:Nat) (b:Nat) (ng:Bool) (X Y:Nat) (hE:2≤e∧e≤11) (E P:Nat) (hE2:e-1=(E:Int)) (hP:IntKind.i64.wrap (2^E)=(P:Int)) (hP2:P≤1024) (hf:1≤(F:Int)∧(F:Int)≤52) (Q M:Nat) (hX:X≤4096) (hQ:IntKind.u64.wrap (2^F)=(Q:Int)) (hM:bits BinOp.or IntKind.u64 (Y:Int) (Q:Int)=(M:Int)) (y0:((Y:Int)==0)=true) (x1:decide ((1:Int)<(X:Int))=false) (x2:decide (1<X)=false) (hC:∀W,Calls Tryz.prog 31 #[.agg #[.int .i64 e,.int .i64 (F:Int)],.int .u64 (b:Int)] W (Says W (.tuple #[.int .u8 3,.int .i64 0]))) (hS:∀W,Calls Tryz.prog 32 #[.agg #[.int .i64 e,.int .i64 (F:Int)],.int .u64 (b:Int)] W (Says W (.tuple #[.agg #[.bool ng,.int .i64 (X:Int),.int .u64 (Y:Int)],.int .i64 0]))) (w:World):
 Calls Tryz.prog 10 #[.agg #[.int .i64 e,.int .i64 (F:Int)],.int .u64 (b:Int)] w (Says w (.tuple #[.agg #[.bool ng,.int .u64 (M:Int),.int .i64 ((2-(P:Int)-(F:Int))+((X:Int)-1)),.bool false],.bool true,.agg #[.bool false,.string ⟨#[]⟩,.int .i64 0],.int .i64 0])):=by
 have hb0:Below w.heap.size w w:=Below.refl _ _
 go_enter Tryz.func10,Tryz.ntmps10
 go_upto_region 1 with fail
 obtain⟨v1,E_,hv1,k1,k2,k3⟩:=Blk.a3 w 23 #[.int .i64 e,.int .i64 (F:Int)] 37 #[.bool false,.int .u64 0,.int .i64 0,.bool false] 26 #[.bool false,.string ⟨#[]⟩,.int .i64 0]
 replace hb0:=hb0.trans (hv1.mono hb0.size)
 rw[E_]
 clear hv1 E_
 obtain⟨k1c0,k1c1,k1z,k1f0,k1f1⟩:=k1.b2
 obtain⟨k2c0,k2c1,k2c2,k2c3,k2z,k2f0,k2f1,k2f2,k2f3⟩:=k2.b4
 obtain⟨k3c0,k3c1,k3c2,k3z,k3f0,k3f1,k3f2⟩:=k3.b3
 go_wp2_with fail
 clear k1c0 k1f0 k1c1 k1f1 k1z k2c0 k2f0 k2c1 k2f1 k2c2 k2f2 k2c3 k2f3 k2z k3c0 k3f0 k3c1 k3f1 k3c2 k3f2 k3z
 refine(hC _).mono ?_
 rintro e w2 ⟨rfl,hb2⟩
 replace hb0:=hb0.trans (hb2.mono hb0.size)
 replace k1:=k1.below hb2 k1.lt
 replace k2:=k2.below hb2 k2.lt
 replace k3:=k3.below hb2 k3.lt
 clear hb2
 obtain⟨k1c0,k1c1,k1z,k1f0,k1f1⟩:=k1.b2
 obtain⟨k2c0,k2c1,k2c2,k2c3,k2z,k2f0,k2f1,k2f2,k2f3⟩:=k2.b4
 obtain⟨k3c0,k3c1,k3c2,k3z,k3f0,k3f1,k3f2⟩:=k3.b3
 go_wp2_with fail
 clear k1c0 k1f0 k1c1 k1f1 k1z k2c0 k2f0 k2c1 k2f1 k2c2 k2f2 k2c3 k2f3 k2z k3c0 k3f0 k3c1 k3f1 k3c2 k3f2 k3z
 refine(hS _).mono ?_
 rintro e w3 ⟨rfl,hb3⟩
 replace hb0:=hb0.trans (hb3.mono hb0.size)
 replace k1:=k1.below hb3 k1.lt
 replace k2:=k2.below hb3 k2.lt
 replace k3:=k3.below hb3 k3.lt
 clear hb3
 go_upto_region 5 with fail
 obtain⟨B,hB⟩:∃B,B=w3.heap.size:=⟨_,rfl⟩
 have k3z:=k3.lt
 have hBz:w.heap.size+2<B:=by omega
 have k4:Blk (w3.alloc (.cells #[.bool ng,.int .i64 (X:Int),.int .u64 (Y:Int)] 77)) B 77 #[.bool ng,.int .i64 (X:Int),.int .u64 (Y:Int)]:=by rw[hB];exact Blk.new w3 77 #[.bool ng,.int .i64 (X:Int),.int .u64 (Y:Int)]
 replace k1:=k1.alloc (.cells #[.bool ng,.int .i64 (X:Int),.int .u64 (Y:Int)] 77)
 replace k2:=k2.alloc (.cells #[.bool ng,.int .i64 (X:Int),.int .u64 (Y:Int)] 77)
 replace k3:=k3.alloc (.cells #[.bool ng,.int .i64 (X:Int),.int .u64 (Y:Int)] 77)
 replace hb0:=hb0.alloc (o:=.cells #[.bool ng,.int .i64 (X:Int),.int .u64 (Y:Int)] 77) (by omega)
 rw[←hB]
 generalize (w3.alloc (.cells #[.bool ng,.int .i64 (X:Int),.int .u64 (Y:Int)] 77))=v9 at*
 clear hB k3z
 obtain⟨k1c0,k1c1,k1z,k1f0,k1f1⟩:=k1.b2
 obtain⟨k2c0,k2c1,k2c2,k2c3,k2z,k2f0,k2f1,k2f2,k2f3⟩:=k2.b4
 obtain⟨k3c0,k3c1,k3c2,k3z,k3f0,k3f1,k3f2⟩:=k3.b3
 obtain⟨k4c0,k4c1,k4c2,k4z,k4f0,k4f1,k4f2⟩:=k4.b3
 go_wp2
 go_region
 go_upto_region 14 with fail
 clear k1c0 k1f0 k1c1 k1f1 k1z k2c0 k2f0 k2c1 k2f1 k2c2 k2f2 k2c3 k2f3 k2z k3c0 k3f0 k3c1 k3f1 k3c2 k3f2 k3z k4c0 k4f0 k4c1 k4f1 k4c2 k4f2 k4z
 refine(fun (HH:∀W,Blk W (w.heap.size) 23 #[.int .i64 e,.int .i64 (F:Int)]∧Blk W (w.heap.size+1) 37 #[.bool ng,.int .u64 (Y:Int),.int .i64 (2-(P:Int)-(F:Int)),.bool false]∧Blk W (w.heap.size+2) 26 #[.bool false,.string ⟨#[]⟩,.int .i64 0]∧Blk W (B) 77 #[.bool ng,.int .i64 (X:Int),.int .u64 (Y:Int)]∧Below w.heap.size w W→Code.wp _ _ _ _ W)=>HH _ ⟨by exact((((k1.far (p:=⟨w.heap.size+1,0,none⟩) (by show w.heap.size≠w.heap.size+1;omega) _).far (p:=⟨w.heap.size+1,1,none⟩) (by show w.heap.size≠w.heap.size+1;omega) _).far (p:=⟨w.heap.size+1,2,none⟩) (by show w.heap.size≠w.heap.size+1;omega) _).far (p:=⟨w.heap.size+1,3,none⟩) (by show w.heap.size≠w.heap.size+1;omega) _).drew,by exact((((k2.set_ 0 _).set_ 1 _).set_ 2 _).set_ 3 _).drew,by exact((((k3.far (p:=⟨w.heap.size+1,0,none⟩) (by show w.heap.size+2≠w.heap.size+1;omega) _).far (p:=⟨w.heap.size+1,1,none⟩) (by show w.heap.size+2≠w.heap.size+1;omega) _).far (p:=⟨w.heap.size+1,2,none⟩) (by show w.heap.size+2≠w.heap.size+1;omega) _).far (p:=⟨w.heap.size+1,3,none⟩) (by show w.heap.size+2≠w.heap.size+1;omega) _).drew,by exact((((k4.far (p:=⟨w.heap.size+1,0,none⟩) (by show B≠w.heap.size+1;omega) _).far (p:=⟨w.heap.size+1,1,none⟩) (by show B≠w.heap.size+1;omega) _).far (p:=⟨w.heap.size+1,2,none⟩) (by show B≠w.heap.size+1;omega) _).far (p:=⟨w.heap.size+1,3,none⟩) (by show B≠w.heap.size+1;omega) _).drew,by exact((((hb0.setCell (p:=⟨w.heap.size+1,0,none⟩) (by show w.heap.size≤w.heap.size+1;omega) _).setCell (p:=⟨w.heap.size+1,1,none⟩) (by show w.heap.size≤w.heap.size+1;omega) _).setCell (p:=⟨w.heap.size+1,2,none⟩) (by show w.heap.size≤w.heap.size+1;omega) _).setCell (p:=⟨w.heap.size+1,3,none⟩) (by show w.heap.size≤w.heap.size+1;omega) _).drew⟩) ?_
 clear k1 k2 k3 k4 hb0
 rintro u1 ⟨k1,k2,k3,k4,hb0⟩
 obtain⟨k1c0,k1c1,k1z,k1f0,k1f1⟩:=k1.b2
 obtain⟨k2c0,k2c1,k2c2,k2c3,k2z,k2f0,k2f1,k2f2,k2f3⟩:=k2.b4
 obtain⟨k3c0,k3c1,k3c2,k3z,k3f0,k3f1,k3f2⟩:=k3.b3
 obtain⟨k4c0,k4c1,k4c2,k4z,k4f0,k4f1,k4f2⟩:=k4.b3
 go_wp2
 go_region
 go_upto_region 16 with fail
 clear k1c0 k1f0 k1c1 k1f1 k1z k2c0 k2f0 k2c1 k2f1 k2c2 k2f2 k2c3 k2f3 k2z k3c0 k3f0 k3c1 k3f1 k3c2 k3f2 k3z k4c0 k4f0 k4c1 k4f1 k4c2 k4f2 k4z
 refine(fun (HH:∀W,Blk W (w.heap.size) 23 #[.int .i64 e,.int .i64 (F:Int)]∧Blk W (w.heap.size+1) 37 #[.bool ng,.int .u64 (M:Int),.int .i64 (2-(P:Int)-(F:Int)),.bool false]∧Blk W (w.heap.size+2) 26 #[.bool false,.string ⟨#[]⟩,.int .i64 0]∧Blk W (B) 77 #[.bool ng,.int .i64 (X:Int),.int .u64 (Y:Int)]∧Below w.heap.size w W→Code.wp _ _ _ _ W)=>HH _ ⟨by exact(k1.far (p:=⟨w.heap.size+1,1,none⟩) (by show w.heap.size≠w.heap.size+1;omega) _).drew,by exact(k2.set_ 1 _).drew,by exact(k3.far (p:=⟨w.heap.size+1,1,none⟩) (by show w.heap.size+2≠w.heap.size+1;omega) _).drew,by exact(k4.far (p:=⟨w.heap.size+1,1,none⟩) (by show B≠w.heap.size+1;omega) _).drew,by exact(hb0.setCell (p:=⟨w.heap.size+1,1,none⟩) (by show w.heap.size≤w.heap.size+1;omega) _).drew⟩) ?_
 clear k1 k2 k3 k4 hb0
 rintro u2 ⟨k1,k2,k3,k4,hb0⟩
 obtain⟨k1c0,k1c1,k1z,k1f0,k1f1⟩:=k1.b2
 obtain⟨k2c0,k2c1,k2c2,k2c3,k2z,k2f0,k2f1,k2f2,k2f3⟩:=k2.b4
 obtain⟨k3c0,k3c1,k3c2,k3z,k3f0,k3f1,k3f2⟩:=k3.b3
 obtain⟨k4c0,k4c1,k4c2,k4z,k4f0,k4f1,k4f2⟩:=k4.b3
 go_upto_region 17 with fail
 clear k1c0 k1f0 k1c1 k1f1 k1z k2c0 k2f0 k2c1 k2f1 k2c2 k2f2 k2c3 k2f3 k2z k3c0 k3f0 k3c1 k3f1 k3c2 k3f2 k3z k4c0 k4f0 k4c1 k4f1 k4c2 k4f2 k4z
 refine(fun (HH:∀W,Blk W (w.heap.size) 23 #[.int .i64 e,.int .i64 (F:Int)]∧Blk W (w.heap.size+1) 37 #[.bool ng,.int .u64 (M:Int),.int .i64 ((2-(P:Int)-(F:Int))+((X:Int)-1)),.bool false]∧Blk W (w.heap.size+2) 26 #[.bool false,.string ⟨#[]⟩,.int .i64 0]∧Blk W (B) 77 #[.bool ng,.int .i64 (X:Int),.int .u64 (Y:Int)]∧Below w.heap.size w W→Code.wp _ _ _ _ W)=>HH _ ⟨by exact(k1.far (p:=⟨w.heap.size+1,2,none⟩) (by show w.heap.size≠w.heap.size+1;omega) _),by exact(k2.set_ 2 _),by exact(k3.far (p:=⟨w.heap.size+1,2,none⟩) (by show w.heap.size+2≠w.heap.size+1;omega) _),by exact(k4.far (p:=⟨w.heap.size+1,2,none⟩) (by show B≠w.heap.size+1;omega) _),by exact(hb0.setCell (p:=⟨w.heap.size+1,2,none⟩) (by show w.heap.size≤w.heap.size+1;omega) _)⟩) ?_
 clear k1 k2 k3 k4 hb0
 rintro u3 ⟨k1,k2,k3,k4,hb0⟩
 obtain⟨k1c0,k1c1,k1z,k1f0,k1f1⟩:=k1.b2
 obtain⟨k2c0,k2c1,k2c2,k2c3,k2z,k2f0,k2f1,k2f2,k2f3⟩:=k2.b4
 obtain⟨k3c0,k3c1,k3c2,k3z,k3f0,k3f1,k3f2⟩:=k3.b3
 obtain⟨k4c0,k4c1,k4c2,k4z,k4f0,k4f1,k4f2⟩:=k4.b3
 go_upto_region 18 with fail
 clear k1c0 k1f0 k1c1 k1f1 k1z k2c0 k2f0 k2c1 k2f1 k2c2 k2f2 k2c3 k2f3 k2z k3c0 k3f0 k3c1 k3f1 k3c2 k3f2 k3z k4c0 k4f0 k4c1 k4f1 k4c2 k4f2 k4z
 refine(fun (HH:∀W,Blk W (w.heap.size) 23 #[.int .i64 e,.int .i64 (F:Int)]∧Blk W (w.heap.size+1) 37 #[.bool ng,.int .u64 (M:Int),.int .i64 ((2-(P:Int)-(F:Int))+((X:Int)-1)),.bool false]∧Blk W (w.heap.size+2) 26 #[.bool false,.string ⟨#[]⟩,.int .i64 0]∧Blk W (B) 77 #[.bool ng,.int .i64 (X:Int),.int .u64 (Y:Int)]∧Below w.heap.size w W→Code.wp _ _ _ _ W)=>HH _ ⟨by exact(k1.far (p:=⟨w.heap.size+1,3,none⟩) (by show w.heap.size≠w.heap.size+1;omega) _),by exact(k2.set_ 3 _),by exact(k3.far (p:=⟨w.heap.size+1,3,none⟩) (by show w.heap.size+2≠w.heap.size+1;omega) _),by exact(k4.far (p:=⟨w.heap.size+1,3,none⟩) (by show B≠w.heap.size+1;omega) _),by exact(hb0.setCell (p:=⟨w.heap.size+1,3,none⟩) (by show w.heap.size≤w.heap.size+1;omega) _)⟩) ?_
 clear k1 k2 k3 k4 hb0
 rintro u4 ⟨k1,k2,k3,k4,hb0⟩
 obtain⟨k1c0,k1c1,k1z,k1f0,k1f1⟩:=k1.b2
 obtain⟨k2c0,k2c1,k2c2,k2c3,k2z,k2f0,k2f1,k2f2,k2f3⟩:=k2.b4
 obtain⟨k3c0,k3c1,k3c2,k3z,k3f0,k3f1,k3f2⟩:=k3.b3
 obtain⟨k4c0,k4c1,k4c2,k4z,k4f0,k4f1,k4f2⟩:=k4.b3
 go_region
 go_wp2
 refine bodyPost_ret (v:=.tuple #[.agg #[.bool ng,.int .u64 (M:Int),.int .i64 ((2-(P:Int)-(F:Int))+((X:Int)-1)),.bool false],.bool true,.agg #[.bool false,.string ⟨#[]⟩,.int .i64 0],.int .i64 0]) ?_ rfl ⟨rfl,(((((bel3 hb0 (w.heap.size+1) (by simp)).setCell (p:=⟨w.heap.size+1,3,none⟩) (by simp) _).setCell (p:=⟨w.heap.size+2,0,none⟩) (by simp) _).setCell (p:=⟨w.heap.size+2,1,none⟩) (by simp) _).setCell (p:=⟨w.heap.size+2,2,none⟩) (by simp) _).drew⟩
 refine results_open rfl _ _ (w.heap.size+1) (w.heap.size+2) _ _ _ _ _ _ _ _ _ _ ?_ ?_ ?_ ?_ (((((((k2.set_ 0 _).set_ 1 _).set_ 2 _).set_ 3 _).far (p:=⟨w.heap.size+2,0,none⟩) (by simp) _).far (p:=⟨w.heap.size+2,1,none⟩) (by simp) _).far (p:=⟨w.heap.size+2,2,none⟩) (by simp) _).drew (((((((k3.far (p:=⟨w.heap.size+1,0,none⟩) (by simp) _).far (p:=⟨w.heap.size+1,1,none⟩) (by simp) _).far (p:=⟨w.heap.size+1,2,none⟩) (by simp) _).far (p:=⟨w.heap.size+1,3,none⟩) (by simp) _).set_ 0 _).set_ 1 _).set_ 2 _).drew Tryz.underlying37 rfl (by kernel_rfl) Tryz.underlying26 rfl (by kernel_rfl)
 all_goals rfl

theorem open_normc (e:Int) (F:Nat) (b:Nat) (ng:Bool) (X Y:Nat) (hE:2≤e∧e≤11) (E P:Nat) (hE2:e-1=(E:Int)) (hP:IntKind.i64.wrap (2^E)=(P:Int)) (hP2:P≤1024) (hf:1≤(F:Int)∧(F:Int)≤52) (Q M:Nat) (hX:X≤4096) (hQ:IntKind.u64.wrap (2^F)=(Q:Int)) (hM:bits BinOp.or IntKind.u64 (Y:Int) (Q:Int)=(M:Int)) (y0:((Y:Int)==0)=false) (hC:∀W,Calls Tryz.prog 31 #[.agg #[.int .i64 e,.int .i64 (F:Int)],.int .u64 (b:Int)] W (Says W (.tuple #[.int .u8 3,.int .i64 0]))) (hS:∀W,Calls Tryz.prog 32 #[.agg #[.int .i64 e,.int .i64 (F:Int)],.int .u64 (b:Int)] W (Says W (.tuple #[.agg #[.bool ng,.int .i64 (X:Int),.int .u64 (Y:Int)],.int .i64 0]))) (w:World):
 Calls Tryz.prog 10 #[.agg #[.int .i64 e,.int .i64 (F:Int)],.int .u64 (b:Int)] w (Says w (.tuple #[.agg #[.bool ng,.int .u64 (M:Int),.int .i64 ((2-(P:Int)-(F:Int))+((X:Int)-1)),.bool false],.bool true,.agg #[.bool false,.string ⟨#[]⟩,.int .i64 0],.int .i64 0])):=by
 have hb0:Below w.heap.size w w:=Below.refl _ _
 go_enter Tryz.func10,Tryz.ntmps10
 go_upto_region 1 with fail
 obtain⟨v1,E_,hv1,k1,k2,k3⟩:=Blk.a3 w 23 #[.int .i64 e,.int .i64 (F:Int)] 37 #[.bool false,.int .u64 0,.int .i64 0,.bool false] 26 #[.bool false,.string ⟨#[]⟩,.int .i64 0]
 replace hb0:=hb0.trans (hv1.mono hb0.size)
 rw[E_]
 clear hv1 E_
 obtain⟨k1c0,k1c1,k1z,k1f0,k1f1⟩:=k1.b2
 obtain⟨k2c0,k2c1,k2c2,k2c3,k2z,k2f0,k2f1,k2f2,k2f3⟩:=k2.b4
 obtain⟨k3c0,k3c1,k3c2,k3z,k3f0,k3f1,k3f2⟩:=k3.b3
 go_wp2_with fail
 clear k1c0 k1f0 k1c1 k1f1 k1z k2c0 k2f0 k2c1 k2f1 k2c2 k2f2 k2c3 k2f3 k2z k3c0 k3f0 k3c1 k3f1 k3c2 k3f2 k3z
 refine(hC _).mono ?_
 rintro e w2 ⟨rfl,hb2⟩
 replace hb0:=hb0.trans (hb2.mono hb0.size)
 replace k1:=k1.below hb2 k1.lt
 replace k2:=k2.below hb2 k2.lt
 replace k3:=k3.below hb2 k3.lt
 clear hb2
 obtain⟨k1c0,k1c1,k1z,k1f0,k1f1⟩:=k1.b2
 obtain⟨k2c0,k2c1,k2c2,k2c3,k2z,k2f0,k2f1,k2f2,k2f3⟩:=k2.b4
 obtain⟨k3c0,k3c1,k3c2,k3z,k3f0,k3f1,k3f2⟩:=k3.b3
 go_wp2_with fail
 clear k1c0 k1f0 k1c1 k1f1 k1z k2c0 k2f0 k2c1 k2f1 k2c2 k2f2 k2c3 k2f3 k2z k3c0 k3f0 k3c1 k3f1 k3c2 k3f2 k3z
 refine(hS _).mono ?_
 rintro e w3 ⟨rfl,hb3⟩
 replace hb0:=hb0.trans (hb3.mono hb0.size)
 replace k1:=k1.below hb3 k1.lt
 replace k2:=k2.below hb3 k2.lt
 replace k3:=k3.below hb3 k3.lt
 clear hb3
 go_upto_region 5 with fail
 obtain⟨B,hB⟩:∃B,B=w3.heap.size:=⟨_,rfl⟩
 have k3z:=k3.lt
 have hBz:w.heap.size+2<B:=by omega
 have k4:Blk (w3.alloc (.cells #[.bool ng,.int .i64 (X:Int),.int .u64 (Y:Int)] 77)) B 77 #[.bool ng,.int .i64 (X:Int),.int .u64 (Y:Int)]:=by rw[hB];exact Blk.new w3 77 #[.bool ng,.int .i64 (X:Int),.int .u64 (Y:Int)]
 replace k1:=k1.alloc (.cells #[.bool ng,.int .i64 (X:Int),.int .u64 (Y:Int)] 77)
 replace k2:=k2.alloc (.cells #[.bool ng,.int .i64 (X:Int),.int .u64 (Y:Int)] 77)
 replace k3:=k3.alloc (.cells #[.bool ng,.int .i64 (X:Int),.int .u64 (Y:Int)] 77)
 replace hb0:=hb0.alloc (o:=.cells #[.bool ng,.int .i64 (X:Int),.int .u64 (Y:Int)] 77) (by omega)
 rw[←hB]
 generalize (w3.alloc (.cells #[.bool ng,.int .i64 (X:Int),.int .u64 (Y:Int)] 77))=v9 at*
 clear hB k3z
 obtain⟨k1c0,k1c1,k1z,k1f0,k1f1⟩:=k1.b2
 obtain⟨k2c0,k2c1,k2c2,k2c3,k2z,k2f0,k2f1,k2f2,k2f3⟩:=k2.b4
 obtain⟨k3c0,k3c1,k3c2,k3z,k3f0,k3f1,k3f2⟩:=k3.b3
 obtain⟨k4c0,k4c1,k4c2,k4z,k4f0,k4f1,k4f2⟩:=k4.b3
 go_wp2
 go_region
 go_upto_region 14 with fail
 clear k1c0 k1f0 k1c1 k1f1 k1z k2c0 k2f0 k2c1 k2f1 k2c2 k2f2 k2c3 k2f3 k2z k3c0 k3f0 k3c1 k3f1 k3c2 k3f2 k3z k4c0 k4f0 k4c1 k4f1 k4c2 k4f2 k4z
 refine(fun (HH:∀W,Blk W (w.heap.size) 23 #[.int .i64 e,.int .i64 (F:Int)]∧Blk W (w.heap.size+1) 37 #[.bool ng,.int .u64 (Y:Int),.int .i64 (2-(P:Int)-(F:Int)),.bool false]∧Blk W (w.heap.size+2) 26 #[.bool false,.string ⟨#[]⟩,.int .i64 0]∧Blk W (B) 77 #[.bool ng,.int .i64 (X:Int),.int .u64 (Y:Int)]∧Below w.heap.size w W→Code.wp _ _ _ _ W)=>HH _ ⟨by exact((((k1.far (p:=⟨w.heap.size+1,0,none⟩) (by show w.heap.size≠w.heap.size+1;omega) _).far (p:=⟨w.heap.size+1,1,none⟩) (by show w.heap.size≠w.heap.size+1;omega) _).far (p:=⟨w.heap.size+1,2,none⟩) (by show w.heap.size≠w.heap.size+1;omega) _).far (p:=⟨w.heap.size+1,3,none⟩) (by show w.heap.size≠w.heap.size+1;omega) _).drew,by exact((((k2.set_ 0 _).set_ 1 _).set_ 2 _).set_ 3 _).drew,by exact((((k3.far (p:=⟨w.heap.size+1,0,none⟩) (by show w.heap.size+2≠w.heap.size+1;omega) _).far (p:=⟨w.heap.size+1,1,none⟩) (by show w.heap.size+2≠w.heap.size+1;omega) _).far (p:=⟨w.heap.size+1,2,none⟩) (by show w.heap.size+2≠w.heap.size+1;omega) _).far (p:=⟨w.heap.size+1,3,none⟩) (by show w.heap.size+2≠w.heap.size+1;omega) _).drew,by exact((((k4.far (p:=⟨w.heap.size+1,0,none⟩) (by show B≠w.heap.size+1;omega) _).far (p:=⟨w.heap.size+1,1,none⟩) (by show B≠w.heap.size+1;omega) _).far (p:=⟨w.heap.size+1,2,none⟩) (by show B≠w.heap.size+1;omega) _).far (p:=⟨w.heap.size+1,3,none⟩) (by show B≠w.heap.size+1;omega) _).drew,by exact((((hb0.setCell (p:=⟨w.heap.size+1,0,none⟩) (by show w.heap.size≤w.heap.size+1;omega) _).setCell (p:=⟨w.heap.size+1,1,none⟩) (by show w.heap.size≤w.heap.size+1;omega) _).setCell (p:=⟨w.heap.size+1,2,none⟩) (by show w.heap.size≤w.heap.size+1;omega) _).setCell (p:=⟨w.heap.size+1,3,none⟩) (by show w.heap.size≤w.heap.size+1;omega) _).drew⟩) ?_
 clear k1 k2 k3 k4 hb0
 rintro u1 ⟨k1,k2,k3,k4,hb0⟩
 obtain⟨k1c0,k1c1,k1z,k1f0,k1f1⟩:=k1.b2
 obtain⟨k2c0,k2c1,k2c2,k2c3,k2z,k2f0,k2f1,k2f2,k2f3⟩:=k2.b4
 obtain⟨k3c0,k3c1,k3c2,k3z,k3f0,k3f1,k3f2⟩:=k3.b3
 obtain⟨k4c0,k4c1,k4c2,k4z,k4f0,k4f1,k4f2⟩:=k4.b3
 go_wp2
 go_region
 go_upto_region 16 with fail
 clear k1c0 k1f0 k1c1 k1f1 k1z k2c0 k2f0 k2c1 k2f1 k2c2 k2f2 k2c3 k2f3 k2z k3c0 k3f0 k3c1 k3f1 k3c2 k3f2 k3z k4c0 k4f0 k4c1 k4f1 k4c2 k4f2 k4z
 refine(fun (HH:∀W,Blk W (w.heap.size) 23 #[.int .i64 e,.int .i64 (F:Int)]∧Blk W (w.heap.size+1) 37 #[.bool ng,.int .u64 (M:Int),.int .i64 (2-(P:Int)-(F:Int)),.bool false]∧Blk W (w.heap.size+2) 26 #[.bool false,.string ⟨#[]⟩,.int .i64 0]∧Blk W (B) 77 #[.bool ng,.int .i64 (X:Int),.int .u64 (Y:Int)]∧Below w.heap.size w W→Code.wp _ _ _ _ W)=>HH _ ⟨by exact(k1.far (p:=⟨w.heap.size+1,1,none⟩) (by show w.heap.size≠w.heap.size+1;omega) _).drew,by exact(k2.set_ 1 _).drew,by exact(k3.far (p:=⟨w.heap.size+1,1,none⟩) (by show w.heap.size+2≠w.heap.size+1;omega) _).drew,by exact(k4.far (p:=⟨w.heap.size+1,1,none⟩) (by show B≠w.heap.size+1;omega) _).drew,by exact(hb0.setCell (p:=⟨w.heap.size+1,1,none⟩) (by show w.heap.size≤w.heap.size+1;omega) _).drew⟩) ?_
 clear k1 k2 k3 k4 hb0
 rintro u2 ⟨k1,k2,k3,k4,hb0⟩
 obtain⟨k1c0,k1c1,k1z,k1f0,k1f1⟩:=k1.b2
 obtain⟨k2c0,k2c1,k2c2,k2c3,k2z,k2f0,k2f1,k2f2,k2f3⟩:=k2.b4
 obtain⟨k3c0,k3c1,k3c2,k3z,k3f0,k3f1,k3f2⟩:=k3.b3
 obtain⟨k4c0,k4c1,k4c2,k4z,k4f0,k4f1,k4f2⟩:=k4.b3
 go_upto_region 17 with fail
 clear k1c0 k1f0 k1c1 k1f1 k1z k2c0 k2f0 k2c1 k2f1 k2c2 k2f2 k2c3 k2f3 k2z k3c0 k3f0 k3c1 k3f1 k3c2 k3f2 k3z k4c0 k4f0 k4c1 k4f1 k4c2 k4f2 k4z
 refine(fun (HH:∀W,Blk W (w.heap.size) 23 #[.int .i64 e,.int .i64 (F:Int)]∧Blk W (w.heap.size+1) 37 #[.bool ng,.int .u64 (M:Int),.int .i64 ((2-(P:Int)-(F:Int))+((X:Int)-1)),.bool false]∧Blk W (w.heap.size+2) 26 #[.bool false,.string ⟨#[]⟩,.int .i64 0]∧Blk W (B) 77 #[.bool ng,.int .i64 (X:Int),.int .u64 (Y:Int)]∧Below w.heap.size w W→Code.wp _ _ _ _ W)=>HH _ ⟨by exact(k1.far (p:=⟨w.heap.size+1,2,none⟩) (by show w.heap.size≠w.heap.size+1;omega) _),by exact(k2.set_ 2 _),by exact(k3.far (p:=⟨w.heap.size+1,2,none⟩) (by show w.heap.size+2≠w.heap.size+1;omega) _),by exact(k4.far (p:=⟨w.heap.size+1,2,none⟩) (by show B≠w.heap.size+1;omega) _),by exact(hb0.setCell (p:=⟨w.heap.size+1,2,none⟩) (by show w.heap.size≤w.heap.size+1;omega) _)⟩) ?_
 clear k1 k2 k3 k4 hb0
 rintro u3 ⟨k1,k2,k3,k4,hb0⟩
 obtain⟨k1c0,k1c1,k1z,k1f0,k1f1⟩:=k1.b2
 obtain⟨k2c0,k2c1,k2c2,k2c3,k2z,k2f0,k2f1,k2f2,k2f3⟩:=k2.b4
 obtain⟨k3c0,k3c1,k3c2,k3z,k3f0,k3f1,k3f2⟩:=k3.b3
 obtain⟨k4c0,k4c1,k4c2,k4z,k4f0,k4f1,k4f2⟩:=k4.b3
 go_upto_region 18 with fail
 clear k1c0 k1f0 k1c1 k1f1 k1z k2c0 k2f0 k2c1 k2f1 k2c2 k2f2 k2c3 k2f3 k2z k3c0 k3f0 k3c1 k3f1 k3c2 k3f2 k3z k4c0 k4f0 k4c1 k4f1 k4c2 k4f2 k4z
 refine(fun (HH:∀W,Blk W (w.heap.size) 23 #[.int .i64 e,.int .i64 (F:Int)]∧Blk W (w.heap.size+1) 37 #[.bool ng,.int .u64 (M:Int),.int .i64 ((2-(P:Int)-(F:Int))+((X:Int)-1)),.bool false]∧Blk W (w.heap.size+2) 26 #[.bool false,.string ⟨#[]⟩,.int .i64 0]∧Blk W (B) 77 #[.bool ng,.int .i64 (X:Int),.int .u64 (Y:Int)]∧Below w.heap.size w W→Code.wp _ _ _ _ W)=>HH _ ⟨by exact(k1.far (p:=⟨w.heap.size+1,3,none⟩) (by show w.heap.size≠w.heap.size+1;omega) _),by exact(k2.set_ 3 _),by exact(k3.far (p:=⟨w.heap.size+1,3,none⟩) (by show w.heap.size+2≠w.heap.size+1;omega) _),by exact(k4.far (p:=⟨w.heap.size+1,3,none⟩) (by show B≠w.heap.size+1;omega) _),by exact(hb0.setCell (p:=⟨w.heap.size+1,3,none⟩) (by show w.heap.size≤w.heap.size+1;omega) _)⟩) ?_
 clear k1 k2 k3 k4 hb0
 rintro u4 ⟨k1,k2,k3,k4,hb0⟩
 obtain⟨k1c0,k1c1,k1z,k1f0,k1f1⟩:=k1.b2
 obtain⟨k2c0,k2c1,k2c2,k2c3,k2z,k2f0,k2f1,k2f2,k2f3⟩:=k2.b4
 obtain⟨k3c0,k3c1,k3c2,k3z,k3f0,k3f1,k3f2⟩:=k3.b3
 obtain⟨k4c0,k4c1,k4c2,k4z,k4f0,k4f1,k4f2⟩:=k4.b3
 go_region
 go_wp2
 refine bodyPost_ret (v:=.tuple #[.agg #[.bool ng,.int .u64 (M:Int),.int .i64 ((2-(P:Int)-(F:Int))+((X:Int)-1)),.bool false],.bool true,.agg #[.bool false,.string ⟨#[]⟩,.int .i64 0],.int .i64 0]) ?_ rfl ⟨rfl,(((((bel3 hb0 (w.heap.size+1) (by simp)).setCell (p:=⟨w.heap.size+1,3,none⟩) (by simp) _).setCell (p:=⟨w.heap.size+2,0,none⟩) (by simp) _).setCell (p:=⟨w.heap.size+2,1,none⟩) (by simp) _).setCell (p:=⟨w.heap.size+2,2,none⟩) (by simp) _).drew⟩
 refine results_open rfl _ _ (w.heap.size+1) (w.heap.size+2) _ _ _ _ _ _ _ _ _ _ ?_ ?_ ?_ ?_ (((((((k2.set_ 0 _).set_ 1 _).set_ 2 _).set_ 3 _).far (p:=⟨w.heap.size+2,0,none⟩) (by simp) _).far (p:=⟨w.heap.size+2,1,none⟩) (by simp) _).far (p:=⟨w.heap.size+2,2,none⟩) (by simp) _).drew (((((((k3.far (p:=⟨w.heap.size+1,0,none⟩) (by simp) _).far (p:=⟨w.heap.size+1,1,none⟩) (by simp) _).far (p:=⟨w.heap.size+1,2,none⟩) (by simp) _).far (p:=⟨w.heap.size+1,3,none⟩) (by simp) _).set_ 0 _).set_ 1 _).set_ 2 _).drew Tryz.underlying37 rfl (by kernel_rfl) Tryz.underlying26 rfl (by kernel_rfl)
 all_goals rfl

end Go.Proofs.YtenekbfnlbipiaaGreatDoor
