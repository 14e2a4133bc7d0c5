/- Walks: a number over a power of two, cut. -/
import Derived.Test.YtenekbfnlbipiaaGreatDoorSuE
import Derived.BigRegion
import Derived.Deep.CutBlock
namespace Go.Proofs.YtenekbfnlbipiaaGreatDoor
open Go.RowKit
set_option linter.unusedVariables false
set_option linter.unusedSimpArgs false
set_option maxHeartbeats 4000000
set_option maxRecDepth 100000

theorem cut_2lt (a1 a2 a3 n X Y M r2 H Wh:Nat) (h1:a1<18446744073709551616) (h2:a2<18446744073709551616) (h3:a3<18446744073709551616) (n1:64<n) (n2:n<128) (hX:IntKind.u64.wrap ((a1:Int)*2^(128-n))=(X:Int)) (hX2:bits BinOp.or IntKind.u64 0 (X:Int)=(X:Int)) (hY:(a2:Int)/2^(n-64)=(Y:Int)) (hW:bits BinOp.or IntKind.u64 (X:Int) (Y:Int)=(Wh:Int)) (hP:IntKind.u64.wrap (2^(n-64))=(M:Int)+1) (hM:M<18446744073709551616) (hr:bits BinOp.and IntKind.u64 (a2:Int) (M:Int)=(r2:Int)) (hq:((n:Int)-1)/64=1) (hq2:((n:Int)-1)%64=(n:Int)-65) (hH:IntKind.u64.wrap (2^(n-65))=(H:Int)) (k1:((r2:Int)==(H:Int))=false) (k2:decide ((r2:Int)<(H:Int))=true) (k3:r2<H) (NB:Bool) (k4:(((r2:Int)==0)&&(((a3:Int)==0)))=NB) (w:World):
 Calls Tryz.prog 40 #[.agg #[.int .u64 0,.int .u64 (a1:Int),.int .u64 (a2:Int),.int .u64 (a3:Int)],.int .i64 (n:Int)] w (Says w (.tuple #[.int .u64 (Wh:Int),.int .i64 (-1),.bool NB])):=by
 have g1:decide ((n:Int)≤192)=true:=by simp;omega
 have g2:decide ((192:Int)-(n:Int)<64)=false:=by simp;omega
 have g3:decide ((n:Int)≤128)=true:=by simp;omega
 have g4:decide ((n:Int)≤64)=false:=by simp;omega
 have g5:decide (n=0)=false:=by simp;omega
 have g6:decide ((64:Int)≤(n:Int))=true:=by simp;omega
 have g7:decide ((128:Int)≤(n:Int))=false:=by simp;omega
 have g8:decide ((192:Int)≤(n:Int))=false:=by simp;omega
 have g9:decide ((128:Int)-(n:Int)<64)=true:=by simp;omega
 have g0:n≠0:=by omega
 have s0:(0:Int)≤128-(n:Int):=by omega
 have s1:(0:Int)≤(n:Int)-64:=by omega
 have s2:(n:Int)-64<64:=by omega
 have hb0:Below w.heap.size w w:=Below.refl _ _
 go_enter Tryz.func40,Tryz.ntmps40
 go_wp2_with fail
 obtain⟨v1,E_,hv1,q1,q2,q3⟩:=Blk.a3 w 43 #[.int .u64 0,.int .u64 (a1:Int),.int .u64 (a2:Int),.int .u64 (a3:Int)] 43 #[.int .u64 0,.int .u64 0,.int .u64 0,.int .u64 0] 43 #[.int .u64 0,.int .u64 0,.int .u64 0,.int .u64 0]
 replace hb0:=hb0.trans (hv1.mono hb0.size)
 rw[E_]
 clear hv1 E_
 obtain⟨q1c0,q1c1,q1c2,q1c3,q1z,q1f0,q1f1,q1f2,q1f3⟩:=q1.b4
 obtain⟨q2c0,q2c1,q2c2,q2c3,q2z,q2f0,q2f1,q2f2,q2f3⟩:=q2.b4
 obtain⟨q3c0,q3c1,q3c2,q3c3,q3z,q3f0,q3f1,q3f2,q3f3⟩:=q3.b4
 refine wp_loop_rounds 5 ?_
 rw[rounds_succ]
 go_wp2
 rw[rounds_succ]
 go_wp2
 rw[rounds_succ]
 go_wp2
 go_region
 go_wp2
 refine(fun (H:∀W,Blk W (w.heap.size) 43 #[.int .u64 0,.int .u64 (a1:Int),.int .u64 (a2:Int),.int .u64 (a3:Int)]∧Blk W (w.heap.size+1) 43 #[.int .u64 0,.int .u64 0,.int .u64 (r2:Int),.int .u64 0]∧Blk W (w.heap.size+2) 43 #[.int .u64 0,.int .u64 0,.int .u64 0,.int .u64 0]∧Below w.heap.size w W→Code.rounds _ _ _ _ _ W)=>H _ ⟨by exact(q1.far (p:=⟨w.heap.size+1,2,none⟩) (by simp) _),by exact(q2.set_ 2 _),by exact(q3.far (p:=⟨w.heap.size+1,2,none⟩) (by simp) _),by exact(hb0.setCell (p:=⟨w.heap.size+1,2,none⟩) (by simp) _).drew⟩) ?_
 clear q1c0 q1f0 q1c1 q1f1 q1c2 q1f2 q1c3 q1f3 q2c0 q2f0 q2c1 q2f1 q2c2 q2f2 q2c3 q2f3 q3c0 q3f0 q3c1 q3f1 q3c2 q3f2 q3c3 q3f3 q1z q2z q3z q1 q2 q3 hb0
 rintro v ⟨q1,q2,q3,hb0⟩
 obtain⟨q1c0,q1c1,q1c2,q1c3,q1z,q1f0,q1f1,q1f2,q1f3⟩:=q1.b4
 obtain⟨q2c0,q2c1,q2c2,q2c3,q2z,q2f0,q2f1,q2f2,q2f3⟩:=q2.b4
 obtain⟨q3c0,q3c1,q3c2,q3c3,q3z,q3f0,q3f1,q3f2,q3f3⟩:=q3.b4
 rw[rounds_succ]
 go_wp2
 refine(fun (H:∀W,Blk W (w.heap.size) 43 #[.int .u64 0,.int .u64 (a1:Int),.int .u64 (a2:Int),.int .u64 (a3:Int)]∧Blk W (w.heap.size+1) 43 #[.int .u64 0,.int .u64 0,.int .u64 (r2:Int),.int .u64 (a3:Int)]∧Blk W (w.heap.size+2) 43 #[.int .u64 0,.int .u64 0,.int .u64 0,.int .u64 0]∧Below w.heap.size w W→Code.rounds _ _ _ _ _ W)=>H _ ⟨by exact(q1.far (p:=⟨w.heap.size+1,3,none⟩) (by simp) _),by exact(q2.set_ 3 _),by exact(q3.far (p:=⟨w.heap.size+1,3,none⟩) (by simp) _),by exact(hb0.setCell (p:=⟨w.heap.size+1,3,none⟩) (by simp) _)⟩) ?_
 clear q1c0 q1f0 q1c1 q1f1 q1c2 q1f2 q1c3 q1f3 q2c0 q2f0 q2c1 q2f1 q2c2 q2f2 q2c3 q2f3 q3c0 q3f0 q3c1 q3f1 q3c2 q3f2 q3c3 q3f3 q1z q2z q3z q1 q2 q3 hb0
 rintro v ⟨q1,q2,q3,hb0⟩
 obtain⟨q1c0,q1c1,q1c2,q1c3,q1z,q1f0,q1f1,q1f2,q1f3⟩:=q1.b4
 obtain⟨q2c0,q2c1,q2c2,q2c3,q2z,q2f0,q2f1,q2f2,q2f3⟩:=q2.b4
 obtain⟨q3c0,q3c1,q3c2,q3c3,q3z,q3f0,q3f1,q3f2,q3f3⟩:=q3.b4
 rw[rounds_succ]
 go_upto_region 15 with fail
 refine(fun (H:∀W,Blk W (w.heap.size) 43 #[.int .u64 0,.int .u64 (a1:Int),.int .u64 (a2:Int),.int .u64 (a3:Int)]∧Blk W (w.heap.size+1) 43 #[.int .u64 0,.int .u64 0,.int .u64 (r2:Int),.int .u64 (a3:Int)]∧Blk W (w.heap.size+2) 43 #[.int .u64 0,.int .u64 0,.int .u64 (H:Int),.int .u64 0]∧Below w.heap.size w W→Code.wp _ _ _ _ W)=>H _ ⟨by exact(q1.far (p:=⟨w.heap.size+2,2,none⟩) (by simp) _),by exact(q2.far (p:=⟨w.heap.size+2,2,none⟩) (by simp) _),by exact(q3.set_ 2 _),by exact(hb0.setCell (p:=⟨w.heap.size+2,2,none⟩) (by simp) _)⟩) ?_
 clear q1c0 q1f0 q1c1 q1f1 q1c2 q1f2 q1c3 q1f3 q2c0 q2f0 q2c1 q2f1 q2c2 q2f2 q2c3 q2f3 q3c0 q3f0 q3c1 q3f1 q3c2 q3f2 q3c3 q3f3 q1z q2z q3z q1 q2 q3 hb0
 rintro v ⟨q1,q2,q3,hb0⟩
 obtain⟨q1c0,q1c1,q1c2,q1c3,q1z,q1f0,q1f1,q1f2,q1f3⟩:=q1.b4
 obtain⟨q2c0,q2c1,q2c2,q2c3,q2z,q2f0,q2f1,q2f2,q2f3⟩:=q2.b4
 obtain⟨q3c0,q3c1,q3c2,q3c3,q3z,q3f0,q3f1,q3f2,q3f3⟩:=q3.b4
 have hEQ:=eq_words
 go_wp2
 refine wp_loop_rounds 5 ?_
 rw[rounds_succ]
 go_wp2
 go_quiet (fail)
 go_wp2
 go_quiet (fail)
 go_wp2
 rw[rounds_succ]
 go_wp2
 go_quiet (fail)
 go_wp2
 go_quiet (fail)
 go_wp2
 rw[rounds_succ]
 go_wp2
 go_quiet (fail)
 go_wp2
 go_returns
 exact⟨rfl,bbel⟩

theorem cut_2gt (a1 a2 a3 n X Y M r2 H Wh:Nat) (h1:a1<18446744073709551616) (h2:a2<18446744073709551616) (h3:a3<18446744073709551616) (n1:64<n) (n2:n<128) (hX:IntKind.u64.wrap ((a1:Int)*2^(128-n))=(X:Int)) (hX2:bits BinOp.or IntKind.u64 0 (X:Int)=(X:Int)) (hY:(a2:Int)/2^(n-64)=(Y:Int)) (hW:bits BinOp.or IntKind.u64 (X:Int) (Y:Int)=(Wh:Int)) (hP:IntKind.u64.wrap (2^(n-64))=(M:Int)+1) (hM:M<18446744073709551616) (hr:bits BinOp.and IntKind.u64 (a2:Int) (M:Int)=(r2:Int)) (hq:((n:Int)-1)/64=1) (hq2:((n:Int)-1)%64=(n:Int)-65) (hH:IntKind.u64.wrap (2^(n-65))=(H:Int)) (k1:((r2:Int)==(H:Int))=false) (k2:decide ((r2:Int)<(H:Int))=false) (kn2:decide (r2<H)=false) (k3:decide ((H:Int)<(r2:Int))=true) (kn3:decide (H<r2)=true) (k4:((r2:Int)==0)=false) (w:World):
 Calls Tryz.prog 40 #[.agg #[.int .u64 0,.int .u64 (a1:Int),.int .u64 (a2:Int),.int .u64 (a3:Int)],.int .i64 (n:Int)] w (Says w (.tuple #[.int .u64 (Wh:Int),.int .i64 1,.bool false])):=by
 have g1:decide ((n:Int)≤192)=true:=by simp;omega
 have g2:decide ((192:Int)-(n:Int)<64)=false:=by simp;omega
 have g3:decide ((n:Int)≤128)=true:=by simp;omega
 have g4:decide ((n:Int)≤64)=false:=by simp;omega
 have g5:decide (n=0)=false:=by simp;omega
 have g6:decide ((64:Int)≤(n:Int))=true:=by simp;omega
 have g7:decide ((128:Int)≤(n:Int))=false:=by simp;omega
 have g8:decide ((192:Int)≤(n:Int))=false:=by simp;omega
 have g9:decide ((128:Int)-(n:Int)<64)=true:=by simp;omega
 have g0:n≠0:=by omega
 have s0:(0:Int)≤128-(n:Int):=by omega
 have s1:(0:Int)≤(n:Int)-64:=by omega
 have s2:(n:Int)-64<64:=by omega
 have hb0:Below w.heap.size w w:=Below.refl _ _
 go_enter Tryz.func40,Tryz.ntmps40
 go_wp2_with fail
 obtain⟨v1,E_,hv1,q1,q2,q3⟩:=Blk.a3 w 43 #[.int .u64 0,.int .u64 (a1:Int),.int .u64 (a2:Int),.int .u64 (a3:Int)] 43 #[.int .u64 0,.int .u64 0,.int .u64 0,.int .u64 0] 43 #[.int .u64 0,.int .u64 0,.int .u64 0,.int .u64 0]
 replace hb0:=hb0.trans (hv1.mono hb0.size)
 rw[E_]
 clear hv1 E_
 obtain⟨q1c0,q1c1,q1c2,q1c3,q1z,q1f0,q1f1,q1f2,q1f3⟩:=q1.b4
 obtain⟨q2c0,q2c1,q2c2,q2c3,q2z,q2f0,q2f1,q2f2,q2f3⟩:=q2.b4
 obtain⟨q3c0,q3c1,q3c2,q3c3,q3z,q3f0,q3f1,q3f2,q3f3⟩:=q3.b4
 refine wp_loop_rounds 5 ?_
 rw[rounds_succ]
 go_wp2
 rw[rounds_succ]
 go_wp2
 rw[rounds_succ]
 go_wp2
 go_region
 go_wp2
 refine(fun (H:∀W,Blk W (w.heap.size) 43 #[.int .u64 0,.int .u64 (a1:Int),.int .u64 (a2:Int),.int .u64 (a3:Int)]∧Blk W (w.heap.size+1) 43 #[.int .u64 0,.int .u64 0,.int .u64 (r2:Int),.int .u64 0]∧Blk W (w.heap.size+2) 43 #[.int .u64 0,.int .u64 0,.int .u64 0,.int .u64 0]∧Below w.heap.size w W→Code.rounds _ _ _ _ _ W)=>H _ ⟨by exact(q1.far (p:=⟨w.heap.size+1,2,none⟩) (by simp) _),by exact(q2.set_ 2 _),by exact(q3.far (p:=⟨w.heap.size+1,2,none⟩) (by simp) _),by exact(hb0.setCell (p:=⟨w.heap.size+1,2,none⟩) (by simp) _).drew⟩) ?_
 clear q1c0 q1f0 q1c1 q1f1 q1c2 q1f2 q1c3 q1f3 q2c0 q2f0 q2c1 q2f1 q2c2 q2f2 q2c3 q2f3 q3c0 q3f0 q3c1 q3f1 q3c2 q3f2 q3c3 q3f3 q1z q2z q3z q1 q2 q3 hb0
 rintro v ⟨q1,q2,q3,hb0⟩
 obtain⟨q1c0,q1c1,q1c2,q1c3,q1z,q1f0,q1f1,q1f2,q1f3⟩:=q1.b4
 obtain⟨q2c0,q2c1,q2c2,q2c3,q2z,q2f0,q2f1,q2f2,q2f3⟩:=q2.b4
 obtain⟨q3c0,q3c1,q3c2,q3c3,q3z,q3f0,q3f1,q3f2,q3f3⟩:=q3.b4
 rw[rounds_succ]
 go_wp2
 refine(fun (H:∀W,Blk W (w.heap.size) 43 #[.int .u64 0,.int .u64 (a1:Int),.int .u64 (a2:Int),.int .u64 (a3:Int)]∧Blk W (w.heap.size+1) 43 #[.int .u64 0,.int .u64 0,.int .u64 (r2:Int),.int .u64 (a3:Int)]∧Blk W (w.heap.size+2) 43 #[.int .u64 0,.int .u64 0,.int .u64 0,.int .u64 0]∧Below w.heap.size w W→Code.rounds _ _ _ _ _ W)=>H _ ⟨by exact(q1.far (p:=⟨w.heap.size+1,3,none⟩) (by simp) _),by exact(q2.set_ 3 _),by exact(q3.far (p:=⟨w.heap.size+1,3,none⟩) (by simp) _),by exact(hb0.setCell (p:=⟨w.heap.size+1,3,none⟩) (by simp) _)⟩) ?_
 clear q1c0 q1f0 q1c1 q1f1 q1c2 q1f2 q1c3 q1f3 q2c0 q2f0 q2c1 q2f1 q2c2 q2f2 q2c3 q2f3 q3c0 q3f0 q3c1 q3f1 q3c2 q3f2 q3c3 q3f3 q1z q2z q3z q1 q2 q3 hb0
 rintro v ⟨q1,q2,q3,hb0⟩
 obtain⟨q1c0,q1c1,q1c2,q1c3,q1z,q1f0,q1f1,q1f2,q1f3⟩:=q1.b4
 obtain⟨q2c0,q2c1,q2c2,q2c3,q2z,q2f0,q2f1,q2f2,q2f3⟩:=q2.b4
 obtain⟨q3c0,q3c1,q3c2,q3c3,q3z,q3f0,q3f1,q3f2,q3f3⟩:=q3.b4
 rw[rounds_succ]
 go_upto_region 15 with fail
 refine(fun (H:∀W,Blk W (w.heap.size) 43 #[.int .u64 0,.int .u64 (a1:Int),.int .u64 (a2:Int),.int .u64 (a3:Int)]∧Blk W (w.heap.size+1) 43 #[.int .u64 0,.int .u64 0,.int .u64 (r2:Int),.int .u64 (a3:Int)]∧Blk W (w.heap.size+2) 43 #[.int .u64 0,.int .u64 0,.int .u64 (H:Int),.int .u64 0]∧Below w.heap.size w W→Code.wp _ _ _ _ W)=>H _ ⟨by exact(q1.far (p:=⟨w.heap.size+2,2,none⟩) (by simp) _),by exact(q2.far (p:=⟨w.heap.size+2,2,none⟩) (by simp) _),by exact(q3.set_ 2 _),by exact(hb0.setCell (p:=⟨w.heap.size+2,2,none⟩) (by simp) _)⟩) ?_
 clear q1c0 q1f0 q1c1 q1f1 q1c2 q1f2 q1c3 q1f3 q2c0 q2f0 q2c1 q2f1 q2c2 q2f2 q2c3 q2f3 q3c0 q3f0 q3c1 q3f1 q3c2 q3f2 q3c3 q3f3 q1z q2z q3z q1 q2 q3 hb0
 rintro v ⟨q1,q2,q3,hb0⟩
 obtain⟨q1c0,q1c1,q1c2,q1c3,q1z,q1f0,q1f1,q1f2,q1f3⟩:=q1.b4
 obtain⟨q2c0,q2c1,q2c2,q2c3,q2z,q2f0,q2f1,q2f2,q2f3⟩:=q2.b4
 obtain⟨q3c0,q3c1,q3c2,q3c3,q3z,q3f0,q3f1,q3f2,q3f3⟩:=q3.b4
 have hEQ:=eq_words
 go_wp2
 refine wp_loop_rounds 5 ?_
 rw[rounds_succ]
 go_wp2
 go_quiet (fail)
 go_wp2
 go_quiet (fail)
 go_wp2
 rw[rounds_succ]
 go_wp2
 go_quiet (fail)
 go_wp2
 go_quiet (fail)
 go_wp2
 rw[rounds_succ]
 go_wp2
 go_quiet (fail)
 go_wp2
 go_quiet (fail)
 go_wp2
 go_returns
 exact⟨rfl,bbel⟩

theorem cut_2eq (a1 a2 a3 n X Y M H Wh:Nat) (h1:a1<18446744073709551616) (h2:a2<18446744073709551616) (h3:a3<18446744073709551616) (n1:64<n) (n2:n<128) (hX:IntKind.u64.wrap ((a1:Int)*2^(128-n))=(X:Int)) (hX2:bits BinOp.or IntKind.u64 0 (X:Int)=(X:Int)) (hY:(a2:Int)/2^(n-64)=(Y:Int)) (hW:bits BinOp.or IntKind.u64 (X:Int) (Y:Int)=(Wh:Int)) (hP:IntKind.u64.wrap (2^(n-64))=(M:Int)+1) (hM:M<18446744073709551616) (hr:bits BinOp.and IntKind.u64 (a2:Int) (M:Int)=(H:Int)) (hq:((n:Int)-1)/64=1) (hq2:((n:Int)-1)%64=(n:Int)-65) (hH:IntKind.u64.wrap (2^(n-65))=(H:Int)) (k1:((H:Int)==(H:Int))=true) (k4:((H:Int)==0)=false) (za3:((a3:Int)==0)=true) (w:World):
 Calls Tryz.prog 40 #[.agg #[.int .u64 0,.int .u64 (a1:Int),.int .u64 (a2:Int),.int .u64 (a3:Int)],.int .i64 (n:Int)] w (Says w (.tuple #[.int .u64 (Wh:Int),.int .i64 0,.bool false])):=by
 have g1:decide ((n:Int)≤192)=true:=by simp;omega
 have g2:decide ((192:Int)-(n:Int)<64)=false:=by simp;omega
 have g3:decide ((n:Int)≤128)=true:=by simp;omega
 have g4:decide ((n:Int)≤64)=false:=by simp;omega
 have g5:decide (n=0)=false:=by simp;omega
 have g6:decide ((64:Int)≤(n:Int))=true:=by simp;omega
 have g7:decide ((128:Int)≤(n:Int))=false:=by simp;omega
 have g8:decide ((192:Int)≤(n:Int))=false:=by simp;omega
 have g9:decide ((128:Int)-(n:Int)<64)=true:=by simp;omega
 have g0:n≠0:=by omega
 have s0:(0:Int)≤128-(n:Int):=by omega
 have s1:(0:Int)≤(n:Int)-64:=by omega
 have s2:(n:Int)-64<64:=by omega
 have hb0:Below w.heap.size w w:=Below.refl _ _
 go_enter Tryz.func40,Tryz.ntmps40
 go_wp2_with fail
 obtain⟨v1,E_,hv1,q1,q2,q3⟩:=Blk.a3 w 43 #[.int .u64 0,.int .u64 (a1:Int),.int .u64 (a2:Int),.int .u64 (a3:Int)] 43 #[.int .u64 0,.int .u64 0,.int .u64 0,.int .u64 0] 43 #[.int .u64 0,.int .u64 0,.int .u64 0,.int .u64 0]
 replace hb0:=hb0.trans (hv1.mono hb0.size)
 rw[E_]
 clear hv1 E_
 obtain⟨q1c0,q1c1,q1c2,q1c3,q1z,q1f0,q1f1,q1f2,q1f3⟩:=q1.b4
 obtain⟨q2c0,q2c1,q2c2,q2c3,q2z,q2f0,q2f1,q2f2,q2f3⟩:=q2.b4
 obtain⟨q3c0,q3c1,q3c2,q3c3,q3z,q3f0,q3f1,q3f2,q3f3⟩:=q3.b4
 refine wp_loop_rounds 5 ?_
 rw[rounds_succ]
 go_wp2
 rw[rounds_succ]
 go_wp2
 rw[rounds_succ]
 go_wp2
 go_region
 go_wp2
 refine(fun (H:∀W,Blk W (w.heap.size) 43 #[.int .u64 0,.int .u64 (a1:Int),.int .u64 (a2:Int),.int .u64 (a3:Int)]∧Blk W (w.heap.size+1) 43 #[.int .u64 0,.int .u64 0,.int .u64 (H:Int),.int .u64 0]∧Blk W (w.heap.size+2) 43 #[.int .u64 0,.int .u64 0,.int .u64 0,.int .u64 0]∧Below w.heap.size w W→Code.rounds _ _ _ _ _ W)=>H _ ⟨by exact(q1.far (p:=⟨w.heap.size+1,2,none⟩) (by simp) _),by exact(q2.set_ 2 _),by exact(q3.far (p:=⟨w.heap.size+1,2,none⟩) (by simp) _),by exact(hb0.setCell (p:=⟨w.heap.size+1,2,none⟩) (by simp) _).drew⟩) ?_
 clear q1c0 q1f0 q1c1 q1f1 q1c2 q1f2 q1c3 q1f3 q2c0 q2f0 q2c1 q2f1 q2c2 q2f2 q2c3 q2f3 q3c0 q3f0 q3c1 q3f1 q3c2 q3f2 q3c3 q3f3 q1z q2z q3z q1 q2 q3 hb0
 rintro v ⟨q1,q2,q3,hb0⟩
 obtain⟨q1c0,q1c1,q1c2,q1c3,q1z,q1f0,q1f1,q1f2,q1f3⟩:=q1.b4
 obtain⟨q2c0,q2c1,q2c2,q2c3,q2z,q2f0,q2f1,q2f2,q2f3⟩:=q2.b4
 obtain⟨q3c0,q3c1,q3c2,q3c3,q3z,q3f0,q3f1,q3f2,q3f3⟩:=q3.b4
 rw[rounds_succ]
 go_wp2
 refine(fun (H:∀W,Blk W (w.heap.size) 43 #[.int .u64 0,.int .u64 (a1:Int),.int .u64 (a2:Int),.int .u64 (a3:Int)]∧Blk W (w.heap.size+1) 43 #[.int .u64 0,.int .u64 0,.int .u64 (H:Int),.int .u64 (a3:Int)]∧Blk W (w.heap.size+2) 43 #[.int .u64 0,.int .u64 0,.int .u64 0,.int .u64 0]∧Below w.heap.size w W→Code.rounds _ _ _ _ _ W)=>H _ ⟨by exact(q1.far (p:=⟨w.heap.size+1,3,none⟩) (by simp) _),by exact(q2.set_ 3 _),by exact(q3.far (p:=⟨w.heap.size+1,3,none⟩) (by simp) _),by exact(hb0.setCell (p:=⟨w.heap.size+1,3,none⟩) (by simp) _)⟩) ?_
 clear q1c0 q1f0 q1c1 q1f1 q1c2 q1f2 q1c3 q1f3 q2c0 q2f0 q2c1 q2f1 q2c2 q2f2 q2c3 q2f3 q3c0 q3f0 q3c1 q3f1 q3c2 q3f2 q3c3 q3f3 q1z q2z q3z q1 q2 q3 hb0
 rintro v ⟨q1,q2,q3,hb0⟩
 obtain⟨q1c0,q1c1,q1c2,q1c3,q1z,q1f0,q1f1,q1f2,q1f3⟩:=q1.b4
 obtain⟨q2c0,q2c1,q2c2,q2c3,q2z,q2f0,q2f1,q2f2,q2f3⟩:=q2.b4
 obtain⟨q3c0,q3c1,q3c2,q3c3,q3z,q3f0,q3f1,q3f2,q3f3⟩:=q3.b4
 rw[rounds_succ]
 go_upto_region 15 with fail
 refine(fun (H:∀W,Blk W (w.heap.size) 43 #[.int .u64 0,.int .u64 (a1:Int),.int .u64 (a2:Int),.int .u64 (a3:Int)]∧Blk W (w.heap.size+1) 43 #[.int .u64 0,.int .u64 0,.int .u64 (H:Int),.int .u64 (a3:Int)]∧Blk W (w.heap.size+2) 43 #[.int .u64 0,.int .u64 0,.int .u64 (H:Int),.int .u64 0]∧Below w.heap.size w W→Code.wp _ _ _ _ W)=>H _ ⟨by exact(q1.far (p:=⟨w.heap.size+2,2,none⟩) (by simp) _),by exact(q2.far (p:=⟨w.heap.size+2,2,none⟩) (by simp) _),by exact(q3.set_ 2 _),by exact(hb0.setCell (p:=⟨w.heap.size+2,2,none⟩) (by simp) _)⟩) ?_
 clear q1c0 q1f0 q1c1 q1f1 q1c2 q1f2 q1c3 q1f3 q2c0 q2f0 q2c1 q2f1 q2c2 q2f2 q2c3 q2f3 q3c0 q3f0 q3c1 q3f1 q3c2 q3f2 q3c3 q3f3 q1z q2z q3z q1 q2 q3 hb0
 rintro v ⟨q1,q2,q3,hb0⟩
 obtain⟨q1c0,q1c1,q1c2,q1c3,q1z,q1f0,q1f1,q1f2,q1f3⟩:=q1.b4
 obtain⟨q2c0,q2c1,q2c2,q2c3,q2z,q2f0,q2f1,q2f2,q2f3⟩:=q2.b4
 obtain⟨q3c0,q3c1,q3c2,q3c3,q3z,q3f0,q3f1,q3f2,q3f3⟩:=q3.b4
 have hEQ:=eq_words
 go_wp2
 go_returns
 exact⟨rfl,hb0⟩

theorem cut_2eq3 (a1 a2 a3 n X Y M H Wh:Nat) (h1:a1<18446744073709551616) (h2:a2<18446744073709551616) (h3:a3<18446744073709551616) (n1:64<n) (n2:n<128) (hX:IntKind.u64.wrap ((a1:Int)*2^(128-n))=(X:Int)) (hX2:bits BinOp.or IntKind.u64 0 (X:Int)=(X:Int)) (hY:(a2:Int)/2^(n-64)=(Y:Int)) (hW:bits BinOp.or IntKind.u64 (X:Int) (Y:Int)=(Wh:Int)) (hP:IntKind.u64.wrap (2^(n-64))=(M:Int)+1) (hM:M<18446744073709551616) (hr:bits BinOp.and IntKind.u64 (a2:Int) (M:Int)=(H:Int)) (hq:((n:Int)-1)/64=1) (hq2:((n:Int)-1)%64=(n:Int)-65) (hH:IntKind.u64.wrap (2^(n-65))=(H:Int)) (k1:((H:Int)==(H:Int))=true) (k4:((H:Int)==0)=false) (x1:((a3:Int)==0)=false) (x2:decide ((a3:Int)<0)=false) (x3:decide ((0:Int)<(a3:Int))=true) (x4:decide (0<a3)=true) (w:World):
 Calls Tryz.prog 40 #[.agg #[.int .u64 0,.int .u64 (a1:Int),.int .u64 (a2:Int),.int .u64 (a3:Int)],.int .i64 (n:Int)] w (Says w (.tuple #[.int .u64 (Wh:Int),.int .i64 1,.bool false])):=by
 have g1:decide ((n:Int)≤192)=true:=by simp;omega
 have g2:decide ((192:Int)-(n:Int)<64)=false:=by simp;omega
 have g3:decide ((n:Int)≤128)=true:=by simp;omega
 have g4:decide ((n:Int)≤64)=false:=by simp;omega
 have g5:decide (n=0)=false:=by simp;omega
 have g6:decide ((64:Int)≤(n:Int))=true:=by simp;omega
 have g7:decide ((128:Int)≤(n:Int))=false:=by simp;omega
 have g8:decide ((192:Int)≤(n:Int))=false:=by simp;omega
 have g9:decide ((128:Int)-(n:Int)<64)=true:=by simp;omega
 have g0:n≠0:=by omega
 have s0:(0:Int)≤128-(n:Int):=by omega
 have s1:(0:Int)≤(n:Int)-64:=by omega
 have s2:(n:Int)-64<64:=by omega
 have hb0:Below w.heap.size w w:=Below.refl _ _
 go_enter Tryz.func40,Tryz.ntmps40
 go_wp2_with fail
 obtain⟨v1,E_,hv1,q1,q2,q3⟩:=Blk.a3 w 43 #[.int .u64 0,.int .u64 (a1:Int),.int .u64 (a2:Int),.int .u64 (a3:Int)] 43 #[.int .u64 0,.int .u64 0,.int .u64 0,.int .u64 0] 43 #[.int .u64 0,.int .u64 0,.int .u64 0,.int .u64 0]
 replace hb0:=hb0.trans (hv1.mono hb0.size)
 rw[E_]
 clear hv1 E_
 obtain⟨q1c0,q1c1,q1c2,q1c3,q1z,q1f0,q1f1,q1f2,q1f3⟩:=q1.b4
 obtain⟨q2c0,q2c1,q2c2,q2c3,q2z,q2f0,q2f1,q2f2,q2f3⟩:=q2.b4
 obtain⟨q3c0,q3c1,q3c2,q3c3,q3z,q3f0,q3f1,q3f2,q3f3⟩:=q3.b4
 refine wp_loop_rounds 5 ?_
 rw[rounds_succ]
 go_wp2
 rw[rounds_succ]
 go_wp2
 rw[rounds_succ]
 go_wp2
 go_region
 go_wp2
 refine(fun (H:∀W,Blk W (w.heap.size) 43 #[.int .u64 0,.int .u64 (a1:Int),.int .u64 (a2:Int),.int .u64 (a3:Int)]∧Blk W (w.heap.size+1) 43 #[.int .u64 0,.int .u64 0,.int .u64 (H:Int),.int .u64 0]∧Blk W (w.heap.size+2) 43 #[.int .u64 0,.int .u64 0,.int .u64 0,.int .u64 0]∧Below w.heap.size w W→Code.rounds _ _ _ _ _ W)=>H _ ⟨by exact(q1.far (p:=⟨w.heap.size+1,2,none⟩) (by simp) _),by exact(q2.set_ 2 _),by exact(q3.far (p:=⟨w.heap.size+1,2,none⟩) (by simp) _),by exact(hb0.setCell (p:=⟨w.heap.size+1,2,none⟩) (by simp) _).drew⟩) ?_
 clear q1c0 q1f0 q1c1 q1f1 q1c2 q1f2 q1c3 q1f3 q2c0 q2f0 q2c1 q2f1 q2c2 q2f2 q2c3 q2f3 q3c0 q3f0 q3c1 q3f1 q3c2 q3f2 q3c3 q3f3 q1z q2z q3z q1 q2 q3 hb0
 rintro v ⟨q1,q2,q3,hb0⟩
 obtain⟨q1c0,q1c1,q1c2,q1c3,q1z,q1f0,q1f1,q1f2,q1f3⟩:=q1.b4
 obtain⟨q2c0,q2c1,q2c2,q2c3,q2z,q2f0,q2f1,q2f2,q2f3⟩:=q2.b4
 obtain⟨q3c0,q3c1,q3c2,q3c3,q3z,q3f0,q3f1,q3f2,q3f3⟩:=q3.b4
 rw[rounds_succ]
 go_wp2
 refine(fun (H:∀W,Blk W (w.heap.size) 43 #[.int .u64 0,.int .u64 (a1:Int),.int .u64 (a2:Int),.int .u64 (a3:Int)]∧Blk W (w.heap.size+1) 43 #[.int .u64 0,.int .u64 0,.int .u64 (H:Int),.int .u64 (a3:Int)]∧Blk W (w.heap.size+2) 43 #[.int .u64 0,.int .u64 0,.int .u64 0,.int .u64 0]∧Below w.heap.size w W→Code.rounds _ _ _ _ _ W)=>H _ ⟨by exact(q1.far (p:=⟨w.heap.size+1,3,none⟩) (by simp) _),by exact(q2.set_ 3 _),by exact(q3.far (p:=⟨w.heap.size+1,3,none⟩) (by simp) _),by exact(hb0.setCell (p:=⟨w.heap.size+1,3,none⟩) (by simp) _)⟩) ?_
 clear q1c0 q1f0 q1c1 q1f1 q1c2 q1f2 q1c3 q1f3 q2c0 q2f0 q2c1 q2f1 q2c2 q2f2 q2c3 q2f3 q3c0 q3f0 q3c1 q3f1 q3c2 q3f2 q3c3 q3f3 q1z q2z q3z q1 q2 q3 hb0
 rintro v ⟨q1,q2,q3,hb0⟩
 obtain⟨q1c0,q1c1,q1c2,q1c3,q1z,q1f0,q1f1,q1f2,q1f3⟩:=q1.b4
 obtain⟨q2c0,q2c1,q2c2,q2c3,q2z,q2f0,q2f1,q2f2,q2f3⟩:=q2.b4
 obtain⟨q3c0,q3c1,q3c2,q3c3,q3z,q3f0,q3f1,q3f2,q3f3⟩:=q3.b4
 rw[rounds_succ]
 go_upto_region 15 with fail
 refine(fun (H:∀W,Blk W (w.heap.size) 43 #[.int .u64 0,.int .u64 (a1:Int),.int .u64 (a2:Int),.int .u64 (a3:Int)]∧Blk W (w.heap.size+1) 43 #[.int .u64 0,.int .u64 0,.int .u64 (H:Int),.int .u64 (a3:Int)]∧Blk W (w.heap.size+2) 43 #[.int .u64 0,.int .u64 0,.int .u64 (H:Int),.int .u64 0]∧Below w.heap.size w W→Code.wp _ _ _ _ W)=>H _ ⟨by exact(q1.far (p:=⟨w.heap.size+2,2,none⟩) (by simp) _),by exact(q2.far (p:=⟨w.heap.size+2,2,none⟩) (by simp) _),by exact(q3.set_ 2 _),by exact(hb0.setCell (p:=⟨w.heap.size+2,2,none⟩) (by simp) _)⟩) ?_
 clear q1c0 q1f0 q1c1 q1f1 q1c2 q1f2 q1c3 q1f3 q2c0 q2f0 q2c1 q2f1 q2c2 q2f2 q2c3 q2f3 q3c0 q3f0 q3c1 q3f1 q3c2 q3f2 q3c3 q3f3 q1z q2z q3z q1 q2 q3 hb0
 rintro v ⟨q1,q2,q3,hb0⟩
 obtain⟨q1c0,q1c1,q1c2,q1c3,q1z,q1f0,q1f1,q1f2,q1f3⟩:=q1.b4
 obtain⟨q2c0,q2c1,q2c2,q2c3,q2z,q2f0,q2f1,q2f2,q2f3⟩:=q2.b4
 obtain⟨q3c0,q3c1,q3c2,q3c3,q3z,q3f0,q3f1,q3f2,q3f3⟩:=q3.b4
 have hEQ:=eq_words
 go_wp2
 refine wp_loop_rounds 5 ?_
 rw[rounds_succ]
 go_wp2
 go_quiet (fail)
 go_wp2
 go_quiet (fail)
 go_wp2
 rw[rounds_succ]
 go_wp2
 go_quiet (fail)
 go_wp2
 go_quiet (fail)
 go_wp2
 rw[rounds_succ]
 go_wp2
 go_quiet (fail)
 go_wp2
 go_quiet (fail)
 go_wp2
 rw[rounds_succ]
 go_wp2
 go_quiet (fail)
 go_wp2
 go_quiet (fail)
 go_wp2
 go_returns
 exact⟨rfl,bbel⟩

theorem cut_4lt (a1 a2 a3 n X Y M r1 H Wh:Nat) (h1:a1<18446744073709551616) (h2:a2<18446744073709551616) (h3:a3<18446744073709551616) (n1:128<n) (n2:n<192) (hX:bits BinOp.or IntKind.u64 0 0=0) (hY:(a1:Int)/2^(n-128)=(Y:Int)) (hW:bits BinOp.or IntKind.u64 0 (Y:Int)=(Wh:Int)) (hP:IntKind.u64.wrap (2^(n-128))=(M:Int)+1) (hM:M<18446744073709551616) (hr:bits BinOp.and IntKind.u64 (a1:Int) (M:Int)=(r1:Int)) (hq:((n:Int)-1)/64=2) (hq2:((n:Int)-1)%64=(n:Int)-129) (hH:IntKind.u64.wrap (2^(n-129))=(H:Int)) (k1:((r1:Int)==(H:Int))=false) (k2:decide ((r1:Int)<(H:Int))=true) (k3:r1<H) (NB:Bool) (k4:(((r1:Int)==0)&&(((a2:Int)==0)&&(((a3:Int)==0))))=NB) (w:World):
 Calls Tryz.prog 40 #[.agg #[.int .u64 0,.int .u64 (a1:Int),.int .u64 (a2:Int),.int .u64 (a3:Int)],.int .i64 (n:Int)] w (Says w (.tuple #[.int .u64 (Wh:Int),.int .i64 (-1),.bool NB])):=by
 have g1:decide ((n:Int)≤192)=true:=by simp;omega
 have g2:decide ((192:Int)-(n:Int)<64)=true:=by simp;omega
 have g3:decide ((n:Int)≤128)=false:=by simp;omega
 have g4:decide ((n:Int)≤64)=false:=by simp;omega
 have g5:decide (n=0)=false:=by simp;omega
 have g6:decide ((64:Int)≤(n:Int))=true:=by simp;omega
 have g7:decide ((128:Int)≤(n:Int))=true:=by simp;omega
 have g8:decide ((192:Int)≤(n:Int))=false:=by simp;omega
 have g0:n≠0:=by omega
 have s0:(0:Int)≤192-(n:Int):=by omega
 have s1:(0:Int)≤(n:Int)-128:=by omega
 have s2:(n:Int)-128<64:=by omega
 have hb0:Below w.heap.size w w:=Below.refl _ _
 go_enter Tryz.func40,Tryz.ntmps40
 go_wp2_with fail
 obtain⟨v1,E_,hv1,q1,q2,q3⟩:=Blk.a3 w 43 #[.int .u64 0,.int .u64 (a1:Int),.int .u64 (a2:Int),.int .u64 (a3:Int)] 43 #[.int .u64 0,.int .u64 0,.int .u64 0,.int .u64 0] 43 #[.int .u64 0,.int .u64 0,.int .u64 0,.int .u64 0]
 replace hb0:=hb0.trans (hv1.mono hb0.size)
 rw[E_]
 clear hv1 E_
 obtain⟨q1c0,q1c1,q1c2,q1c3,q1z,q1f0,q1f1,q1f2,q1f3⟩:=q1.b4
 obtain⟨q2c0,q2c1,q2c2,q2c3,q2z,q2f0,q2f1,q2f2,q2f3⟩:=q2.b4
 obtain⟨q3c0,q3c1,q3c2,q3c3,q3z,q3f0,q3f1,q3f2,q3f3⟩:=q3.b4
 refine wp_loop_rounds 5 ?_
 rw[rounds_succ]
 go_wp2
 rw[rounds_succ]
 go_wp2
 go_region
 go_wp2
 refine(fun (H:∀W,Blk W (w.heap.size) 43 #[.int .u64 0,.int .u64 (a1:Int),.int .u64 (a2:Int),.int .u64 (a3:Int)]∧Blk W (w.heap.size+1) 43 #[.int .u64 0,.int .u64 (r1:Int),.int .u64 0,.int .u64 0]∧Blk W (w.heap.size+2) 43 #[.int .u64 0,.int .u64 0,.int .u64 0,.int .u64 0]∧Below w.heap.size w W→Code.rounds _ _ _ _ _ W)=>H _ ⟨by exact(q1.far (p:=⟨w.heap.size+1,1,none⟩) (by simp) _),by exact(q2.set_ 1 _),by exact(q3.far (p:=⟨w.heap.size+1,1,none⟩) (by simp) _),by exact(hb0.setCell (p:=⟨w.heap.size+1,1,none⟩) (by simp) _).drew⟩) ?_
 clear q1c0 q1f0 q1c1 q1f1 q1c2 q1f2 q1c3 q1f3 q2c0 q2f0 q2c1 q2f1 q2c2 q2f2 q2c3 q2f3 q3c0 q3f0 q3c1 q3f1 q3c2 q3f2 q3c3 q3f3 q1z q2z q3z q1 q2 q3 hb0
 rintro v ⟨q1,q2,q3,hb0⟩
 obtain⟨q1c0,q1c1,q1c2,q1c3,q1z,q1f0,q1f1,q1f2,q1f3⟩:=q1.b4
 obtain⟨q2c0,q2c1,q2c2,q2c3,q2z,q2f0,q2f1,q2f2,q2f3⟩:=q2.b4
 obtain⟨q3c0,q3c1,q3c2,q3c3,q3z,q3f0,q3f1,q3f2,q3f3⟩:=q3.b4
 rw[rounds_succ]
 go_wp2
 refine(fun (H:∀W,Blk W (w.heap.size) 43 #[.int .u64 0,.int .u64 (a1:Int),.int .u64 (a2:Int),.int .u64 (a3:Int)]∧Blk W (w.heap.size+1) 43 #[.int .u64 0,.int .u64 (r1:Int),.int .u64 (a2:Int),.int .u64 0]∧Blk W (w.heap.size+2) 43 #[.int .u64 0,.int .u64 0,.int .u64 0,.int .u64 0]∧Below w.heap.size w W→Code.rounds _ _ _ _ _ W)=>H _ ⟨by exact(q1.far (p:=⟨w.heap.size+1,2,none⟩) (by simp) _),by exact(q2.set_ 2 _),by exact(q3.far (p:=⟨w.heap.size+1,2,none⟩) (by simp) _),by exact(hb0.setCell (p:=⟨w.heap.size+1,2,none⟩) (by simp) _)⟩) ?_
 clear q1c0 q1f0 q1c1 q1f1 q1c2 q1f2 q1c3 q1f3 q2c0 q2f0 q2c1 q2f1 q2c2 q2f2 q2c3 q2f3 q3c0 q3f0 q3c1 q3f1 q3c2 q3f2 q3c3 q3f3 q1z q2z q3z q1 q2 q3 hb0
 rintro v ⟨q1,q2,q3,hb0⟩
 obtain⟨q1c0,q1c1,q1c2,q1c3,q1z,q1f0,q1f1,q1f2,q1f3⟩:=q1.b4
 obtain⟨q2c0,q2c1,q2c2,q2c3,q2z,q2f0,q2f1,q2f2,q2f3⟩:=q2.b4
 obtain⟨q3c0,q3c1,q3c2,q3c3,q3z,q3f0,q3f1,q3f2,q3f3⟩:=q3.b4
 rw[rounds_succ]
 go_wp2
 refine(fun (H:∀W,Blk W (w.heap.size) 43 #[.int .u64 0,.int .u64 (a1:Int),.int .u64 (a2:Int),.int .u64 (a3:Int)]∧Blk W (w.heap.size+1) 43 #[.int .u64 0,.int .u64 (r1:Int),.int .u64 (a2:Int),.int .u64 (a3:Int)]∧Blk W (w.heap.size+2) 43 #[.int .u64 0,.int .u64 0,.int .u64 0,.int .u64 0]∧Below w.heap.size w W→Code.rounds _ _ _ _ _ W)=>H _ ⟨by exact(q1.far (p:=⟨w.heap.size+1,3,none⟩) (by simp) _),by exact(q2.set_ 3 _),by exact(q3.far (p:=⟨w.heap.size+1,3,none⟩) (by simp) _),by exact(hb0.setCell (p:=⟨w.heap.size+1,3,none⟩) (by simp) _)⟩) ?_
 clear q1c0 q1f0 q1c1 q1f1 q1c2 q1f2 q1c3 q1f3 q2c0 q2f0 q2c1 q2f1 q2c2 q2f2 q2c3 q2f3 q3c0 q3f0 q3c1 q3f1 q3c2 q3f2 q3c3 q3f3 q1z q2z q3z q1 q2 q3 hb0
 rintro v ⟨q1,q2,q3,hb0⟩
 obtain⟨q1c0,q1c1,q1c2,q1c3,q1z,q1f0,q1f1,q1f2,q1f3⟩:=q1.b4
 obtain⟨q2c0,q2c1,q2c2,q2c3,q2z,q2f0,q2f1,q2f2,q2f3⟩:=q2.b4
 obtain⟨q3c0,q3c1,q3c2,q3c3,q3z,q3f0,q3f1,q3f2,q3f3⟩:=q3.b4
 rw[rounds_succ]
 go_upto_region 15 with fail
 refine(fun (H:∀W,Blk W (w.heap.size) 43 #[.int .u64 0,.int .u64 (a1:Int),.int .u64 (a2:Int),.int .u64 (a3:Int)]∧Blk W (w.heap.size+1) 43 #[.int .u64 0,.int .u64 (r1:Int),.int .u64 (a2:Int),.int .u64 (a3:Int)]∧Blk W (w.heap.size+2) 43 #[.int .u64 0,.int .u64 (H:Int),.int .u64 0,.int .u64 0]∧Below w.heap.size w W→Code.wp _ _ _ _ W)=>H _ ⟨by exact(q1.far (p:=⟨w.heap.size+2,1,none⟩) (by simp) _),by exact(q2.far (p:=⟨w.heap.size+2,1,none⟩) (by simp) _),by exact(q3.set_ 1 _),by exact(hb0.setCell (p:=⟨w.heap.size+2,1,none⟩) (by simp) _)⟩) ?_
 clear q1c0 q1f0 q1c1 q1f1 q1c2 q1f2 q1c3 q1f3 q2c0 q2f0 q2c1 q2f1 q2c2 q2f2 q2c3 q2f3 q3c0 q3f0 q3c1 q3f1 q3c2 q3f2 q3c3 q3f3 q1z q2z q3z q1 q2 q3 hb0
 rintro v ⟨q1,q2,q3,hb0⟩
 obtain⟨q1c0,q1c1,q1c2,q1c3,q1z,q1f0,q1f1,q1f2,q1f3⟩:=q1.b4
 obtain⟨q2c0,q2c1,q2c2,q2c3,q2z,q2f0,q2f1,q2f2,q2f3⟩:=q2.b4
 obtain⟨q3c0,q3c1,q3c2,q3c3,q3z,q3f0,q3f1,q3f2,q3f3⟩:=q3.b4
 have hEQ:=eq_words
 go_wp2
 refine wp_loop_rounds 5 ?_
 rw[rounds_succ]
 go_wp2
 go_quiet (fail)
 go_wp2
 go_quiet (fail)
 go_wp2
 rw[rounds_succ]
 go_wp2
 go_quiet (fail)
 go_wp2
 go_returns
 exact⟨rfl,bbel⟩

theorem cut_4gt (a1 a2 a3 n X Y M r1 H Wh:Nat) (h1:a1<18446744073709551616) (h2:a2<18446744073709551616) (h3:a3<18446744073709551616) (n1:128<n) (n2:n<192) (hX:bits BinOp.or IntKind.u64 0 0=0) (hY:(a1:Int)/2^(n-128)=(Y:Int)) (hW:bits BinOp.or IntKind.u64 0 (Y:Int)=(Wh:Int)) (hP:IntKind.u64.wrap (2^(n-128))=(M:Int)+1) (hM:M<18446744073709551616) (hr:bits BinOp.and IntKind.u64 (a1:Int) (M:Int)=(r1:Int)) (hq:((n:Int)-1)/64=2) (hq2:((n:Int)-1)%64=(n:Int)-129) (hH:IntKind.u64.wrap (2^(n-129))=(H:Int)) (k1:((r1:Int)==(H:Int))=false) (k2:decide ((r1:Int)<(H:Int))=false) (kn2:decide (r1<H)=false) (k3:decide ((H:Int)<(r1:Int))=true) (kn3:decide (H<r1)=true) (k4:((r1:Int)==0)=false) (w:World):
 Calls Tryz.prog 40 #[.agg #[.int .u64 0,.int .u64 (a1:Int),.int .u64 (a2:Int),.int .u64 (a3:Int)],.int .i64 (n:Int)] w (Says w (.tuple #[.int .u64 (Wh:Int),.int .i64 1,.bool false])):=by
 have g1:decide ((n:Int)≤192)=true:=by simp;omega
 have g2:decide ((192:Int)-(n:Int)<64)=true:=by simp;omega
 have g3:decide ((n:Int)≤128)=false:=by simp;omega
 have g4:decide ((n:Int)≤64)=false:=by simp;omega
 have g5:decide (n=0)=false:=by simp;omega
 have g6:decide ((64:Int)≤(n:Int))=true:=by simp;omega
 have g7:decide ((128:Int)≤(n:Int))=true:=by simp;omega
 have g8:decide ((192:Int)≤(n:Int))=false:=by simp;omega
 have g0:n≠0:=by omega
 have s0:(0:Int)≤192-(n:Int):=by omega
 have s1:(0:Int)≤(n:Int)-128:=by omega
 have s2:(n:Int)-128<64:=by omega
 have hb0:Below w.heap.size w w:=Below.refl _ _
 go_enter Tryz.func40,Tryz.ntmps40
 go_wp2_with fail
 obtain⟨v1,E_,hv1,q1,q2,q3⟩:=Blk.a3 w 43 #[.int .u64 0,.int .u64 (a1:Int),.int .u64 (a2:Int),.int .u64 (a3:Int)] 43 #[.int .u64 0,.int .u64 0,.int .u64 0,.int .u64 0] 43 #[.int .u64 0,.int .u64 0,.int .u64 0,.int .u64 0]
 replace hb0:=hb0.trans (hv1.mono hb0.size)
 rw[E_]
 clear hv1 E_
 obtain⟨q1c0,q1c1,q1c2,q1c3,q1z,q1f0,q1f1,q1f2,q1f3⟩:=q1.b4
 obtain⟨q2c0,q2c1,q2c2,q2c3,q2z,q2f0,q2f1,q2f2,q2f3⟩:=q2.b4
 obtain⟨q3c0,q3c1,q3c2,q3c3,q3z,q3f0,q3f1,q3f2,q3f3⟩:=q3.b4
 refine wp_loop_rounds 5 ?_
 rw[rounds_succ]
 go_wp2
 rw[rounds_succ]
 go_wp2
 go_region
 go_wp2
 refine(fun (H:∀W,Blk W (w.heap.size) 43 #[.int .u64 0,.int .u64 (a1:Int),.int .u64 (a2:Int),.int .u64 (a3:Int)]∧Blk W (w.heap.size+1) 43 #[.int .u64 0,.int .u64 (r1:Int),.int .u64 0,.int .u64 0]∧Blk W (w.heap.size+2) 43 #[.int .u64 0,.int .u64 0,.int .u64 0,.int .u64 0]∧Below w.heap.size w W→Code.rounds _ _ _ _ _ W)=>H _ ⟨by exact(q1.far (p:=⟨w.heap.size+1,1,none⟩) (by simp) _),by exact(q2.set_ 1 _),by exact(q3.far (p:=⟨w.heap.size+1,1,none⟩) (by simp) _),by exact(hb0.setCell (p:=⟨w.heap.size+1,1,none⟩) (by simp) _).drew⟩) ?_
 clear q1c0 q1f0 q1c1 q1f1 q1c2 q1f2 q1c3 q1f3 q2c0 q2f0 q2c1 q2f1 q2c2 q2f2 q2c3 q2f3 q3c0 q3f0 q3c1 q3f1 q3c2 q3f2 q3c3 q3f3 q1z q2z q3z q1 q2 q3 hb0
 rintro v ⟨q1,q2,q3,hb0⟩
 obtain⟨q1c0,q1c1,q1c2,q1c3,q1z,q1f0,q1f1,q1f2,q1f3⟩:=q1.b4
 obtain⟨q2c0,q2c1,q2c2,q2c3,q2z,q2f0,q2f1,q2f2,q2f3⟩:=q2.b4
 obtain⟨q3c0,q3c1,q3c2,q3c3,q3z,q3f0,q3f1,q3f2,q3f3⟩:=q3.b4
 rw[rounds_succ]
 go_wp2
 refine(fun (H:∀W,Blk W (w.heap.size) 43 #[.int .u64 0,.int .u64 (a1:Int),.int .u64 (a2:Int),.int .u64 (a3:Int)]∧Blk W (w.heap.size+1) 43 #[.int .u64 0,.int .u64 (r1:Int),.int .u64 (a2:Int),.int .u64 0]∧Blk W (w.heap.size+2) 43 #[.int .u64 0,.int .u64 0,.int .u64 0,.int .u64 0]∧Below w.heap.size w W→Code.rounds _ _ _ _ _ W)=>H _ ⟨by exact(q1.far (p:=⟨w.heap.size+1,2,none⟩) (by simp) _),by exact(q2.set_ 2 _),by exact(q3.far (p:=⟨w.heap.size+1,2,none⟩) (by simp) _),by exact(hb0.setCell (p:=⟨w.heap.size+1,2,none⟩) (by simp) _)⟩) ?_
 clear q1c0 q1f0 q1c1 q1f1 q1c2 q1f2 q1c3 q1f3 q2c0 q2f0 q2c1 q2f1 q2c2 q2f2 q2c3 q2f3 q3c0 q3f0 q3c1 q3f1 q3c2 q3f2 q3c3 q3f3 q1z q2z q3z q1 q2 q3 hb0
 rintro v ⟨q1,q2,q3,hb0⟩
 obtain⟨q1c0,q1c1,q1c2,q1c3,q1z,q1f0,q1f1,q1f2,q1f3⟩:=q1.b4
 obtain⟨q2c0,q2c1,q2c2,q2c3,q2z,q2f0,q2f1,q2f2,q2f3⟩:=q2.b4
 obtain⟨q3c0,q3c1,q3c2,q3c3,q3z,q3f0,q3f1,q3f2,q3f3⟩:=q3.b4
 rw[rounds_succ]
 go_wp2
 refine(fun (H:∀W,Blk W (w.heap.size) 43 #[.int .u64 0,.int .u64 (a1:Int),.int .u64 (a2:Int),.int .u64 (a3:Int)]∧Blk W (w.heap.size+1) 43 #[.int .u64 0,.int .u64 (r1:Int),.int .u64 (a2:Int),.int .u64 (a3:Int)]∧Blk W (w.heap.size+2) 43 #[.int .u64 0,.int .u64 0,.int .u64 0,.int .u64 0]∧Below w.heap.size w W→Code.rounds _ _ _ _ _ W)=>H _ ⟨by exact(q1.far (p:=⟨w.heap.size+1,3,none⟩) (by simp) _),by exact(q2.set_ 3 _),by exact(q3.far (p:=⟨w.heap.size+1,3,none⟩) (by simp) _),by exact(hb0.setCell (p:=⟨w.heap.size+1,3,none⟩) (by simp) _)⟩) ?_
 clear q1c0 q1f0 q1c1 q1f1 q1c2 q1f2 q1c3 q1f3 q2c0 q2f0 q2c1 q2f1 q2c2 q2f2 q2c3 q2f3 q3c0 q3f0 q3c1 q3f1 q3c2 q3f2 q3c3 q3f3 q1z q2z q3z q1 q2 q3 hb0
 rintro v ⟨q1,q2,q3,hb0⟩
 obtain⟨q1c0,q1c1,q1c2,q1c3,q1z,q1f0,q1f1,q1f2,q1f3⟩:=q1.b4
 obtain⟨q2c0,q2c1,q2c2,q2c3,q2z,q2f0,q2f1,q2f2,q2f3⟩:=q2.b4
 obtain⟨q3c0,q3c1,q3c2,q3c3,q3z,q3f0,q3f1,q3f2,q3f3⟩:=q3.b4
 rw[rounds_succ]
 go_upto_region 15 with fail
 refine(fun (H:∀W,Blk W (w.heap.size) 43 #[.int .u64 0,.int .u64 (a1:Int),.int .u64 (a2:Int),.int .u64 (a3:Int)]∧Blk W (w.heap.size+1) 43 #[.int .u64 0,.int .u64 (r1:Int),.int .u64 (a2:Int),.int .u64 (a3:Int)]∧Blk W (w.heap.size+2) 43 #[.int .u64 0,.int .u64 (H:Int),.int .u64 0,.int .u64 0]∧Below w.heap.size w W→Code.wp _ _ _ _ W)=>H _ ⟨by exact(q1.far (p:=⟨w.heap.size+2,1,none⟩) (by simp) _),by exact(q2.far (p:=⟨w.heap.size+2,1,none⟩) (by simp) _),by exact(q3.set_ 1 _),by exact(hb0.setCell (p:=⟨w.heap.size+2,1,none⟩) (by simp) _)⟩) ?_
 clear q1c0 q1f0 q1c1 q1f1 q1c2 q1f2 q1c3 q1f3 q2c0 q2f0 q2c1 q2f1 q2c2 q2f2 q2c3 q2f3 q3c0 q3f0 q3c1 q3f1 q3c2 q3f2 q3c3 q3f3 q1z q2z q3z q1 q2 q3 hb0
 rintro v ⟨q1,q2,q3,hb0⟩
 obtain⟨q1c0,q1c1,q1c2,q1c3,q1z,q1f0,q1f1,q1f2,q1f3⟩:=q1.b4
 obtain⟨q2c0,q2c1,q2c2,q2c3,q2z,q2f0,q2f1,q2f2,q2f3⟩:=q2.b4
 obtain⟨q3c0,q3c1,q3c2,q3c3,q3z,q3f0,q3f1,q3f2,q3f3⟩:=q3.b4
 have hEQ:=eq_words
 go_wp2
 refine wp_loop_rounds 5 ?_
 rw[rounds_succ]
 go_wp2
 go_quiet (fail)
 go_wp2
 go_quiet (fail)
 go_wp2
 rw[rounds_succ]
 go_wp2
 go_quiet (fail)
 go_wp2
 go_quiet (fail)
 go_wp2
 go_returns
 exact⟨rfl,bbel⟩

theorem cut_4eq (a1 a2 a3 n X Y M H Wh:Nat) (h1:a1<18446744073709551616) (h2:a2<18446744073709551616) (h3:a3<18446744073709551616) (n1:128<n) (n2:n<192) (hX:bits BinOp.or IntKind.u64 0 0=0) (hY:(a1:Int)/2^(n-128)=(Y:Int)) (hW:bits BinOp.or IntKind.u64 0 (Y:Int)=(Wh:Int)) (hP:IntKind.u64.wrap (2^(n-128))=(M:Int)+1) (hM:M<18446744073709551616) (hr:bits BinOp.and IntKind.u64 (a1:Int) (M:Int)=(H:Int)) (hq:((n:Int)-1)/64=2) (hq2:((n:Int)-1)%64=(n:Int)-129) (hH:IntKind.u64.wrap (2^(n-129))=(H:Int)) (k1:((H:Int)==(H:Int))=true) (k4:((H:Int)==0)=false) (za2:((a2:Int)==0)=true) (za3:((a3:Int)==0)=true) (w:World):
 Calls Tryz.prog 40 #[.agg #[.int .u64 0,.int .u64 (a1:Int),.int .u64 (a2:Int),.int .u64 (a3:Int)],.int .i64 (n:Int)] w (Says w (.tuple #[.int .u64 (Wh:Int),.int .i64 0,.bool false])):=by
 have g1:decide ((n:Int)≤192)=true:=by simp;omega
 have g2:decide ((192:Int)-(n:Int)<64)=true:=by simp;omega
 have g3:decide ((n:Int)≤128)=false:=by simp;omega
 have g4:decide ((n:Int)≤64)=false:=by simp;omega
 have g5:decide (n=0)=false:=by simp;omega
 have g6:decide ((64:Int)≤(n:Int))=true:=by simp;omega
 have g7:decide ((128:Int)≤(n:Int))=true:=by simp;omega
 have g8:decide ((192:Int)≤(n:Int))=false:=by simp;omega
 have g0:n≠0:=by omega
 have s0:(0:Int)≤192-(n:Int):=by omega
 have s1:(0:Int)≤(n:Int)-128:=by omega
 have s2:(n:Int)-128<64:=by omega
 have hb0:Below w.heap.size w w:=Below.refl _ _
 go_enter Tryz.func40,Tryz.ntmps40
 go_wp2_with fail
 obtain⟨v1,E_,hv1,q1,q2,q3⟩:=Blk.a3 w 43 #[.int .u64 0,.int .u64 (a1:Int),.int .u64 (a2:Int),.int .u64 (a3:Int)] 43 #[.int .u64 0,.int .u64 0,.int .u64 0,.int .u64 0] 43 #[.int .u64 0,.int .u64 0,.int .u64 0,.int .u64 0]
 replace hb0:=hb0.trans (hv1.mono hb0.size)
 rw[E_]
 clear hv1 E_
 obtain⟨q1c0,q1c1,q1c2,q1c3,q1z,q1f0,q1f1,q1f2,q1f3⟩:=q1.b4
 obtain⟨q2c0,q2c1,q2c2,q2c3,q2z,q2f0,q2f1,q2f2,q2f3⟩:=q2.b4
 obtain⟨q3c0,q3c1,q3c2,q3c3,q3z,q3f0,q3f1,q3f2,q3f3⟩:=q3.b4
 refine wp_loop_rounds 5 ?_
 rw[rounds_succ]
 go_wp2
 rw[rounds_succ]
 go_wp2
 go_region
 go_wp2
 refine(fun (H:∀W,Blk W (w.heap.size) 43 #[.int .u64 0,.int .u64 (a1:Int),.int .u64 (a2:Int),.int .u64 (a3:Int)]∧Blk W (w.heap.size+1) 43 #[.int .u64 0,.int .u64 (H:Int),.int .u64 0,.int .u64 0]∧Blk W (w.heap.size+2) 43 #[.int .u64 0,.int .u64 0,.int .u64 0,.int .u64 0]∧Below w.heap.size w W→Code.rounds _ _ _ _ _ W)=>H _ ⟨by exact(q1.far (p:=⟨w.heap.size+1,1,none⟩) (by simp) _),by exact(q2.set_ 1 _),by exact(q3.far (p:=⟨w.heap.size+1,1,none⟩) (by simp) _),by exact(hb0.setCell (p:=⟨w.heap.size+1,1,none⟩) (by simp) _).drew⟩) ?_
 clear q1c0 q1f0 q1c1 q1f1 q1c2 q1f2 q1c3 q1f3 q2c0 q2f0 q2c1 q2f1 q2c2 q2f2 q2c3 q2f3 q3c0 q3f0 q3c1 q3f1 q3c2 q3f2 q3c3 q3f3 q1z q2z q3z q1 q2 q3 hb0
 rintro v ⟨q1,q2,q3,hb0⟩
 obtain⟨q1c0,q1c1,q1c2,q1c3,q1z,q1f0,q1f1,q1f2,q1f3⟩:=q1.b4
 obtain⟨q2c0,q2c1,q2c2,q2c3,q2z,q2f0,q2f1,q2f2,q2f3⟩:=q2.b4
 obtain⟨q3c0,q3c1,q3c2,q3c3,q3z,q3f0,q3f1,q3f2,q3f3⟩:=q3.b4
 rw[rounds_succ]
 go_wp2
 refine(fun (H:∀W,Blk W (w.heap.size) 43 #[.int .u64 0,.int .u64 (a1:Int),.int .u64 (a2:Int),.int .u64 (a3:Int)]∧Blk W (w.heap.size+1) 43 #[.int .u64 0,.int .u64 (H:Int),.int .u64 (a2:Int),.int .u64 0]∧Blk W (w.heap.size+2) 43 #[.int .u64 0,.int .u64 0,.int .u64 0,.int .u64 0]∧Below w.heap.size w W→Code.rounds _ _ _ _ _ W)=>H _ ⟨by exact(q1.far (p:=⟨w.heap.size+1,2,none⟩) (by simp) _),by exact(q2.set_ 2 _),by exact(q3.far (p:=⟨w.heap.size+1,2,none⟩) (by simp) _),by exact(hb0.setCell (p:=⟨w.heap.size+1,2,none⟩) (by simp) _)⟩) ?_
 clear q1c0 q1f0 q1c1 q1f1 q1c2 q1f2 q1c3 q1f3 q2c0 q2f0 q2c1 q2f1 q2c2 q2f2 q2c3 q2f3 q3c0 q3f0 q3c1 q3f1 q3c2 q3f2 q3c3 q3f3 q1z q2z q3z q1 q2 q3 hb0
 rintro v ⟨q1,q2,q3,hb0⟩
 obtain⟨q1c0,q1c1,q1c2,q1c3,q1z,q1f0,q1f1,q1f2,q1f3⟩:=q1.b4
 obtain⟨q2c0,q2c1,q2c2,q2c3,q2z,q2f0,q2f1,q2f2,q2f3⟩:=q2.b4
 obtain⟨q3c0,q3c1,q3c2,q3c3,q3z,q3f0,q3f1,q3f2,q3f3⟩:=q3.b4
 rw[rounds_succ]
 go_wp2
 refine(fun (H:∀W,Blk W (w.heap.size) 43 #[.int .u64 0,.int .u64 (a1:Int),.int .u64 (a2:Int),.int .u64 (a3:Int)]∧Blk W (w.heap.size+1) 43 #[.int .u64 0,.int .u64 (H:Int),.int .u64 (a2:Int),.int .u64 (a3:Int)]∧Blk W (w.heap.size+2) 43 #[.int .u64 0,.int .u64 0,.int .u64 0,.int .u64 0]∧Below w.heap.size w W→Code.rounds _ _ _ _ _ W)=>H _ ⟨by exact(q1.far (p:=⟨w.heap.size+1,3,none⟩) (by simp) _),by exact(q2.set_ 3 _),by exact(q3.far (p:=⟨w.heap.size+1,3,none⟩) (by simp) _),by exact(hb0.setCell (p:=⟨w.heap.size+1,3,none⟩) (by simp) _)⟩) ?_
 clear q1c0 q1f0 q1c1 q1f1 q1c2 q1f2 q1c3 q1f3 q2c0 q2f0 q2c1 q2f1 q2c2 q2f2 q2c3 q2f3 q3c0 q3f0 q3c1 q3f1 q3c2 q3f2 q3c3 q3f3 q1z q2z q3z q1 q2 q3 hb0
 rintro v ⟨q1,q2,q3,hb0⟩
 obtain⟨q1c0,q1c1,q1c2,q1c3,q1z,q1f0,q1f1,q1f2,q1f3⟩:=q1.b4
 obtain⟨q2c0,q2c1,q2c2,q2c3,q2z,q2f0,q2f1,q2f2,q2f3⟩:=q2.b4
 obtain⟨q3c0,q3c1,q3c2,q3c3,q3z,q3f0,q3f1,q3f2,q3f3⟩:=q3.b4
 rw[rounds_succ]
 go_upto_region 15 with fail
 refine(fun (H:∀W,Blk W (w.heap.size) 43 #[.int .u64 0,.int .u64 (a1:Int),.int .u64 (a2:Int),.int .u64 (a3:Int)]∧Blk W (w.heap.size+1) 43 #[.int .u64 0,.int .u64 (H:Int),.int .u64 (a2:Int),.int .u64 (a3:Int)]∧Blk W (w.heap.size+2) 43 #[.int .u64 0,.int .u64 (H:Int),.int .u64 0,.int .u64 0]∧Below w.heap.size w W→Code.wp _ _ _ _ W)=>H _ ⟨by exact(q1.far (p:=⟨w.heap.size+2,1,none⟩) (by simp) _),by exact(q2.far (p:=⟨w.heap.size+2,1,none⟩) (by simp) _),by exact(q3.set_ 1 _),by exact(hb0.setCell (p:=⟨w.heap.size+2,1,none⟩) (by simp) _)⟩) ?_
 clear q1c0 q1f0 q1c1 q1f1 q1c2 q1f2 q1c3 q1f3 q2c0 q2f0 q2c1 q2f1 q2c2 q2f2 q2c3 q2f3 q3c0 q3f0 q3c1 q3f1 q3c2 q3f2 q3c3 q3f3 q1z q2z q3z q1 q2 q3 hb0
 rintro v ⟨q1,q2,q3,hb0⟩
 obtain⟨q1c0,q1c1,q1c2,q1c3,q1z,q1f0,q1f1,q1f2,q1f3⟩:=q1.b4
 obtain⟨q2c0,q2c1,q2c2,q2c3,q2z,q2f0,q2f1,q2f2,q2f3⟩:=q2.b4
 obtain⟨q3c0,q3c1,q3c2,q3c3,q3z,q3f0,q3f1,q3f2,q3f3⟩:=q3.b4
 have hEQ:=eq_words
 go_wp2
 go_returns
 exact⟨rfl,hb0⟩

theorem cut_4eq2 (a1 a2 a3 n X Y M H Wh:Nat) (h1:a1<18446744073709551616) (h2:a2<18446744073709551616) (h3:a3<18446744073709551616) (n1:128<n) (n2:n<192) (hX:bits BinOp.or IntKind.u64 0 0=0) (hY:(a1:Int)/2^(n-128)=(Y:Int)) (hW:bits BinOp.or IntKind.u64 0 (Y:Int)=(Wh:Int)) (hP:IntKind.u64.wrap (2^(n-128))=(M:Int)+1) (hM:M<18446744073709551616) (hr:bits BinOp.and IntKind.u64 (a1:Int) (M:Int)=(H:Int)) (hq:((n:Int)-1)/64=2) (hq2:((n:Int)-1)%64=(n:Int)-129) (hH:IntKind.u64.wrap (2^(n-129))=(H:Int)) (k1:((H:Int)==(H:Int))=true) (k4:((H:Int)==0)=false) (x1:((a2:Int)==0)=false) (x2:decide ((a2:Int)<0)=false) (x3:decide ((0:Int)<(a2:Int))=true) (x4:decide (0<a2)=true) (w:World):
 Calls Tryz.prog 40 #[.agg #[.int .u64 0,.int .u64 (a1:Int),.int .u64 (a2:Int),.int .u64 (a3:Int)],.int .i64 (n:Int)] w (Says w (.tuple #[.int .u64 (Wh:Int),.int .i64 1,.bool false])):=by
 have g1:decide ((n:Int)≤192)=true:=by simp;omega
 have g2:decide ((192:Int)-(n:Int)<64)=true:=by simp;omega
 have g3:decide ((n:Int)≤128)=false:=by simp;omega
 have g4:decide ((n:Int)≤64)=false:=by simp;omega
 have g5:decide (n=0)=false:=by simp;omega
 have g6:decide ((64:Int)≤(n:Int))=true:=by simp;omega
 have g7:decide ((128:Int)≤(n:Int))=true:=by simp;omega
 have g8:decide ((192:Int)≤(n:Int))=false:=by simp;omega
 have g0:n≠0:=by omega
 have s0:(0:Int)≤192-(n:Int):=by omega
 have s1:(0:Int)≤(n:Int)-128:=by omega
 have s2:(n:Int)-128<64:=by omega
 have hb0:Below w.heap.size w w:=Below.refl _ _
 go_enter Tryz.func40,Tryz.ntmps40
 go_wp2_with fail
 obtain⟨v1,E_,hv1,q1,q2,q3⟩:=Blk.a3 w 43 #[.int .u64 0,.int .u64 (a1:Int),.int .u64 (a2:Int),.int .u64 (a3:Int)] 43 #[.int .u64 0,.int .u64 0,.int .u64 0,.int .u64 0] 43 #[.int .u64 0,.int .u64 0,.int .u64 0,.int .u64 0]
 replace hb0:=hb0.trans (hv1.mono hb0.size)
 rw[E_]
 clear hv1 E_
 obtain⟨q1c0,q1c1,q1c2,q1c3,q1z,q1f0,q1f1,q1f2,q1f3⟩:=q1.b4
 obtain⟨q2c0,q2c1,q2c2,q2c3,q2z,q2f0,q2f1,q2f2,q2f3⟩:=q2.b4
 obtain⟨q3c0,q3c1,q3c2,q3c3,q3z,q3f0,q3f1,q3f2,q3f3⟩:=q3.b4
 refine wp_loop_rounds 5 ?_
 rw[rounds_succ]
 go_wp2
 rw[rounds_succ]
 go_wp2
 go_region
 go_wp2
 refine(fun (H:∀W,Blk W (w.heap.size) 43 #[.int .u64 0,.int .u64 (a1:Int),.int .u64 (a2:Int),.int .u64 (a3:Int)]∧Blk W (w.heap.size+1) 43 #[.int .u64 0,.int .u64 (H:Int),.int .u64 0,.int .u64 0]∧Blk W (w.heap.size+2) 43 #[.int .u64 0,.int .u64 0,.int .u64 0,.int .u64 0]∧Below w.heap.size w W→Code.rounds _ _ _ _ _ W)=>H _ ⟨by exact(q1.far (p:=⟨w.heap.size+1,1,none⟩) (by simp) _),by exact(q2.set_ 1 _),by exact(q3.far (p:=⟨w.heap.size+1,1,none⟩) (by simp) _),by exact(hb0.setCell (p:=⟨w.heap.size+1,1,none⟩) (by simp) _).drew⟩) ?_
 clear q1c0 q1f0 q1c1 q1f1 q1c2 q1f2 q1c3 q1f3 q2c0 q2f0 q2c1 q2f1 q2c2 q2f2 q2c3 q2f3 q3c0 q3f0 q3c1 q3f1 q3c2 q3f2 q3c3 q3f3 q1z q2z q3z q1 q2 q3 hb0
 rintro v ⟨q1,q2,q3,hb0⟩
 obtain⟨q1c0,q1c1,q1c2,q1c3,q1z,q1f0,q1f1,q1f2,q1f3⟩:=q1.b4
 obtain⟨q2c0,q2c1,q2c2,q2c3,q2z,q2f0,q2f1,q2f2,q2f3⟩:=q2.b4
 obtain⟨q3c0,q3c1,q3c2,q3c3,q3z,q3f0,q3f1,q3f2,q3f3⟩:=q3.b4
 rw[rounds_succ]
 go_wp2
 refine(fun (H:∀W,Blk W (w.heap.size) 43 #[.int .u64 0,.int .u64 (a1:Int),.int .u64 (a2:Int),.int .u64 (a3:Int)]∧Blk W (w.heap.size+1) 43 #[.int .u64 0,.int .u64 (H:Int),.int .u64 (a2:Int),.int .u64 0]∧Blk W (w.heap.size+2) 43 #[.int .u64 0,.int .u64 0,.int .u64 0,.int .u64 0]∧Below w.heap.size w W→Code.rounds _ _ _ _ _ W)=>H _ ⟨by exact(q1.far (p:=⟨w.heap.size+1,2,none⟩) (by simp) _),by exact(q2.set_ 2 _),by exact(q3.far (p:=⟨w.heap.size+1,2,none⟩) (by simp) _),by exact(hb0.setCell (p:=⟨w.heap.size+1,2,none⟩) (by simp) _)⟩) ?_
 clear q1c0 q1f0 q1c1 q1f1 q1c2 q1f2 q1c3 q1f3 q2c0 q2f0 q2c1 q2f1 q2c2 q2f2 q2c3 q2f3 q3c0 q3f0 q3c1 q3f1 q3c2 q3f2 q3c3 q3f3 q1z q2z q3z q1 q2 q3 hb0
 rintro v ⟨q1,q2,q3,hb0⟩
 obtain⟨q1c0,q1c1,q1c2,q1c3,q1z,q1f0,q1f1,q1f2,q1f3⟩:=q1.b4
 obtain⟨q2c0,q2c1,q2c2,q2c3,q2z,q2f0,q2f1,q2f2,q2f3⟩:=q2.b4
 obtain⟨q3c0,q3c1,q3c2,q3c3,q3z,q3f0,q3f1,q3f2,q3f3⟩:=q3.b4
 rw[rounds_succ]
 go_wp2
 refine(fun (H:∀W,Blk W (w.heap.size) 43 #[.int .u64 0,.int .u64 (a1:Int),.int .u64 (a2:Int),.int .u64 (a3:Int)]∧Blk W (w.heap.size+1) 43 #[.int .u64 0,.int .u64 (H:Int),.int .u64 (a2:Int),.int .u64 (a3:Int)]∧Blk W (w.heap.size+2) 43 #[.int .u64 0,.int .u64 0,.int .u64 0,.int .u64 0]∧Below w.heap.size w W→Code.rounds _ _ _ _ _ W)=>H _ ⟨by exact(q1.far (p:=⟨w.heap.size+1,3,none⟩) (by simp) _),by exact(q2.set_ 3 _),by exact(q3.far (p:=⟨w.heap.size+1,3,none⟩) (by simp) _),by exact(hb0.setCell (p:=⟨w.heap.size+1,3,none⟩) (by simp) _)⟩) ?_
 clear q1c0 q1f0 q1c1 q1f1 q1c2 q1f2 q1c3 q1f3 q2c0 q2f0 q2c1 q2f1 q2c2 q2f2 q2c3 q2f3 q3c0 q3f0 q3c1 q3f1 q3c2 q3f2 q3c3 q3f3 q1z q2z q3z q1 q2 q3 hb0
 rintro v ⟨q1,q2,q3,hb0⟩
 obtain⟨q1c0,q1c1,q1c2,q1c3,q1z,q1f0,q1f1,q1f2,q1f3⟩:=q1.b4
 obtain⟨q2c0,q2c1,q2c2,q2c3,q2z,q2f0,q2f1,q2f2,q2f3⟩:=q2.b4
 obtain⟨q3c0,q3c1,q3c2,q3c3,q3z,q3f0,q3f1,q3f2,q3f3⟩:=q3.b4
 rw[rounds_succ]
 go_upto_region 15 with fail
 refine(fun (H:∀W,Blk W (w.heap.size) 43 #[.int .u64 0,.int .u64 (a1:Int),.int .u64 (a2:Int),.int .u64 (a3:Int)]∧Blk W (w.heap.size+1) 43 #[.int .u64 0,.int .u64 (H:Int),.int .u64 (a2:Int),.int .u64 (a3:Int)]∧Blk W (w.heap.size+2) 43 #[.int .u64 0,.int .u64 (H:Int),.int .u64 0,.int .u64 0]∧Below w.heap.size w W→Code.wp _ _ _ _ W)=>H _ ⟨by exact(q1.far (p:=⟨w.heap.size+2,1,none⟩) (by simp) _),by exact(q2.far (p:=⟨w.heap.size+2,1,none⟩) (by simp) _),by exact(q3.set_ 1 _),by exact(hb0.setCell (p:=⟨w.heap.size+2,1,none⟩) (by simp) _)⟩) ?_
 clear q1c0 q1f0 q1c1 q1f1 q1c2 q1f2 q1c3 q1f3 q2c0 q2f0 q2c1 q2f1 q2c2 q2f2 q2c3 q2f3 q3c0 q3f0 q3c1 q3f1 q3c2 q3f2 q3c3 q3f3 q1z q2z q3z q1 q2 q3 hb0
 rintro v ⟨q1,q2,q3,hb0⟩
 obtain⟨q1c0,q1c1,q1c2,q1c3,q1z,q1f0,q1f1,q1f2,q1f3⟩:=q1.b4
 obtain⟨q2c0,q2c1,q2c2,q2c3,q2z,q2f0,q2f1,q2f2,q2f3⟩:=q2.b4
 obtain⟨q3c0,q3c1,q3c2,q3c3,q3z,q3f0,q3f1,q3f2,q3f3⟩:=q3.b4
 have hEQ:=eq_words
 go_wp2
 refine wp_loop_rounds 5 ?_
 rw[rounds_succ]
 go_wp2
 go_quiet (fail)
 go_wp2
 go_quiet (fail)
 go_wp2
 rw[rounds_succ]
 go_wp2
 go_quiet (fail)
 go_wp2
 go_quiet (fail)
 go_wp2
 rw[rounds_succ]
 go_wp2
 go_quiet (fail)
 go_wp2
 go_quiet (fail)
 go_wp2
 go_returns
 exact⟨rfl,bbel⟩

theorem cut_4eq3 (a1 a2 a3 n X Y M H Wh:Nat) (h1:a1<18446744073709551616) (h2:a2<18446744073709551616) (h3:a3<18446744073709551616) (n1:128<n) (n2:n<192) (hX:bits BinOp.or IntKind.u64 0 0=0) (hY:(a1:Int)/2^(n-128)=(Y:Int)) (hW:bits BinOp.or IntKind.u64 0 (Y:Int)=(Wh:Int)) (hP:IntKind.u64.wrap (2^(n-128))=(M:Int)+1) (hM:M<18446744073709551616) (hr:bits BinOp.and IntKind.u64 (a1:Int) (M:Int)=(H:Int)) (hq:((n:Int)-1)/64=2) (hq2:((n:Int)-1)%64=(n:Int)-129) (hH:IntKind.u64.wrap (2^(n-129))=(H:Int)) (k1:((H:Int)==(H:Int))=true) (k4:((H:Int)==0)=false) (za2:((a2:Int)==0)=true) (zla2:decide ((a2:Int)<0)=false) (zga2:decide ((0:Int)<(a2:Int))=false) (zha2:decide (0<a2)=false) (x1:((a3:Int)==0)=false) (x2:decide ((a3:Int)<0)=false) (x3:decide ((0:Int)<(a3:Int))=true) (x4:decide (0<a3)=true) (w:World):
 Calls Tryz.prog 40 #[.agg #[.int .u64 0,.int .u64 (a1:Int),.int .u64 (a2:Int),.int .u64 (a3:Int)],.int .i64 (n:Int)] w (Says w (.tuple #[.int .u64 (Wh:Int),.int .i64 1,.bool false])):=by
 have g1:decide ((n:Int)≤192)=true:=by simp;omega
 have g2:decide ((192:Int)-(n:Int)<64)=true:=by simp;omega
 have g3:decide ((n:Int)≤128)=false:=by simp;omega
 have g4:decide ((n:Int)≤64)=false:=by simp;omega
 have g5:decide (n=0)=false:=by simp;omega
 have g6:decide ((64:Int)≤(n:Int))=true:=by simp;omega
 have g7:decide ((128:Int)≤(n:Int))=true:=by simp;omega
 have g8:decide ((192:Int)≤(n:Int))=false:=by simp;omega
 have g0:n≠0:=by omega
 have s0:(0:Int)≤192-(n:Int):=by omega
 have s1:(0:Int)≤(n:Int)-128:=by omega
 have s2:(n:Int)-128<64:=by omega
 have hb0:Below w.heap.size w w:=Below.refl _ _
 go_enter Tryz.func40,Tryz.ntmps40
 go_wp2_with fail
 obtain⟨v1,E_,hv1,q1,q2,q3⟩:=Blk.a3 w 43 #[.int .u64 0,.int .u64 (a1:Int),.int .u64 (a2:Int),.int .u64 (a3:Int)] 43 #[.int .u64 0,.int .u64 0,.int .u64 0,.int .u64 0] 43 #[.int .u64 0,.int .u64 0,.int .u64 0,.int .u64 0]
 replace hb0:=hb0.trans (hv1.mono hb0.size)
 rw[E_]
 clear hv1 E_
 obtain⟨q1c0,q1c1,q1c2,q1c3,q1z,q1f0,q1f1,q1f2,q1f3⟩:=q1.b4
 obtain⟨q2c0,q2c1,q2c2,q2c3,q2z,q2f0,q2f1,q2f2,q2f3⟩:=q2.b4
 obtain⟨q3c0,q3c1,q3c2,q3c3,q3z,q3f0,q3f1,q3f2,q3f3⟩:=q3.b4
 refine wp_loop_rounds 5 ?_
 rw[rounds_succ]
 go_wp2
 rw[rounds_succ]
 go_wp2
 go_region
 go_wp2
 refine(fun (H:∀W,Blk W (w.heap.size) 43 #[.int .u64 0,.int .u64 (a1:Int),.int .u64 (a2:Int),.int .u64 (a3:Int)]∧Blk W (w.heap.size+1) 43 #[.int .u64 0,.int .u64 (H:Int),.int .u64 0,.int .u64 0]∧Blk W (w.heap.size+2) 43 #[.int .u64 0,.int .u64 0,.int .u64 0,.int .u64 0]∧Below w.heap.size w W→Code.rounds _ _ _ _ _ W)=>H _ ⟨by exact(q1.far (p:=⟨w.heap.size+1,1,none⟩) (by simp) _),by exact(q2.set_ 1 _),by exact(q3.far (p:=⟨w.heap.size+1,1,none⟩) (by simp) _),by exact(hb0.setCell (p:=⟨w.heap.size+1,1,none⟩) (by simp) _).drew⟩) ?_
 clear q1c0 q1f0 q1c1 q1f1 q1c2 q1f2 q1c3 q1f3 q2c0 q2f0 q2c1 q2f1 q2c2 q2f2 q2c3 q2f3 q3c0 q3f0 q3c1 q3f1 q3c2 q3f2 q3c3 q3f3 q1z q2z q3z q1 q2 q3 hb0
 rintro v ⟨q1,q2,q3,hb0⟩
 obtain⟨q1c0,q1c1,q1c2,q1c3,q1z,q1f0,q1f1,q1f2,q1f3⟩:=q1.b4
 obtain⟨q2c0,q2c1,q2c2,q2c3,q2z,q2f0,q2f1,q2f2,q2f3⟩:=q2.b4
 obtain⟨q3c0,q3c1,q3c2,q3c3,q3z,q3f0,q3f1,q3f2,q3f3⟩:=q3.b4
 rw[rounds_succ]
 go_wp2
 refine(fun (H:∀W,Blk W (w.heap.size) 43 #[.int .u64 0,.int .u64 (a1:Int),.int .u64 (a2:Int),.int .u64 (a3:Int)]∧Blk W (w.heap.size+1) 43 #[.int .u64 0,.int .u64 (H:Int),.int .u64 (a2:Int),.int .u64 0]∧Blk W (w.heap.size+2) 43 #[.int .u64 0,.int .u64 0,.int .u64 0,.int .u64 0]∧Below w.heap.size w W→Code.rounds _ _ _ _ _ W)=>H _ ⟨by exact(q1.far (p:=⟨w.heap.size+1,2,none⟩) (by simp) _),by exact(q2.set_ 2 _),by exact(q3.far (p:=⟨w.heap.size+1,2,none⟩) (by simp) _),by exact(hb0.setCell (p:=⟨w.heap.size+1,2,none⟩) (by simp) _)⟩) ?_
 clear q1c0 q1f0 q1c1 q1f1 q1c2 q1f2 q1c3 q1f3 q2c0 q2f0 q2c1 q2f1 q2c2 q2f2 q2c3 q2f3 q3c0 q3f0 q3c1 q3f1 q3c2 q3f2 q3c3 q3f3 q1z q2z q3z q1 q2 q3 hb0
 rintro v ⟨q1,q2,q3,hb0⟩
 obtain⟨q1c0,q1c1,q1c2,q1c3,q1z,q1f0,q1f1,q1f2,q1f3⟩:=q1.b4
 obtain⟨q2c0,q2c1,q2c2,q2c3,q2z,q2f0,q2f1,q2f2,q2f3⟩:=q2.b4
 obtain⟨q3c0,q3c1,q3c2,q3c3,q3z,q3f0,q3f1,q3f2,q3f3⟩:=q3.b4
 rw[rounds_succ]
 go_wp2
 refine(fun (H:∀W,Blk W (w.heap.size) 43 #[.int .u64 0,.int .u64 (a1:Int),.int .u64 (a2:Int),.int .u64 (a3:Int)]∧Blk W (w.heap.size+1) 43 #[.int .u64 0,.int .u64 (H:Int),.int .u64 (a2:Int),.int .u64 (a3:Int)]∧Blk W (w.heap.size+2) 43 #[.int .u64 0,.int .u64 0,.int .u64 0,.int .u64 0]∧Below w.heap.size w W→Code.rounds _ _ _ _ _ W)=>H _ ⟨by exact(q1.far (p:=⟨w.heap.size+1,3,none⟩) (by simp) _),by exact(q2.set_ 3 _),by exact(q3.far (p:=⟨w.heap.size+1,3,none⟩) (by simp) _),by exact(hb0.setCell (p:=⟨w.heap.size+1,3,none⟩) (by simp) _)⟩) ?_
 clear q1c0 q1f0 q1c1 q1f1 q1c2 q1f2 q1c3 q1f3 q2c0 q2f0 q2c1 q2f1 q2c2 q2f2 q2c3 q2f3 q3c0 q3f0 q3c1 q3f1 q3c2 q3f2 q3c3 q3f3 q1z q2z q3z q1 q2 q3 hb0
 rintro v ⟨q1,q2,q3,hb0⟩
 obtain⟨q1c0,q1c1,q1c2,q1c3,q1z,q1f0,q1f1,q1f2,q1f3⟩:=q1.b4
 obtain⟨q2c0,q2c1,q2c2,q2c3,q2z,q2f0,q2f1,q2f2,q2f3⟩:=q2.b4
 obtain⟨q3c0,q3c1,q3c2,q3c3,q3z,q3f0,q3f1,q3f2,q3f3⟩:=q3.b4
 rw[rounds_succ]
 go_upto_region 15 with fail
 refine(fun (H:∀W,Blk W (w.heap.size) 43 #[.int .u64 0,.int .u64 (a1:Int),.int .u64 (a2:Int),.int .u64 (a3:Int)]∧Blk W (w.heap.size+1) 43 #[.int .u64 0,.int .u64 (H:Int),.int .u64 (a2:Int),.int .u64 (a3:Int)]∧Blk W (w.heap.size+2) 43 #[.int .u64 0,.int .u64 (H:Int),.int .u64 0,.int .u64 0]∧Below w.heap.size w W→Code.wp _ _ _ _ W)=>H _ ⟨by exact(q1.far (p:=⟨w.heap.size+2,1,none⟩) (by simp) _),by exact(q2.far (p:=⟨w.heap.size+2,1,none⟩) (by simp) _),by exact(q3.set_ 1 _),by exact(hb0.setCell (p:=⟨w.heap.size+2,1,none⟩) (by simp) _)⟩) ?_
 clear q1c0 q1f0 q1c1 q1f1 q1c2 q1f2 q1c3 q1f3 q2c0 q2f0 q2c1 q2f1 q2c2 q2f2 q2c3 q2f3 q3c0 q3f0 q3c1 q3f1 q3c2 q3f2 q3c3 q3f3 q1z q2z q3z q1 q2 q3 hb0
 rintro v ⟨q1,q2,q3,hb0⟩
 obtain⟨q1c0,q1c1,q1c2,q1c3,q1z,q1f0,q1f1,q1f2,q1f3⟩:=q1.b4
 obtain⟨q2c0,q2c1,q2c2,q2c3,q2z,q2f0,q2f1,q2f2,q2f3⟩:=q2.b4
 obtain⟨q3c0,q3c1,q3c2,q3c3,q3z,q3f0,q3f1,q3f2,q3f3⟩:=q3.b4
 have hEQ:=eq_words
 go_wp2
 refine wp_loop_rounds 5 ?_
 rw[rounds_succ]
 go_wp2
 go_quiet (fail)
 go_wp2
 go_quiet (fail)
 go_wp2
 rw[rounds_succ]
 go_wp2
 go_quiet (fail)
 go_wp2
 go_quiet (fail)
 go_wp2
 rw[rounds_succ]
 go_wp2
 go_quiet (fail)
 go_wp2
 go_quiet (fail)
 go_wp2
 rw[rounds_succ]
 go_wp2
 go_quiet (fail)
 go_wp2
 go_quiet (fail)
 go_wp2
 go_returns
 exact⟨rfl,bbel⟩

end Go.Proofs.YtenekbfnlbipiaaGreatDoor
