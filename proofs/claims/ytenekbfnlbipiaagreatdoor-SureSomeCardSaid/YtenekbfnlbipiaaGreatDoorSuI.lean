/- Walks: a number over a power of two, cut at a word's end. -/
import Derived.Test.YtenekbfnlbipiaaGreatDoorSuH
import Derived.BigRegion
import Derived.Deep.CutBlock
namespace Go.Proofs.YtenekbfnlbipiaaGreatDoor
open Go.RowKit
set_option linter.unusedVariables false
set_option linter.unusedSimpArgs false
set_option maxHeartbeats 4000000
set_option maxRecDepth 100000

theorem cut_1lt (a1 a2 a3:Nat) (h1:a1<18446744073709551616) (h2:a2<18446744073709551616) (h3:a3<18446744073709551616) (hW:bits BinOp.or IntKind.u64 0 (a2:Int)=(a2:Int)) (k1:((a3:Int)==9223372036854775808)=false) (k2:decide ((a3:Int)<9223372036854775808)=true) (k3:a3<9223372036854775808) (NB:Bool) (k4:(((a3:Int)==0))=NB) (w:World):
 Calls Tryz.prog 40 #[.agg #[.int .u64 0,.int .u64 (a1:Int),.int .u64 (a2:Int),.int .u64 (a3:Int)],.int .i64 64] w (Says w (.tuple #[.int .u64 (a2:Int),.int .i64 (-1),.bool NB])):=by
 have hb0:Below w.heap.size w w:=Below.refl _ _
 go_enter Tryz.func40,Tryz.ntmps40
 go_wp2_with fail
 obtain⟨v1,E_,hv1,q1,q2,q3⟩:=Blk.a3 w 43 #[.int .u64 0,.int .u64 (a1:Int),.int .u64 (a2:Int),.int .u64 (a3:Int)] 43 #[.int .u64 0,.int .u64 0,.int .u64 0,.int .u64 0] 43 #[.int .u64 0,.int .u64 0,.int .u64 0,.int .u64 0]
 replace hb0:=hb0.trans (hv1.mono hb0.size)
 rw[E_]
 clear hv1 E_
 obtain⟨q1c0,q1c1,q1c2,q1c3,q1z,q1f0,q1f1,q1f2,q1f3⟩:=q1.b4
 obtain⟨q2c0,q2c1,q2c2,q2c3,q2z,q2f0,q2f1,q2f2,q2f3⟩:=q2.b4
 obtain⟨q3c0,q3c1,q3c2,q3c3,q3z,q3f0,q3f1,q3f2,q3f3⟩:=q3.b4
 refine wp_loop_rounds 5 ?_
 rw[rounds_succ]
 go_wp2
 rw[rounds_succ]
 go_wp2
 rw[rounds_succ]
 go_wp2
 rw[rounds_succ]
 go_wp2
 refine(fun (H:∀W,Blk W (w.heap.size) 43 #[.int .u64 0,.int .u64 (a1:Int),.int .u64 (a2:Int),.int .u64 (a3:Int)]∧Blk W (w.heap.size+1) 43 #[.int .u64 0,.int .u64 0,.int .u64 0,.int .u64 (a3:Int)]∧Blk W (w.heap.size+2) 43 #[.int .u64 0,.int .u64 0,.int .u64 0,.int .u64 0]∧Below w.heap.size w W→Code.rounds _ _ _ _ _ W)=>H _ ⟨by exact(q1.far (p:=⟨w.heap.size+1,3,none⟩) (by simp) _),by exact(q2.set_ 3 _),by exact(q3.far (p:=⟨w.heap.size+1,3,none⟩) (by simp) _),by exact(hb0.setCell (p:=⟨w.heap.size+1,3,none⟩) (by simp) _)⟩) ?_
 clear q1c0 q1f0 q1c1 q1f1 q1c2 q1f2 q1c3 q1f3 q2c0 q2f0 q2c1 q2f1 q2c2 q2f2 q2c3 q2f3 q3c0 q3f0 q3c1 q3f1 q3c2 q3f2 q3c3 q3f3 q1z q2z q3z q1 q2 q3 hb0
 rintro v ⟨q1,q2,q3,hb0⟩
 obtain⟨q1c0,q1c1,q1c2,q1c3,q1z,q1f0,q1f1,q1f2,q1f3⟩:=q1.b4
 obtain⟨q2c0,q2c1,q2c2,q2c3,q2z,q2f0,q2f1,q2f2,q2f3⟩:=q2.b4
 obtain⟨q3c0,q3c1,q3c2,q3c3,q3z,q3f0,q3f1,q3f2,q3f3⟩:=q3.b4
 rw[rounds_succ]
 go_upto_region 15 with fail
 refine(fun (H:∀W,Blk W (w.heap.size) 43 #[.int .u64 0,.int .u64 (a1:Int),.int .u64 (a2:Int),.int .u64 (a3:Int)]∧Blk W (w.heap.size+1) 43 #[.int .u64 0,.int .u64 0,.int .u64 0,.int .u64 (a3:Int)]∧Blk W (w.heap.size+2) 43 #[.int .u64 0,.int .u64 0,.int .u64 0,.int .u64 9223372036854775808]∧Below w.heap.size w W→Code.wp _ _ _ _ W)=>H _ ⟨by exact(q1.far (p:=⟨w.heap.size+2,3,none⟩) (by simp) _),by exact(q2.far (p:=⟨w.heap.size+2,3,none⟩) (by simp) _),by exact(q3.set_ 3 _),by exact(hb0.setCell (p:=⟨w.heap.size+2,3,none⟩) (by simp) _)⟩) ?_
 clear q1c0 q1f0 q1c1 q1f1 q1c2 q1f2 q1c3 q1f3 q2c0 q2f0 q2c1 q2f1 q2c2 q2f2 q2c3 q2f3 q3c0 q3f0 q3c1 q3f1 q3c2 q3f2 q3c3 q3f3 q1z q2z q3z q1 q2 q3 hb0
 rintro v ⟨q1,q2,q3,hb0⟩
 obtain⟨q1c0,q1c1,q1c2,q1c3,q1z,q1f0,q1f1,q1f2,q1f3⟩:=q1.b4
 obtain⟨q2c0,q2c1,q2c2,q2c3,q2z,q2f0,q2f1,q2f2,q2f3⟩:=q2.b4
 obtain⟨q3c0,q3c1,q3c2,q3c3,q3z,q3f0,q3f1,q3f2,q3f3⟩:=q3.b4
 have hEQ:=eq_words
 go_wp2
 refine wp_loop_rounds 5 ?_
 rw[rounds_succ]
 go_wp2
 go_quiet (fail)
 go_wp2
 go_quiet (fail)
 go_wp2
 rw[rounds_succ]
 go_wp2
 go_quiet (fail)
 go_wp2
 go_quiet (fail)
 go_wp2
 rw[rounds_succ]
 go_wp2
 go_quiet (fail)
 go_wp2
 go_quiet (fail)
 go_wp2
 rw[rounds_succ]
 go_wp2
 go_quiet (fail)
 go_wp2
 go_returns
 exact⟨rfl,bbel⟩

theorem cut_1gt (a1 a2 a3:Nat) (h1:a1<18446744073709551616) (h2:a2<18446744073709551616) (h3:a3<18446744073709551616) (hW:bits BinOp.or IntKind.u64 0 (a2:Int)=(a2:Int)) (k1:((a3:Int)==9223372036854775808)=false) (k2:decide ((a3:Int)<9223372036854775808)=false) (kn2:decide (a3<9223372036854775808)=false) (k3:decide (9223372036854775808<(a3:Int))=true) (kn3:decide (9223372036854775808<a3)=true) (k4:((a3:Int)==0)=false) (w:World):
 Calls Tryz.prog 40 #[.agg #[.int .u64 0,.int .u64 (a1:Int),.int .u64 (a2:Int),.int .u64 (a3:Int)],.int .i64 64] w (Says w (.tuple #[.int .u64 (a2:Int),.int .i64 1,.bool false])):=by
 have hb0:Below w.heap.size w w:=Below.refl _ _
 go_enter Tryz.func40,Tryz.ntmps40
 go_wp2_with fail
 obtain⟨v1,E_,hv1,q1,q2,q3⟩:=Blk.a3 w 43 #[.int .u64 0,.int .u64 (a1:Int),.int .u64 (a2:Int),.int .u64 (a3:Int)] 43 #[.int .u64 0,.int .u64 0,.int .u64 0,.int .u64 0] 43 #[.int .u64 0,.int .u64 0,.int .u64 0,.int .u64 0]
 replace hb0:=hb0.trans (hv1.mono hb0.size)
 rw[E_]
 clear hv1 E_
 obtain⟨q1c0,q1c1,q1c2,q1c3,q1z,q1f0,q1f1,q1f2,q1f3⟩:=q1.b4
 obtain⟨q2c0,q2c1,q2c2,q2c3,q2z,q2f0,q2f1,q2f2,q2f3⟩:=q2.b4
 obtain⟨q3c0,q3c1,q3c2,q3c3,q3z,q3f0,q3f1,q3f2,q3f3⟩:=q3.b4
 refine wp_loop_rounds 5 ?_
 rw[rounds_succ]
 go_wp2
 rw[rounds_succ]
 go_wp2
 rw[rounds_succ]
 go_wp2
 rw[rounds_succ]
 go_wp2
 refine(fun (H:∀W,Blk W (w.heap.size) 43 #[.int .u64 0,.int .u64 (a1:Int),.int .u64 (a2:Int),.int .u64 (a3:Int)]∧Blk W (w.heap.size+1) 43 #[.int .u64 0,.int .u64 0,.int .u64 0,.int .u64 (a3:Int)]∧Blk W (w.heap.size+2) 43 #[.int .u64 0,.int .u64 0,.int .u64 0,.int .u64 0]∧Below w.heap.size w W→Code.rounds _ _ _ _ _ W)=>H _ ⟨by exact(q1.far (p:=⟨w.heap.size+1,3,none⟩) (by simp) _),by exact(q2.set_ 3 _),by exact(q3.far (p:=⟨w.heap.size+1,3,none⟩) (by simp) _),by exact(hb0.setCell (p:=⟨w.heap.size+1,3,none⟩) (by simp) _)⟩) ?_
 clear q1c0 q1f0 q1c1 q1f1 q1c2 q1f2 q1c3 q1f3 q2c0 q2f0 q2c1 q2f1 q2c2 q2f2 q2c3 q2f3 q3c0 q3f0 q3c1 q3f1 q3c2 q3f2 q3c3 q3f3 q1z q2z q3z q1 q2 q3 hb0
 rintro v ⟨q1,q2,q3,hb0⟩
 obtain⟨q1c0,q1c1,q1c2,q1c3,q1z,q1f0,q1f1,q1f2,q1f3⟩:=q1.b4
 obtain⟨q2c0,q2c1,q2c2,q2c3,q2z,q2f0,q2f1,q2f2,q2f3⟩:=q2.b4
 obtain⟨q3c0,q3c1,q3c2,q3c3,q3z,q3f0,q3f1,q3f2,q3f3⟩:=q3.b4
 rw[rounds_succ]
 go_upto_region 15 with fail
 refine(fun (H:∀W,Blk W (w.heap.size) 43 #[.int .u64 0,.int .u64 (a1:Int),.int .u64 (a2:Int),.int .u64 (a3:Int)]∧Blk W (w.heap.size+1) 43 #[.int .u64 0,.int .u64 0,.int .u64 0,.int .u64 (a3:Int)]∧Blk W (w.heap.size+2) 43 #[.int .u64 0,.int .u64 0,.int .u64 0,.int .u64 9223372036854775808]∧Below w.heap.size w W→Code.wp _ _ _ _ W)=>H _ ⟨by exact(q1.far (p:=⟨w.heap.size+2,3,none⟩) (by simp) _),by exact(q2.far (p:=⟨w.heap.size+2,3,none⟩) (by simp) _),by exact(q3.set_ 3 _),by exact(hb0.setCell (p:=⟨w.heap.size+2,3,none⟩) (by simp) _)⟩) ?_
 clear q1c0 q1f0 q1c1 q1f1 q1c2 q1f2 q1c3 q1f3 q2c0 q2f0 q2c1 q2f1 q2c2 q2f2 q2c3 q2f3 q3c0 q3f0 q3c1 q3f1 q3c2 q3f2 q3c3 q3f3 q1z q2z q3z q1 q2 q3 hb0
 rintro v ⟨q1,q2,q3,hb0⟩
 obtain⟨q1c0,q1c1,q1c2,q1c3,q1z,q1f0,q1f1,q1f2,q1f3⟩:=q1.b4
 obtain⟨q2c0,q2c1,q2c2,q2c3,q2z,q2f0,q2f1,q2f2,q2f3⟩:=q2.b4
 obtain⟨q3c0,q3c1,q3c2,q3c3,q3z,q3f0,q3f1,q3f2,q3f3⟩:=q3.b4
 have hEQ:=eq_words
 go_wp2
 refine wp_loop_rounds 5 ?_
 rw[rounds_succ]
 go_wp2
 go_quiet (fail)
 go_wp2
 go_quiet (fail)
 go_wp2
 rw[rounds_succ]
 go_wp2
 go_quiet (fail)
 go_wp2
 go_quiet (fail)
 go_wp2
 rw[rounds_succ]
 go_wp2
 go_quiet (fail)
 go_wp2
 go_quiet (fail)
 go_wp2
 rw[rounds_succ]
 go_wp2
 go_quiet (fail)
 go_wp2
 go_quiet (fail)
 go_wp2
 go_returns
 exact⟨rfl,bbel⟩

theorem cut_1eq (a1 a2:Nat) (h1:a1<18446744073709551616) (h2:a2<18446744073709551616)  (hW:bits BinOp.or IntKind.u64 0 (a2:Int)=(a2:Int))  (w:World):
 Calls Tryz.prog 40 #[.agg #[.int .u64 0,.int .u64 (a1:Int),.int .u64 (a2:Int),.int .u64 9223372036854775808],.int .i64 64] w (Says w (.tuple #[.int .u64 (a2:Int),.int .i64 0,.bool false])):=by
 have hb0:Below w.heap.size w w:=Below.refl _ _
 go_enter Tryz.func40,Tryz.ntmps40
 go_wp2_with fail
 obtain⟨v1,E_,hv1,q1,q2,q3⟩:=Blk.a3 w 43 #[.int .u64 0,.int .u64 (a1:Int),.int .u64 (a2:Int),.int .u64 9223372036854775808] 43 #[.int .u64 0,.int .u64 0,.int .u64 0,.int .u64 0] 43 #[.int .u64 0,.int .u64 0,.int .u64 0,.int .u64 0]
 replace hb0:=hb0.trans (hv1.mono hb0.size)
 rw[E_]
 clear hv1 E_
 obtain⟨q1c0,q1c1,q1c2,q1c3,q1z,q1f0,q1f1,q1f2,q1f3⟩:=q1.b4
 obtain⟨q2c0,q2c1,q2c2,q2c3,q2z,q2f0,q2f1,q2f2,q2f3⟩:=q2.b4
 obtain⟨q3c0,q3c1,q3c2,q3c3,q3z,q3f0,q3f1,q3f2,q3f3⟩:=q3.b4
 refine wp_loop_rounds 5 ?_
 rw[rounds_succ]
 go_wp2
 rw[rounds_succ]
 go_wp2
 rw[rounds_succ]
 go_wp2
 rw[rounds_succ]
 go_wp2
 refine(fun (H:∀W,Blk W (w.heap.size) 43 #[.int .u64 0,.int .u64 (a1:Int),.int .u64 (a2:Int),.int .u64 9223372036854775808]∧Blk W (w.heap.size+1) 43 #[.int .u64 0,.int .u64 0,.int .u64 0,.int .u64 9223372036854775808]∧Blk W (w.heap.size+2) 43 #[.int .u64 0,.int .u64 0,.int .u64 0,.int .u64 0]∧Below w.heap.size w W→Code.rounds _ _ _ _ _ W)=>H _ ⟨by exact(q1.far (p:=⟨w.heap.size+1,3,none⟩) (by simp) _),by exact(q2.set_ 3 _),by exact(q3.far (p:=⟨w.heap.size+1,3,none⟩) (by simp) _),by exact(hb0.setCell (p:=⟨w.heap.size+1,3,none⟩) (by simp) _)⟩) ?_
 clear q1c0 q1f0 q1c1 q1f1 q1c2 q1f2 q1c3 q1f3 q2c0 q2f0 q2c1 q2f1 q2c2 q2f2 q2c3 q2f3 q3c0 q3f0 q3c1 q3f1 q3c2 q3f2 q3c3 q3f3 q1z q2z q3z q1 q2 q3 hb0
 rintro v ⟨q1,q2,q3,hb0⟩
 obtain⟨q1c0,q1c1,q1c2,q1c3,q1z,q1f0,q1f1,q1f2,q1f3⟩:=q1.b4
 obtain⟨q2c0,q2c1,q2c2,q2c3,q2z,q2f0,q2f1,q2f2,q2f3⟩:=q2.b4
 obtain⟨q3c0,q3c1,q3c2,q3c3,q3z,q3f0,q3f1,q3f2,q3f3⟩:=q3.b4
 rw[rounds_succ]
 go_upto_region 15 with fail
 refine(fun (H:∀W,Blk W (w.heap.size) 43 #[.int .u64 0,.int .u64 (a1:Int),.int .u64 (a2:Int),.int .u64 9223372036854775808]∧Blk W (w.heap.size+1) 43 #[.int .u64 0,.int .u64 0,.int .u64 0,.int .u64 9223372036854775808]∧Blk W (w.heap.size+2) 43 #[.int .u64 0,.int .u64 0,.int .u64 0,.int .u64 9223372036854775808]∧Below w.heap.size w W→Code.wp _ _ _ _ W)=>H _ ⟨by exact(q1.far (p:=⟨w.heap.size+2,3,none⟩) (by simp) _),by exact(q2.far (p:=⟨w.heap.size+2,3,none⟩) (by simp) _),by exact(q3.set_ 3 _),by exact(hb0.setCell (p:=⟨w.heap.size+2,3,none⟩) (by simp) _)⟩) ?_
 clear q1c0 q1f0 q1c1 q1f1 q1c2 q1f2 q1c3 q1f3 q2c0 q2f0 q2c1 q2f1 q2c2 q2f2 q2c3 q2f3 q3c0 q3f0 q3c1 q3f1 q3c2 q3f2 q3c3 q3f3 q1z q2z q3z q1 q2 q3 hb0
 rintro v ⟨q1,q2,q3,hb0⟩
 obtain⟨q1c0,q1c1,q1c2,q1c3,q1z,q1f0,q1f1,q1f2,q1f3⟩:=q1.b4
 obtain⟨q2c0,q2c1,q2c2,q2c3,q2z,q2f0,q2f1,q2f2,q2f3⟩:=q2.b4
 obtain⟨q3c0,q3c1,q3c2,q3c3,q3z,q3f0,q3f1,q3f2,q3f3⟩:=q3.b4
 have hEQ:=eq_words
 go_wp2
 go_returns
 exact⟨rfl,hb0⟩

theorem cut_3lt (a1 a2 a3:Nat) (h1:a1<18446744073709551616) (h2:a2<18446744073709551616) (h3:a3<18446744073709551616) (hW:bits BinOp.or IntKind.u64 0 (a1:Int)=(a1:Int)) (k1:((a2:Int)==9223372036854775808)=false) (k2:decide ((a2:Int)<9223372036854775808)=true) (k3:a2<9223372036854775808) (NB:Bool) (k4:(((a2:Int)==0)&&(((a3:Int)==0)))=NB) (w:World):
 Calls Tryz.prog 40 #[.agg #[.int .u64 0,.int .u64 (a1:Int),.int .u64 (a2:Int),.int .u64 (a3:Int)],.int .i64 128] w (Says w (.tuple #[.int .u64 (a1:Int),.int .i64 (-1),.bool NB])):=by
 have hb0:Below w.heap.size w w:=Below.refl _ _
 go_enter Tryz.func40,Tryz.ntmps40
 go_wp2_with fail
 obtain⟨v1,E_,hv1,q1,q2,q3⟩:=Blk.a3 w 43 #[.int .u64 0,.int .u64 (a1:Int),.int .u64 (a2:Int),.int .u64 (a3:Int)] 43 #[.int .u64 0,.int .u64 0,.int .u64 0,.int .u64 0] 43 #[.int .u64 0,.int .u64 0,.int .u64 0,.int .u64 0]
 replace hb0:=hb0.trans (hv1.mono hb0.size)
 rw[E_]
 clear hv1 E_
 obtain⟨q1c0,q1c1,q1c2,q1c3,q1z,q1f0,q1f1,q1f2,q1f3⟩:=q1.b4
 obtain⟨q2c0,q2c1,q2c2,q2c3,q2z,q2f0,q2f1,q2f2,q2f3⟩:=q2.b4
 obtain⟨q3c0,q3c1,q3c2,q3c3,q3z,q3f0,q3f1,q3f2,q3f3⟩:=q3.b4
 refine wp_loop_rounds 5 ?_
 rw[rounds_succ]
 go_wp2
 rw[rounds_succ]
 go_wp2
 rw[rounds_succ]
 go_wp2
 refine(fun (H:∀W,Blk W (w.heap.size) 43 #[.int .u64 0,.int .u64 (a1:Int),.int .u64 (a2:Int),.int .u64 (a3:Int)]∧Blk W (w.heap.size+1) 43 #[.int .u64 0,.int .u64 0,.int .u64 (a2:Int),.int .u64 0]∧Blk W (w.heap.size+2) 43 #[.int .u64 0,.int .u64 0,.int .u64 0,.int .u64 0]∧Below w.heap.size w W→Code.rounds _ _ _ _ _ W)=>H _ ⟨by exact(q1.far (p:=⟨w.heap.size+1,2,none⟩) (by simp) _),by exact(q2.set_ 2 _),by exact(q3.far (p:=⟨w.heap.size+1,2,none⟩) (by simp) _),by exact(hb0.setCell (p:=⟨w.heap.size+1,2,none⟩) (by simp) _)⟩) ?_
 clear q1c0 q1f0 q1c1 q1f1 q1c2 q1f2 q1c3 q1f3 q2c0 q2f0 q2c1 q2f1 q2c2 q2f2 q2c3 q2f3 q3c0 q3f0 q3c1 q3f1 q3c2 q3f2 q3c3 q3f3 q1z q2z q3z q1 q2 q3 hb0
 rintro v ⟨q1,q2,q3,hb0⟩
 obtain⟨q1c0,q1c1,q1c2,q1c3,q1z,q1f0,q1f1,q1f2,q1f3⟩:=q1.b4
 obtain⟨q2c0,q2c1,q2c2,q2c3,q2z,q2f0,q2f1,q2f2,q2f3⟩:=q2.b4
 obtain⟨q3c0,q3c1,q3c2,q3c3,q3z,q3f0,q3f1,q3f2,q3f3⟩:=q3.b4
 rw[rounds_succ]
 go_wp2
 refine(fun (H:∀W,Blk W (w.heap.size) 43 #[.int .u64 0,.int .u64 (a1:Int),.int .u64 (a2:Int),.int .u64 (a3:Int)]∧Blk W (w.heap.size+1) 43 #[.int .u64 0,.int .u64 0,.int .u64 (a2:Int),.int .u64 (a3:Int)]∧Blk W (w.heap.size+2) 43 #[.int .u64 0,.int .u64 0,.int .u64 0,.int .u64 0]∧Below w.heap.size w W→Code.rounds _ _ _ _ _ W)=>H _ ⟨by exact(q1.far (p:=⟨w.heap.size+1,3,none⟩) (by simp) _),by exact(q2.set_ 3 _),by exact(q3.far (p:=⟨w.heap.size+1,3,none⟩) (by simp) _),by exact(hb0.setCell (p:=⟨w.heap.size+1,3,none⟩) (by simp) _)⟩) ?_
 clear q1c0 q1f0 q1c1 q1f1 q1c2 q1f2 q1c3 q1f3 q2c0 q2f0 q2c1 q2f1 q2c2 q2f2 q2c3 q2f3 q3c0 q3f0 q3c1 q3f1 q3c2 q3f2 q3c3 q3f3 q1z q2z q3z q1 q2 q3 hb0
 rintro v ⟨q1,q2,q3,hb0⟩
 obtain⟨q1c0,q1c1,q1c2,q1c3,q1z,q1f0,q1f1,q1f2,q1f3⟩:=q1.b4
 obtain⟨q2c0,q2c1,q2c2,q2c3,q2z,q2f0,q2f1,q2f2,q2f3⟩:=q2.b4
 obtain⟨q3c0,q3c1,q3c2,q3c3,q3z,q3f0,q3f1,q3f2,q3f3⟩:=q3.b4
 rw[rounds_succ]
 go_upto_region 15 with fail
 refine(fun (H:∀W,Blk W (w.heap.size) 43 #[.int .u64 0,.int .u64 (a1:Int),.int .u64 (a2:Int),.int .u64 (a3:Int)]∧Blk W (w.heap.size+1) 43 #[.int .u64 0,.int .u64 0,.int .u64 (a2:Int),.int .u64 (a3:Int)]∧Blk W (w.heap.size+2) 43 #[.int .u64 0,.int .u64 0,.int .u64 9223372036854775808,.int .u64 0]∧Below w.heap.size w W→Code.wp _ _ _ _ W)=>H _ ⟨by exact(q1.far (p:=⟨w.heap.size+2,2,none⟩) (by simp) _),by exact(q2.far (p:=⟨w.heap.size+2,2,none⟩) (by simp) _),by exact(q3.set_ 2 _),by exact(hb0.setCell (p:=⟨w.heap.size+2,2,none⟩) (by simp) _)⟩) ?_
 clear q1c0 q1f0 q1c1 q1f1 q1c2 q1f2 q1c3 q1f3 q2c0 q2f0 q2c1 q2f1 q2c2 q2f2 q2c3 q2f3 q3c0 q3f0 q3c1 q3f1 q3c2 q3f2 q3c3 q3f3 q1z q2z q3z q1 q2 q3 hb0
 rintro v ⟨q1,q2,q3,hb0⟩
 obtain⟨q1c0,q1c1,q1c2,q1c3,q1z,q1f0,q1f1,q1f2,q1f3⟩:=q1.b4
 obtain⟨q2c0,q2c1,q2c2,q2c3,q2z,q2f0,q2f1,q2f2,q2f3⟩:=q2.b4
 obtain⟨q3c0,q3c1,q3c2,q3c3,q3z,q3f0,q3f1,q3f2,q3f3⟩:=q3.b4
 have hEQ:=eq_words
 go_wp2
 refine wp_loop_rounds 5 ?_
 rw[rounds_succ]
 go_wp2
 go_quiet (fail)
 go_wp2
 go_quiet (fail)
 go_wp2
 rw[rounds_succ]
 go_wp2
 go_quiet (fail)
 go_wp2
 go_quiet (fail)
 go_wp2
 rw[rounds_succ]
 go_wp2
 go_quiet (fail)
 go_wp2
 go_returns
 exact⟨rfl,bbel⟩

theorem cut_3gt (a1 a2 a3:Nat) (h1:a1<18446744073709551616) (h2:a2<18446744073709551616) (h3:a3<18446744073709551616) (hW:bits BinOp.or IntKind.u64 0 (a1:Int)=(a1:Int)) (k1:((a2:Int)==9223372036854775808)=false) (k2:decide ((a2:Int)<9223372036854775808)=false) (kn2:decide (a2<9223372036854775808)=false) (k3:decide (9223372036854775808<(a2:Int))=true) (kn3:decide (9223372036854775808<a2)=true) (k4:((a2:Int)==0)=false) (w:World):
 Calls Tryz.prog 40 #[.agg #[.int .u64 0,.int .u64 (a1:Int),.int .u64 (a2:Int),.int .u64 (a3:Int)],.int .i64 128] w (Says w (.tuple #[.int .u64 (a1:Int),.int .i64 1,.bool false])):=by
 have hb0:Below w.heap.size w w:=Below.refl _ _
 go_enter Tryz.func40,Tryz.ntmps40
 go_wp2_with fail
 obtain⟨v1,E_,hv1,q1,q2,q3⟩:=Blk.a3 w 43 #[.int .u64 0,.int .u64 (a1:Int),.int .u64 (a2:Int),.int .u64 (a3:Int)] 43 #[.int .u64 0,.int .u64 0,.int .u64 0,.int .u64 0] 43 #[.int .u64 0,.int .u64 0,.int .u64 0,.int .u64 0]
 replace hb0:=hb0.trans (hv1.mono hb0.size)
 rw[E_]
 clear hv1 E_
 obtain⟨q1c0,q1c1,q1c2,q1c3,q1z,q1f0,q1f1,q1f2,q1f3⟩:=q1.b4
 obtain⟨q2c0,q2c1,q2c2,q2c3,q2z,q2f0,q2f1,q2f2,q2f3⟩:=q2.b4
 obtain⟨q3c0,q3c1,q3c2,q3c3,q3z,q3f0,q3f1,q3f2,q3f3⟩:=q3.b4
 refine wp_loop_rounds 5 ?_
 rw[rounds_succ]
 go_wp2
 rw[rounds_succ]
 go_wp2
 rw[rounds_succ]
 go_wp2
 refine(fun (H:∀W,Blk W (w.heap.size) 43 #[.int .u64 0,.int .u64 (a1:Int),.int .u64 (a2:Int),.int .u64 (a3:Int)]∧Blk W (w.heap.size+1) 43 #[.int .u64 0,.int .u64 0,.int .u64 (a2:Int),.int .u64 0]∧Blk W (w.heap.size+2) 43 #[.int .u64 0,.int .u64 0,.int .u64 0,.int .u64 0]∧Below w.heap.size w W→Code.rounds _ _ _ _ _ W)=>H _ ⟨by exact(q1.far (p:=⟨w.heap.size+1,2,none⟩) (by simp) _),by exact(q2.set_ 2 _),by exact(q3.far (p:=⟨w.heap.size+1,2,none⟩) (by simp) _),by exact(hb0.setCell (p:=⟨w.heap.size+1,2,none⟩) (by simp) _)⟩) ?_
 clear q1c0 q1f0 q1c1 q1f1 q1c2 q1f2 q1c3 q1f3 q2c0 q2f0 q2c1 q2f1 q2c2 q2f2 q2c3 q2f3 q3c0 q3f0 q3c1 q3f1 q3c2 q3f2 q3c3 q3f3 q1z q2z q3z q1 q2 q3 hb0
 rintro v ⟨q1,q2,q3,hb0⟩
 obtain⟨q1c0,q1c1,q1c2,q1c3,q1z,q1f0,q1f1,q1f2,q1f3⟩:=q1.b4
 obtain⟨q2c0,q2c1,q2c2,q2c3,q2z,q2f0,q2f1,q2f2,q2f3⟩:=q2.b4
 obtain⟨q3c0,q3c1,q3c2,q3c3,q3z,q3f0,q3f1,q3f2,q3f3⟩:=q3.b4
 rw[rounds_succ]
 go_wp2
 refine(fun (H:∀W,Blk W (w.heap.size) 43 #[.int .u64 0,.int .u64 (a1:Int),.int .u64 (a2:Int),.int .u64 (a3:Int)]∧Blk W (w.heap.size+1) 43 #[.int .u64 0,.int .u64 0,.int .u64 (a2:Int),.int .u64 (a3:Int)]∧Blk W (w.heap.size+2) 43 #[.int .u64 0,.int .u64 0,.int .u64 0,.int .u64 0]∧Below w.heap.size w W→Code.rounds _ _ _ _ _ W)=>H _ ⟨by exact(q1.far (p:=⟨w.heap.size+1,3,none⟩) (by simp) _),by exact(q2.set_ 3 _),by exact(q3.far (p:=⟨w.heap.size+1,3,none⟩) (by simp) _),by exact(hb0.setCell (p:=⟨w.heap.size+1,3,none⟩) (by simp) _)⟩) ?_
 clear q1c0 q1f0 q1c1 q1f1 q1c2 q1f2 q1c3 q1f3 q2c0 q2f0 q2c1 q2f1 q2c2 q2f2 q2c3 q2f3 q3c0 q3f0 q3c1 q3f1 q3c2 q3f2 q3c3 q3f3 q1z q2z q3z q1 q2 q3 hb0
 rintro v ⟨q1,q2,q3,hb0⟩
 obtain⟨q1c0,q1c1,q1c2,q1c3,q1z,q1f0,q1f1,q1f2,q1f3⟩:=q1.b4
 obtain⟨q2c0,q2c1,q2c2,q2c3,q2z,q2f0,q2f1,q2f2,q2f3⟩:=q2.b4
 obtain⟨q3c0,q3c1,q3c2,q3c3,q3z,q3f0,q3f1,q3f2,q3f3⟩:=q3.b4
 rw[rounds_succ]
 go_upto_region 15 with fail
 refine(fun (H:∀W,Blk W (w.heap.size) 43 #[.int .u64 0,.int .u64 (a1:Int),.int .u64 (a2:Int),.int .u64 (a3:Int)]∧Blk W (w.heap.size+1) 43 #[.int .u64 0,.int .u64 0,.int .u64 (a2:Int),.int .u64 (a3:Int)]∧Blk W (w.heap.size+2) 43 #[.int .u64 0,.int .u64 0,.int .u64 9223372036854775808,.int .u64 0]∧Below w.heap.size w W→Code.wp _ _ _ _ W)=>H _ ⟨by exact(q1.far (p:=⟨w.heap.size+2,2,none⟩) (by simp) _),by exact(q2.far (p:=⟨w.heap.size+2,2,none⟩) (by simp) _),by exact(q3.set_ 2 _),by exact(hb0.setCell (p:=⟨w.heap.size+2,2,none⟩) (by simp) _)⟩) ?_
 clear q1c0 q1f0 q1c1 q1f1 q1c2 q1f2 q1c3 q1f3 q2c0 q2f0 q2c1 q2f1 q2c2 q2f2 q2c3 q2f3 q3c0 q3f0 q3c1 q3f1 q3c2 q3f2 q3c3 q3f3 q1z q2z q3z q1 q2 q3 hb0
 rintro v ⟨q1,q2,q3,hb0⟩
 obtain⟨q1c0,q1c1,q1c2,q1c3,q1z,q1f0,q1f1,q1f2,q1f3⟩:=q1.b4
 obtain⟨q2c0,q2c1,q2c2,q2c3,q2z,q2f0,q2f1,q2f2,q2f3⟩:=q2.b4
 obtain⟨q3c0,q3c1,q3c2,q3c3,q3z,q3f0,q3f1,q3f2,q3f3⟩:=q3.b4
 have hEQ:=eq_words
 go_wp2
 refine wp_loop_rounds 5 ?_
 rw[rounds_succ]
 go_wp2
 go_quiet (fail)
 go_wp2
 go_quiet (fail)
 go_wp2
 rw[rounds_succ]
 go_wp2
 go_quiet (fail)
 go_wp2
 go_quiet (fail)
 go_wp2
 rw[rounds_succ]
 go_wp2
 go_quiet (fail)
 go_wp2
 go_quiet (fail)
 go_wp2
 go_returns
 exact⟨rfl,bbel⟩

theorem cut_3eq (a1 a3:Nat) (h1:a1<18446744073709551616)  (h3:a3<18446744073709551616) (hW:bits BinOp.or IntKind.u64 0 (a1:Int)=(a1:Int))  (za3:((a3:Int)==0)=true) (w:World):
 Calls Tryz.prog 40 #[.agg #[.int .u64 0,.int .u64 (a1:Int),.int .u64 9223372036854775808,.int .u64 (a3:Int)],.int .i64 128] w (Says w (.tuple #[.int .u64 (a1:Int),.int .i64 0,.bool false])):=by
 have hb0:Below w.heap.size w w:=Below.refl _ _
 go_enter Tryz.func40,Tryz.ntmps40
 go_wp2_with fail
 obtain⟨v1,E_,hv1,q1,q2,q3⟩:=Blk.a3 w 43 #[.int .u64 0,.int .u64 (a1:Int),.int .u64 9223372036854775808,.int .u64 (a3:Int)] 43 #[.int .u64 0,.int .u64 0,.int .u64 0,.int .u64 0] 43 #[.int .u64 0,.int .u64 0,.int .u64 0,.int .u64 0]
 replace hb0:=hb0.trans (hv1.mono hb0.size)
 rw[E_]
 clear hv1 E_
 obtain⟨q1c0,q1c1,q1c2,q1c3,q1z,q1f0,q1f1,q1f2,q1f3⟩:=q1.b4
 obtain⟨q2c0,q2c1,q2c2,q2c3,q2z,q2f0,q2f1,q2f2,q2f3⟩:=q2.b4
 obtain⟨q3c0,q3c1,q3c2,q3c3,q3z,q3f0,q3f1,q3f2,q3f3⟩:=q3.b4
 refine wp_loop_rounds 5 ?_
 rw[rounds_succ]
 go_wp2
 rw[rounds_succ]
 go_wp2
 rw[rounds_succ]
 go_wp2
 refine(fun (H:∀W,Blk W (w.heap.size) 43 #[.int .u64 0,.int .u64 (a1:Int),.int .u64 9223372036854775808,.int .u64 (a3:Int)]∧Blk W (w.heap.size+1) 43 #[.int .u64 0,.int .u64 0,.int .u64 9223372036854775808,.int .u64 0]∧Blk W (w.heap.size+2) 43 #[.int .u64 0,.int .u64 0,.int .u64 0,.int .u64 0]∧Below w.heap.size w W→Code.rounds _ _ _ _ _ W)=>H _ ⟨by exact(q1.far (p:=⟨w.heap.size+1,2,none⟩) (by simp) _),by exact(q2.set_ 2 _),by exact(q3.far (p:=⟨w.heap.size+1,2,none⟩) (by simp) _),by exact(hb0.setCell (p:=⟨w.heap.size+1,2,none⟩) (by simp) _)⟩) ?_
 clear q1c0 q1f0 q1c1 q1f1 q1c2 q1f2 q1c3 q1f3 q2c0 q2f0 q2c1 q2f1 q2c2 q2f2 q2c3 q2f3 q3c0 q3f0 q3c1 q3f1 q3c2 q3f2 q3c3 q3f3 q1z q2z q3z q1 q2 q3 hb0
 rintro v ⟨q1,q2,q3,hb0⟩
 obtain⟨q1c0,q1c1,q1c2,q1c3,q1z,q1f0,q1f1,q1f2,q1f3⟩:=q1.b4
 obtain⟨q2c0,q2c1,q2c2,q2c3,q2z,q2f0,q2f1,q2f2,q2f3⟩:=q2.b4
 obtain⟨q3c0,q3c1,q3c2,q3c3,q3z,q3f0,q3f1,q3f2,q3f3⟩:=q3.b4
 rw[rounds_succ]
 go_wp2
 refine(fun (H:∀W,Blk W (w.heap.size) 43 #[.int .u64 0,.int .u64 (a1:Int),.int .u64 9223372036854775808,.int .u64 (a3:Int)]∧Blk W (w.heap.size+1) 43 #[.int .u64 0,.int .u64 0,.int .u64 9223372036854775808,.int .u64 (a3:Int)]∧Blk W (w.heap.size+2) 43 #[.int .u64 0,.int .u64 0,.int .u64 0,.int .u64 0]∧Below w.heap.size w W→Code.rounds _ _ _ _ _ W)=>H _ ⟨by exact(q1.far (p:=⟨w.heap.size+1,3,none⟩) (by simp) _),by exact(q2.set_ 3 _),by exact(q3.far (p:=⟨w.heap.size+1,3,none⟩) (by simp) _),by exact(hb0.setCell (p:=⟨w.heap.size+1,3,none⟩) (by simp) _)⟩) ?_
 clear q1c0 q1f0 q1c1 q1f1 q1c2 q1f2 q1c3 q1f3 q2c0 q2f0 q2c1 q2f1 q2c2 q2f2 q2c3 q2f3 q3c0 q3f0 q3c1 q3f1 q3c2 q3f2 q3c3 q3f3 q1z q2z q3z q1 q2 q3 hb0
 rintro v ⟨q1,q2,q3,hb0⟩
 obtain⟨q1c0,q1c1,q1c2,q1c3,q1z,q1f0,q1f1,q1f2,q1f3⟩:=q1.b4
 obtain⟨q2c0,q2c1,q2c2,q2c3,q2z,q2f0,q2f1,q2f2,q2f3⟩:=q2.b4
 obtain⟨q3c0,q3c1,q3c2,q3c3,q3z,q3f0,q3f1,q3f2,q3f3⟩:=q3.b4
 rw[rounds_succ]
 go_upto_region 15 with fail
 refine(fun (H:∀W,Blk W (w.heap.size) 43 #[.int .u64 0,.int .u64 (a1:Int),.int .u64 9223372036854775808,.int .u64 (a3:Int)]∧Blk W (w.heap.size+1) 43 #[.int .u64 0,.int .u64 0,.int .u64 9223372036854775808,.int .u64 (a3:Int)]∧Blk W (w.heap.size+2) 43 #[.int .u64 0,.int .u64 0,.int .u64 9223372036854775808,.int .u64 0]∧Below w.heap.size w W→Code.wp _ _ _ _ W)=>H _ ⟨by exact(q1.far (p:=⟨w.heap.size+2,2,none⟩) (by simp) _),by exact(q2.far (p:=⟨w.heap.size+2,2,none⟩) (by simp) _),by exact(q3.set_ 2 _),by exact(hb0.setCell (p:=⟨w.heap.size+2,2,none⟩) (by simp) _)⟩) ?_
 clear q1c0 q1f0 q1c1 q1f1 q1c2 q1f2 q1c3 q1f3 q2c0 q2f0 q2c1 q2f1 q2c2 q2f2 q2c3 q2f3 q3c0 q3f0 q3c1 q3f1 q3c2 q3f2 q3c3 q3f3 q1z q2z q3z q1 q2 q3 hb0
 rintro v ⟨q1,q2,q3,hb0⟩
 obtain⟨q1c0,q1c1,q1c2,q1c3,q1z,q1f0,q1f1,q1f2,q1f3⟩:=q1.b4
 obtain⟨q2c0,q2c1,q2c2,q2c3,q2z,q2f0,q2f1,q2f2,q2f3⟩:=q2.b4
 obtain⟨q3c0,q3c1,q3c2,q3c3,q3z,q3f0,q3f1,q3f2,q3f3⟩:=q3.b4
 have hEQ:=eq_words
 go_wp2
 go_returns
 exact⟨rfl,hb0⟩

theorem cut_3eq3 (a1 a3:Nat) (h1:a1<18446744073709551616)  (h3:a3<18446744073709551616) (hW:bits BinOp.or IntKind.u64 0 (a1:Int)=(a1:Int))  (x1:((a3:Int)==0)=false) (x2:decide ((a3:Int)<0)=false) (x3:decide ((0:Int)<(a3:Int))=true) (x4:decide (0<a3)=true) (w:World):
 Calls Tryz.prog 40 #[.agg #[.int .u64 0,.int .u64 (a1:Int),.int .u64 9223372036854775808,.int .u64 (a3:Int)],.int .i64 128] w (Says w (.tuple #[.int .u64 (a1:Int),.int .i64 1,.bool false])):=by
 have hb0:Below w.heap.size w w:=Below.refl _ _
 go_enter Tryz.func40,Tryz.ntmps40
 go_wp2_with fail
 obtain⟨v1,E_,hv1,q1,q2,q3⟩:=Blk.a3 w 43 #[.int .u64 0,.int .u64 (a1:Int),.int .u64 9223372036854775808,.int .u64 (a3:Int)] 43 #[.int .u64 0,.int .u64 0,.int .u64 0,.int .u64 0] 43 #[.int .u64 0,.int .u64 0,.int .u64 0,.int .u64 0]
 replace hb0:=hb0.trans (hv1.mono hb0.size)
 rw[E_]
 clear hv1 E_
 obtain⟨q1c0,q1c1,q1c2,q1c3,q1z,q1f0,q1f1,q1f2,q1f3⟩:=q1.b4
 obtain⟨q2c0,q2c1,q2c2,q2c3,q2z,q2f0,q2f1,q2f2,q2f3⟩:=q2.b4
 obtain⟨q3c0,q3c1,q3c2,q3c3,q3z,q3f0,q3f1,q3f2,q3f3⟩:=q3.b4
 refine wp_loop_rounds 5 ?_
 rw[rounds_succ]
 go_wp2
 rw[rounds_succ]
 go_wp2
 rw[rounds_succ]
 go_wp2
 refine(fun (H:∀W,Blk W (w.heap.size) 43 #[.int .u64 0,.int .u64 (a1:Int),.int .u64 9223372036854775808,.int .u64 (a3:Int)]∧Blk W (w.heap.size+1) 43 #[.int .u64 0,.int .u64 0,.int .u64 9223372036854775808,.int .u64 0]∧Blk W (w.heap.size+2) 43 #[.int .u64 0,.int .u64 0,.int .u64 0,.int .u64 0]∧Below w.heap.size w W→Code.rounds _ _ _ _ _ W)=>H _ ⟨by exact(q1.far (p:=⟨w.heap.size+1,2,none⟩) (by simp) _),by exact(q2.set_ 2 _),by exact(q3.far (p:=⟨w.heap.size+1,2,none⟩) (by simp) _),by exact(hb0.setCell (p:=⟨w.heap.size+1,2,none⟩) (by simp) _)⟩) ?_
 clear q1c0 q1f0 q1c1 q1f1 q1c2 q1f2 q1c3 q1f3 q2c0 q2f0 q2c1 q2f1 q2c2 q2f2 q2c3 q2f3 q3c0 q3f0 q3c1 q3f1 q3c2 q3f2 q3c3 q3f3 q1z q2z q3z q1 q2 q3 hb0
 rintro v ⟨q1,q2,q3,hb0⟩
 obtain⟨q1c0,q1c1,q1c2,q1c3,q1z,q1f0,q1f1,q1f2,q1f3⟩:=q1.b4
 obtain⟨q2c0,q2c1,q2c2,q2c3,q2z,q2f0,q2f1,q2f2,q2f3⟩:=q2.b4
 obtain⟨q3c0,q3c1,q3c2,q3c3,q3z,q3f0,q3f1,q3f2,q3f3⟩:=q3.b4
 rw[rounds_succ]
 go_wp2
 refine(fun (H:∀W,Blk W (w.heap.size) 43 #[.int .u64 0,.int .u64 (a1:Int),.int .u64 9223372036854775808,.int .u64 (a3:Int)]∧Blk W (w.heap.size+1) 43 #[.int .u64 0,.int .u64 0,.int .u64 9223372036854775808,.int .u64 (a3:Int)]∧Blk W (w.heap.size+2) 43 #[.int .u64 0,.int .u64 0,.int .u64 0,.int .u64 0]∧Below w.heap.size w W→Code.rounds _ _ _ _ _ W)=>H _ ⟨by exact(q1.far (p:=⟨w.heap.size+1,3,none⟩) (by simp) _),by exact(q2.set_ 3 _),by exact(q3.far (p:=⟨w.heap.size+1,3,none⟩) (by simp) _),by exact(hb0.setCell (p:=⟨w.heap.size+1,3,none⟩) (by simp) _)⟩) ?_
 clear q1c0 q1f0 q1c1 q1f1 q1c2 q1f2 q1c3 q1f3 q2c0 q2f0 q2c1 q2f1 q2c2 q2f2 q2c3 q2f3 q3c0 q3f0 q3c1 q3f1 q3c2 q3f2 q3c3 q3f3 q1z q2z q3z q1 q2 q3 hb0
 rintro v ⟨q1,q2,q3,hb0⟩
 obtain⟨q1c0,q1c1,q1c2,q1c3,q1z,q1f0,q1f1,q1f2,q1f3⟩:=q1.b4
 obtain⟨q2c0,q2c1,q2c2,q2c3,q2z,q2f0,q2f1,q2f2,q2f3⟩:=q2.b4
 obtain⟨q3c0,q3c1,q3c2,q3c3,q3z,q3f0,q3f1,q3f2,q3f3⟩:=q3.b4
 rw[rounds_succ]
 go_upto_region 15 with fail
 refine(fun (H:∀W,Blk W (w.heap.size) 43 #[.int .u64 0,.int .u64 (a1:Int),.int .u64 9223372036854775808,.int .u64 (a3:Int)]∧Blk W (w.heap.size+1) 43 #[.int .u64 0,.int .u64 0,.int .u64 9223372036854775808,.int .u64 (a3:Int)]∧Blk W (w.heap.size+2) 43 #[.int .u64 0,.int .u64 0,.int .u64 9223372036854775808,.int .u64 0]∧Below w.heap.size w W→Code.wp _ _ _ _ W)=>H _ ⟨by exact(q1.far (p:=⟨w.heap.size+2,2,none⟩) (by simp) _),by exact(q2.far (p:=⟨w.heap.size+2,2,none⟩) (by simp) _),by exact(q3.set_ 2 _),by exact(hb0.setCell (p:=⟨w.heap.size+2,2,none⟩) (by simp) _)⟩) ?_
 clear q1c0 q1f0 q1c1 q1f1 q1c2 q1f2 q1c3 q1f3 q2c0 q2f0 q2c1 q2f1 q2c2 q2f2 q2c3 q2f3 q3c0 q3f0 q3c1 q3f1 q3c2 q3f2 q3c3 q3f3 q1z q2z q3z q1 q2 q3 hb0
 rintro v ⟨q1,q2,q3,hb0⟩
 obtain⟨q1c0,q1c1,q1c2,q1c3,q1z,q1f0,q1f1,q1f2,q1f3⟩:=q1.b4
 obtain⟨q2c0,q2c1,q2c2,q2c3,q2z,q2f0,q2f1,q2f2,q2f3⟩:=q2.b4
 obtain⟨q3c0,q3c1,q3c2,q3c3,q3z,q3f0,q3f1,q3f2,q3f3⟩:=q3.b4
 have hEQ:=eq_words
 go_wp2
 refine wp_loop_rounds 5 ?_
 rw[rounds_succ]
 go_wp2
 go_quiet (fail)
 go_wp2
 go_quiet (fail)
 go_wp2
 rw[rounds_succ]
 go_wp2
 go_quiet (fail)
 go_wp2
 go_quiet (fail)
 go_wp2
 rw[rounds_succ]
 go_wp2
 go_quiet (fail)
 go_wp2
 go_quiet (fail)
 go_wp2
 rw[rounds_succ]
 go_wp2
 go_quiet (fail)
 go_wp2
 go_quiet (fail)
 go_wp2
 go_returns
 exact⟨rfl,bbel⟩

end Go.Proofs.YtenekbfnlbipiaaGreatDoor
