/- Walks: nearest, least, greatest of two ends. -/
import Derived.Test.YtenekbfnlbipiaaGreatDoorSuL
namespace Go.Proofs.YtenekbfnlbipiaaGreatDoor
open Go.RowKit
set_option linter.unusedVariables false
set_option linter.unusedSimpArgs false
set_option maxHeartbeats 4000000
set_option maxRecDepth 100000


theorem clo_near_abs {W0 W:World} (hW:Below W0.heap.size W0 W) (v n:Nat) (hv:v<2^192) (n1:64≤n) (n2:n<192) (hq:v/2^n<18446744073709551615) (Bn:Nat) (cn:W0.cell? ⟨Bn,0,none⟩=some (.int .i64 (n:Int))):
 Calls Tryz.prog 39 #[.agg (W4 v),.pointer (some ⟨Bn,0,none⟩)] W fun e w'=>e=.returned (.int .u64 ((nearS v n:Nat):Int))∧Below W0.heap.size W0 w':=
 (clo_near v n hv n1 n2 hq Bn W (Fo.cellsB hW cn) ).mono fun _ _ ⟨h1,h2⟩=>⟨h1,hW.trans (h2.mono hW.size)⟩
theorem sure_nearest (v v2 n:Nat) (hv:v<2^192) (hv2:v2<2^192) (n1:64≤n) (n2:n<192) (hq:v/2^n<18446744073709551615) (hq2:v2/2^n<18446744073709551615) (w:World):
 Calls Tryz.prog 14 #[.agg (W4 v),.agg (W4 v2),.int .i64 (n:Int)] w (Says w (.tuple #[.int .u64 ((nearS v n:Nat):Int),.bool (decide (nearS v n=nearS v2 n))])):=by
 obtain⟨x0,x1,x2,x3,hx⟩:∃x0 x1 x2 x3:Nat,W4 v=#[.int .u64 (x0:Int),.int .u64 (x1:Int),.int .u64 (x2:Int),.int .u64 (x3:Int)]:=⟨_,_,_,_,rfl⟩
 obtain⟨y0,y1,y2,y3,hy⟩:∃x0 x1 x2 x3:Nat,W4 v2=#[.int .u64 (x0:Int),.int .u64 (x1:Int),.int .u64 (x2:Int),.int .u64 (x3:Int)]:=⟨_,_,_,_,rfl⟩
 have hA:=fun (W0 W:World) (hW:Below W0.heap.size W0 W)=>clo_near_abs hW v n hv n1 n2 hq
 have hB:=fun (W0 W:World) (hW:Below W0.heap.size W0 W)=>clo_near_abs hW v2 n hv2 n1 n2 hq2
 rw[hx] at hA ⊢
 rw[hy] at hB ⊢
 skip
 skip
 have hEq:((nearS v n:Nat):Int)=((nearS v n:Nat):Int):=rfl
 obtain⟨P,hP⟩:∃P:Nat,P=nearS v n:=⟨_,rfl⟩
 obtain⟨R,hR⟩:∃P:Nat,P=nearS v2 n:=⟨_,rfl⟩
 rw[←hP] at hA ⊢
 rw[←hR] at hB ⊢
 have hd:decide (P=R)=((P:Int)==(R:Int)):=by
  by_cases h:P=R
  · subst h;simp
  · rw[decide_eq_false h,eq_comm,beq_eq_false_iff_ne];omega
 rw[hd]
 clear hx hy hP hR hq hq2 hv hv2 hd hEq
 have hb0:Below w.heap.size w w:=Below.refl _ _
 go_enter Tryz.func14,Tryz.ntmps14
 go_upto_region 2 with fail
 obtain⟨v1,E_,hv1,k1,k2,k3⟩:=Blk.a3 w 43 #[.int .u64 (x0:Int),.int .u64 (x1:Int),.int .u64 (x2:Int),.int .u64 (x3:Int)] 43 #[.int .u64 (y0:Int),.int .u64 (y1:Int),.int .u64 (y2:Int),.int .u64 (y3:Int)] 3 #[.int .i64 (n:Int)]
 replace hb0:=hb0.trans (hv1.mono hb0.size)
 rw[E_]
 clear hv1 E_
 obtain⟨k1c0,k1c1,k1c2,k1c3,k1z,k1f0,k1f1,k1f2,k1f3⟩:=k1.b4
 obtain⟨k2c0,k2c1,k2c2,k2c3,k2z,k2f0,k2f1,k2f2,k2f3⟩:=k2.b4
 obtain⟨k3c0,k3z,k3f0⟩:=k3.b1
 have hW0:Below v1.heap.size v1 v1.drew:=(Below.refl _ _).drew
 go_region_held3 (fun w'=>w'.cell? ⟨w.heap.size,0,none⟩=some (.int .u64 (x0:Int))∧w'.cell? ⟨w.heap.size,1,none⟩=some (.int .u64 (x1:Int))∧w'.cell? ⟨w.heap.size,2,none⟩=some (.int .u64 (x2:Int))∧w'.cell? ⟨w.heap.size,3,none⟩=some (.int .u64 (x3:Int))∧w'.cell? ⟨w.heap.size+1,0,none⟩=some (.int .u64 (y0:Int))∧w'.cell? ⟨w.heap.size+1,1,none⟩=some (.int .u64 (y1:Int))∧w'.cell? ⟨w.heap.size+1,2,none⟩=some (.int .u64 (y2:Int))∧w'.cell? ⟨w.heap.size+1,3,none⟩=some (.int .u64 (y3:Int)))
  (first|exact⟨Fo.cellsB (by assumption) k1c0,Fo.cellsB (by assumption) k1c1,Fo.cellsB (by assumption) k1c2,Fo.cellsB (by assumption) k1c3,Fo.cellsB (by assumption) k2c0,Fo.cellsB (by assumption) k2c1,Fo.cellsB (by assumption) k2c2,Fo.cellsB (by assumption) k2c3⟩|go_keep)
  (first
   |(go_at_call 39;with_reducible refine(hA v1 _ (by assumption) _ k3c0).mono ?_;rintro r wa ⟨rfl,hba⟩)
   |(go_at_call 39;with_reducible refine(hB v1 _ (by assumption) _ k3c0).mono ?_;rintro r wb ⟨rfl,hbb⟩))
 go_wp2
 go_ret2
 exact⟨rfl,hb0.trans (hbb.mono hb0.size)⟩

theorem clo_up_abs {W0 W:World} (hW:Below W0.heap.size W0 W) (v n:Nat) (hv:v<2^192) (n1:64≤n) (n2:n<192) (hq:v/2^n<18446744073709551615) (inn:Bool) (Bn Bi:Nat) (cn:W0.cell? ⟨Bn,0,none⟩=some (.int .i64 (n:Int))) (ci:W0.cell? ⟨Bi,0,none⟩=some (.bool inn)):
 Calls Tryz.prog 66 #[.agg (W4 v),.pointer (some ⟨Bn,0,none⟩),.pointer (some ⟨Bi,0,none⟩)] W fun e w'=>e=.returned (.int .u64 ((ceilS inn v n:Nat):Int))∧Below W0.heap.size W0 w':=
 (clo_up v n hv n1 n2 hq inn Bn Bi W (Fo.cellsB hW cn) (Fo.cellsB hW ci)).mono fun _ _ ⟨h1,h2⟩=>⟨h1,hW.trans (h2.mono hW.size)⟩
theorem sure_least (v v2 n:Nat) (hv:v<2^192) (hv2:v2<2^192) (n1:64≤n) (n2:n<192) (hq:v/2^n<18446744073709551615) (hq2:v2/2^n<18446744073709551615) (inn:Bool) (w:World):
 Calls Tryz.prog 25 #[.agg (W4 v),.agg (W4 v2),.int .i64 (n:Int),.bool inn] w (Says w (.tuple #[.int .u64 ((ceilS inn v n:Nat):Int),.bool (decide (ceilS inn v n=ceilS inn v2 n))])):=by
 obtain⟨x0,x1,x2,x3,hx⟩:∃x0 x1 x2 x3:Nat,W4 v=#[.int .u64 (x0:Int),.int .u64 (x1:Int),.int .u64 (x2:Int),.int .u64 (x3:Int)]:=⟨_,_,_,_,rfl⟩
 obtain⟨y0,y1,y2,y3,hy⟩:∃x0 x1 x2 x3:Nat,W4 v2=#[.int .u64 (x0:Int),.int .u64 (x1:Int),.int .u64 (x2:Int),.int .u64 (x3:Int)]:=⟨_,_,_,_,rfl⟩
 have hA:=fun (W0 W:World) (hW:Below W0.heap.size W0 W)=>clo_up_abs hW v n hv n1 n2 hq inn
 have hB:=fun (W0 W:World) (hW:Below W0.heap.size W0 W)=>clo_up_abs hW v2 n hv2 n1 n2 hq2 inn
 rw[hx] at hA ⊢
 rw[hy] at hB ⊢
 skip
 skip
 have hEq:((ceilS inn v n:Nat):Int)=((ceilS inn v n:Nat):Int):=rfl
 obtain⟨P,hP⟩:∃P:Nat,P=ceilS inn v n:=⟨_,rfl⟩
 obtain⟨R,hR⟩:∃P:Nat,P=ceilS inn v2 n:=⟨_,rfl⟩
 rw[←hP] at hA ⊢
 rw[←hR] at hB ⊢
 have hd:decide (P=R)=((P:Int)==(R:Int)):=by
  by_cases h:P=R
  · subst h;simp
  · rw[decide_eq_false h,eq_comm,beq_eq_false_iff_ne];omega
 rw[hd]
 clear hx hy hP hR hq hq2 hv hv2 hd hEq
 have hb0:Below w.heap.size w w:=Below.refl _ _
 go_enter Tryz.func25,Tryz.ntmps25
 go_upto_region 2 with fail
 obtain⟨v1,E_,hv1,k1,k2,k3,k4⟩:=Blk.a4 w 43 #[.int .u64 (x0:Int),.int .u64 (x1:Int),.int .u64 (x2:Int),.int .u64 (x3:Int)] 43 #[.int .u64 (y0:Int),.int .u64 (y1:Int),.int .u64 (y2:Int),.int .u64 (y3:Int)] 3 #[.int .i64 (n:Int)] 4 #[.bool inn]
 replace hb0:=hb0.trans (hv1.mono hb0.size)
 rw[E_]
 clear hv1 E_
 obtain⟨k1c0,k1c1,k1c2,k1c3,k1z,k1f0,k1f1,k1f2,k1f3⟩:=k1.b4
 obtain⟨k2c0,k2c1,k2c2,k2c3,k2z,k2f0,k2f1,k2f2,k2f3⟩:=k2.b4
 obtain⟨k3c0,k3z,k3f0⟩:=k3.b1
 obtain⟨k4c0,k4z,k4f0⟩:=k4.b1
 have hW0:Below v1.heap.size v1 v1.drew:=(Below.refl _ _).drew
 go_region_held3 (fun w'=>w'.cell? ⟨w.heap.size,0,none⟩=some (.int .u64 (x0:Int))∧w'.cell? ⟨w.heap.size,1,none⟩=some (.int .u64 (x1:Int))∧w'.cell? ⟨w.heap.size,2,none⟩=some (.int .u64 (x2:Int))∧w'.cell? ⟨w.heap.size,3,none⟩=some (.int .u64 (x3:Int))∧w'.cell? ⟨w.heap.size+1,0,none⟩=some (.int .u64 (y0:Int))∧w'.cell? ⟨w.heap.size+1,1,none⟩=some (.int .u64 (y1:Int))∧w'.cell? ⟨w.heap.size+1,2,none⟩=some (.int .u64 (y2:Int))∧w'.cell? ⟨w.heap.size+1,3,none⟩=some (.int .u64 (y3:Int)))
  (first|exact⟨Fo.cellsB (by assumption) k1c0,Fo.cellsB (by assumption) k1c1,Fo.cellsB (by assumption) k1c2,Fo.cellsB (by assumption) k1c3,Fo.cellsB (by assumption) k2c0,Fo.cellsB (by assumption) k2c1,Fo.cellsB (by assumption) k2c2,Fo.cellsB (by assumption) k2c3⟩|go_keep)
  (first
   |(go_at_call 66;with_reducible refine(hA v1 _ (by assumption) _ _ k3c0 k4c0).mono ?_;rintro r wa ⟨rfl,hba⟩)
   |(go_at_call 66;with_reducible refine(hB v1 _ (by assumption) _ _ k3c0 k4c0).mono ?_;rintro r wb ⟨rfl,hbb⟩))
 go_wp2
 go_ret2
 exact⟨rfl,hb0.trans (hbb.mono hb0.size)⟩

theorem clo_down_abs {W0 W:World} (hW:Below W0.heap.size W0 W) (v n:Nat) (hv:v<2^192) (n1:64≤n) (n2:n<192) (hq:v/2^n<18446744073709551615) (inn:Bool) (Bn Bi:Nat) (cn:W0.cell? ⟨Bn,0,none⟩=some (.int .i64 (n:Int))) (ci:W0.cell? ⟨Bi,0,none⟩=some (.bool inn)) (h0:v≠0):
 Calls Tryz.prog 67 #[.agg (W4 v),.pointer (some ⟨Bn,0,none⟩),.pointer (some ⟨Bi,0,none⟩)] W fun e w'=>e=.returned (.int .u64 ((floorS inn v n:Nat):Int))∧Below W0.heap.size W0 w':=
 (clo_down v n hv n1 n2 hq inn Bn Bi W (Fo.cellsB hW cn) (Fo.cellsB hW ci) h0).mono fun _ _ ⟨h1,h2⟩=>⟨h1,hW.trans (h2.mono hW.size)⟩
theorem sure_greatest (v v2 n:Nat) (hv:v<2^192) (hv2:v2<2^192) (n1:64≤n) (n2:n<192) (hq:v/2^n<18446744073709551615) (hq2:v2/2^n<18446744073709551615) (inn:Bool) (h0:v≠0) (h02:v2≠0) (w:World):
 Calls Tryz.prog 26 #[.agg (W4 v),.agg (W4 v2),.int .i64 (n:Int),.bool inn] w (Says w (.tuple #[.int .u64 ((floorS inn v n:Nat):Int),.bool (decide (floorS inn v n=floorS inn v2 n))])):=by
 obtain⟨x0,x1,x2,x3,hx⟩:∃x0 x1 x2 x3:Nat,W4 v=#[.int .u64 (x0:Int),.int .u64 (x1:Int),.int .u64 (x2:Int),.int .u64 (x3:Int)]:=⟨_,_,_,_,rfl⟩
 obtain⟨y0,y1,y2,y3,hy⟩:∃x0 x1 x2 x3:Nat,W4 v2=#[.int .u64 (x0:Int),.int .u64 (x1:Int),.int .u64 (x2:Int),.int .u64 (x3:Int)]:=⟨_,_,_,_,rfl⟩
 have hA:=fun (W0 W:World) (hW:Below W0.heap.size W0 W)=>clo_down_abs hW v n hv n1 n2 hq inn
 have hB:=fun (W0 W:World) (hW:Below W0.heap.size W0 W)=>clo_down_abs hW v2 n hv2 n1 n2 hq2 inn
 rw[hx] at hA ⊢
 rw[hy] at hB ⊢
 replace hA:=fun W0 W hW Bn Bi c1 c2=>hA W0 W hW Bn Bi c1 c2 h0
 replace hB:=fun W0 W hW Bn Bi c1 c2=>hB W0 W hW Bn Bi c1 c2 h02
 have hEq:((floorS inn v n:Nat):Int)=((floorS inn v n:Nat):Int):=rfl
 obtain⟨P,hP⟩:∃P:Nat,P=floorS inn v n:=⟨_,rfl⟩
 obtain⟨R,hR⟩:∃P:Nat,P=floorS inn v2 n:=⟨_,rfl⟩
 rw[←hP] at hA ⊢
 rw[←hR] at hB ⊢
 have hd:decide (P=R)=((P:Int)==(R:Int)):=by
  by_cases h:P=R
  · subst h;simp
  · rw[decide_eq_false h,eq_comm,beq_eq_false_iff_ne];omega
 rw[hd]
 clear hx hy hP hR hq hq2 hv hv2 hd hEq
 have hb0:Below w.heap.size w w:=Below.refl _ _
 go_enter Tryz.func26,Tryz.ntmps26
 go_upto_region 2 with fail
 obtain⟨v1,E_,hv1,k1,k2,k3,k4⟩:=Blk.a4 w 43 #[.int .u64 (x0:Int),.int .u64 (x1:Int),.int .u64 (x2:Int),.int .u64 (x3:Int)] 43 #[.int .u64 (y0:Int),.int .u64 (y1:Int),.int .u64 (y2:Int),.int .u64 (y3:Int)] 3 #[.int .i64 (n:Int)] 4 #[.bool inn]
 replace hb0:=hb0.trans (hv1.mono hb0.size)
 rw[E_]
 clear hv1 E_
 obtain⟨k1c0,k1c1,k1c2,k1c3,k1z,k1f0,k1f1,k1f2,k1f3⟩:=k1.b4
 obtain⟨k2c0,k2c1,k2c2,k2c3,k2z,k2f0,k2f1,k2f2,k2f3⟩:=k2.b4
 obtain⟨k3c0,k3z,k3f0⟩:=k3.b1
 obtain⟨k4c0,k4z,k4f0⟩:=k4.b1
 have hW0:Below v1.heap.size v1 v1.drew:=(Below.refl _ _).drew
 go_region_held3 (fun w'=>w'.cell? ⟨w.heap.size,0,none⟩=some (.int .u64 (x0:Int))∧w'.cell? ⟨w.heap.size,1,none⟩=some (.int .u64 (x1:Int))∧w'.cell? ⟨w.heap.size,2,none⟩=some (.int .u64 (x2:Int))∧w'.cell? ⟨w.heap.size,3,none⟩=some (.int .u64 (x3:Int))∧w'.cell? ⟨w.heap.size+1,0,none⟩=some (.int .u64 (y0:Int))∧w'.cell? ⟨w.heap.size+1,1,none⟩=some (.int .u64 (y1:Int))∧w'.cell? ⟨w.heap.size+1,2,none⟩=some (.int .u64 (y2:Int))∧w'.cell? ⟨w.heap.size+1,3,none⟩=some (.int .u64 (y3:Int)))
  (first|exact⟨Fo.cellsB (by assumption) k1c0,Fo.cellsB (by assumption) k1c1,Fo.cellsB (by assumption) k1c2,Fo.cellsB (by assumption) k1c3,Fo.cellsB (by assumption) k2c0,Fo.cellsB (by assumption) k2c1,Fo.cellsB (by assumption) k2c2,Fo.cellsB (by assumption) k2c3⟩|go_keep)
  (first
   |(go_at_call 67;with_reducible refine(hA v1 _ (by assumption) _ _ k3c0 k4c0).mono ?_;rintro r wa ⟨rfl,hba⟩)
   |(go_at_call 67;with_reducible refine(hB v1 _ (by assumption) _ _ k3c0 k4c0).mono ?_;rintro r wb ⟨rfl,hbb⟩))
 go_wp2
 go_ret2
 exact⟨rfl,hb0.trans (hbb.mono hb0.size)⟩

end Go.Proofs.YtenekbfnlbipiaaGreatDoor
