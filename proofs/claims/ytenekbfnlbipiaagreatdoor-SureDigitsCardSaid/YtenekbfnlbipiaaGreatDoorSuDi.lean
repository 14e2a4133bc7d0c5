/- Package sure's Digits at any float of any form. -/
import Derived.Test.YtenekbfnlbipiaaGreatDoorSuX
import Derived.Test.YtenekbfnlbipiaaGreatDoorSuV
namespace Go.Proofs.YtenekbfnlbipiaaGreatDoor
open Go.RowKit
set_option linter.unusedVariables false
set_option linter.unusedSimpArgs false
set_option maxHeartbeats 4000000
set_option maxRecDepth 100000
theorem digits_no (e f:Int) (b:Nat) (xn xs:Bool) (xm:Nat) (xq:Int) (dn:Bool) (r:Int) (hO:∀W,Calls Tryz.prog 10 #[.agg #[.int .i64 e,.int .i64 f],.int .u64 (b:Int)] W (Says W (.tuple #[.agg #[.bool xn,.int .u64 (xm:Int),.int .i64 xq,.bool xs],.bool false,.agg #[.bool dn,.string ⟨#[]⟩,.int .i64 0],.int .i64 r]))) (w:World):
 Calls Tryz.prog 8 #[.agg #[.int .i64 e,.int .i64 f],.int .u64 (b:Int)] w (Says w (.tuple #[.agg #[.bool dn,.string ⟨#[]⟩,.int .i64 0],.bool (r==0),.int .i64 r])):=by
 obtain⟨t,ht⟩:∃t,t=(r==0):=⟨_,rfl⟩
 rw[←ht]
 have ht2:(r==(0:Int))=t:=ht.symm
 clear ht
 have hb0:Below w.heap.size w w:=Below.refl _ _
 go_enter Tryz.func8,Tryz.ntmps8
 go_upto_region 1 with fail
 obtain⟨v1,E_,hv1,k1,k2⟩:=Blk.a2 w 23 #[.int .i64 e,.int .i64 f] 26 #[.bool false,.string ⟨#[]⟩,.int .i64 0]
 replace hb0:=hb0.trans (hv1.mono hb0.size)
 rw[E_]
 clear hv1 E_
 obtain⟨k1c0,k1c1,k1z,k1f0,k1f1⟩:=k1.b2
 obtain⟨k2c0,k2c1,k2c2,k2z,k2f0,k2f1,k2f2⟩:=k2.b3
 go_wp2_with fail
 clear k1c0 k1f0 k1c1 k1f1 k1z k2c0 k2f0 k2c1 k2f1 k2c2 k2f2 k2z
 refine(hO _).mono ?_
 rintro e w2 ⟨rfl,hb2⟩
 replace hb0:=hb0.trans (hb2.mono hb0.size)
 replace k1:=k1.below hb2 k1.lt
 replace k2:=k2.below hb2 k2.lt
 clear hb2
 go_upto_region 2 with fail
 have l3:w.heap.size+1<w2.heap.size:=k2.lt
 obtain⟨v3,E_,hv3,k3,k4⟩:=Blk.a2 w2 37 #[.bool xn,.int .u64 (xm:Int),.int .i64 xq,.bool xs] 26 #[.bool dn,.string ⟨#[]⟩,.int .i64 0]
 replace hb0:=hb0.trans (hv3.mono hb0.size)
 replace k1:=k1.below hv3 k1.lt
 replace k2:=k2.below hv3 k2.lt
 rw[E_]
 clear hv3 E_
 obtain⟨k1c0,k1c1,k1z,k1f0,k1f1⟩:=k1.b2
 obtain⟨k2c0,k2c1,k2c2,k2z,k2f0,k2f1,k2f2⟩:=k2.b3
 obtain⟨k3c0,k3c1,k3c2,k3c3,k3z,k3f0,k3f1,k3f2,k3f3⟩:=k3.b4
 obtain⟨k4c0,k4c1,k4c2,k4z,k4f0,k4f1,k4f2⟩:=k4.b3
 go_wp2
 refine bodyPost_ret (v:=.tuple #[.agg #[.bool dn,.string ⟨#[]⟩,.int .i64 0],.bool t,.int .i64 r]) ?_ rfl ⟨rfl,(bel3 hb0 (w.heap.size+1) (by simp))⟩
 refine results_cell_tmp2 rfl _ _ (w.heap.size+1) _ _ _ _ _ _ ?_ ?_ ?_ (((k2.set_ 0 _).set_ 1 _).set_ 2 _) Tryz.underlying26 rfl (by kernel_rfl)
 · rfl
 · rfl
 · rfl
theorem dig_num {E F b X Y:Nat} {ng:Bool} (hE1:2≤E) (hE2:E≤11) (hF1:1≤F) (hF2:F≤52) (hb:b<2^(1+E+F)) (hs:Fo.splitF E F b=(ng,X,Y)) (hX:X+1≠2^E) (hz:¬(X=0∧Y=0)) {P:Int} (hP:IsFirst (mF F X Y) (qF E F X) P) (hP1: -350≤P) (hP2:P<350) (w:World) (hT:Tab5 w) (hU:TabU w):
 Calls Tryz.prog 8 #[.agg #[.int .i64 (E:Int),.int .i64 (F:Int)],.int .u64 (b:Int)] w (Says w (digV ng (digS (mF F X Y) (qF E F X) P (decide (mF F X Y%2=0)) (if stF X Y then 4*mF F X Y-1 else 4*mF F X Y-2) 17 1))):=by
 have hO:=fun W=>open_num hE1 hE2 hF1 hF2 hb hs hX hz W
 obtain⟨b1,b2,b3,b4⟩:=num_bd hE1 hE2 hF1 hF2 hs hX hz
 cases hst:stF X Y with
 |true=>rw[hst] at hO;exact sure_digits_a _ _ b ng _ _ P hO b1 b2 b3 b4 hP hP1 hP2 w hT hU
 |false=>rw[hst] at hO;exact sure_digits_b _ _ b ng _ _ P hO b1 b2 b3 b4 hP hP1 hP2 w hT hU
end Go.Proofs.YtenekbfnlbipiaaGreatDoor
