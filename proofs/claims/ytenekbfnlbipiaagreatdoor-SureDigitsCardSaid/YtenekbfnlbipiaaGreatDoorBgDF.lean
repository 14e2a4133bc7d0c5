/- Walks: layer 4's Add, the document's way. -/
import Derived.Test.YtenekbfnlbipiaaGreatDoorPlus
namespace Go.Proofs.YtenekbfnlbipiaaGreatDoor
open Go.RowKit
set_option linter.unusedVariables false
set_option linter.unusedSimpArgs false
set_option maxHeartbeats 4000000
set_option maxRecDepth 100000
namespace Bg
theorem add_core_lo (A1 A2:Option Addr) (K1 K2 c1 c2:Nat) (X1 X2:Int) (U1 U2 KV:Nat) (DE:Int) (n1:K1≠0) (n2:K2≠0) (hb1: -20000≤X1∧X1≤20000) (hb2: -20000≤X2∧X2≤20000) (hlt:X1≤X2)
 (hTw:∀W,Rd W A1 (limbs K1)→Rd W A2 (limbs K2)→Calls Tryz.prog 169 #[.agg #[.bool false,.slice A1 (limbs K1).length c1,.int .i64 X1],.agg #[.bool false,.slice A2 (limbs K2).length c2,.int .i64 X2]] W (Says W (.int .i64 0)))
 (hU1:∀W,Rd W A1 (limbs K1)→Calls Tryz.prog 172 #[.agg #[.slice A1 (limbs K1).length c1],.int .i64 0] W (NatAns 153 W (limbs U1,0)))
 (hU2:∀W,Rd W A2 (limbs K2)→Calls Tryz.prog 172 #[.agg #[.slice A2 (limbs K2).length c2],.int .i64 (X2-X1)] W (NatAns 153 W (limbs U2,0)))
 (hAd:∀A B c d W,Rd W A (limbs U1)→Rd W B (limbs U2)→Calls Tryz.prog 173 #[.agg #[.slice A (limbs U1).length c],.agg #[.slice B (limbs U2).length d]] W (NatAns 153 W (limbs (U1+U2),0)))
 (hMk:∀A c W,Rd W A (limbs (U1+U2))→Calls Tryz.prog 166 #[.bool false,.agg #[.slice A (limbs (U1+U2)).length c],.int .i64 X1] W fun e w'=>∃B k,e=.returned (.tuple #[.agg #[.bool false,.slice B (limbs KV).length k,.int .i64 DE],.int .i64 0])∧Own w' 153 W.heap.size B k (limbs KV)∧Below W.heap.size W w')
 (w:World) (h1:Rd w A1 (limbs K1)) (h2:Rd w A2 (limbs K2)):
 Calls Tryz.prog 120 #[.agg #[.bool false,.slice A1 (limbs K1).length c1,.int .i64 X1],.agg #[.bool false,.slice A2 (limbs K2).length c2,.int .i64 X2]] w fun e w'=>∃B k,e=.returned (.tuple #[.agg #[.bool false,.slice B (limbs KV).length k,.int .i64 DE],.int .i64 0])∧Own w' 153 w.heap.size B k (limbs KV)∧Below w.heap.size w w':=by
 have hmin:min X1 X2=X1:=by omega
 obtain⟨v0,hv0,ha0,k1⟩:=Blk.al w 117 #[.bool false,.slice A1 (limbs K1).length c1,.int .i64 X1]
 have hs0:v0.heap.size=w.heap.size+1:=by rw[hv0];simp
 have hb0:=ha0
 obtain⟨v1,hv1,ha1,k2⟩:=Blk.al v0 117 #[.bool false,.slice A2 (limbs K2).length c2,.int .i64 X2]
 have hs1:v1.heap.size=v0.heap.size+1:=by rw[hv1];simp
 replace k1:=k1.below ha1 k1.lt
 replace hb0:=hb0.trans (ha1.mono hb0.size)
 obtain⟨v2,hv2,ha2,k3⟩:=Blk.al v1 117 #[.bool false,.slice none 0 0,.int .i64 0]
 have hs2:v2.heap.size=v1.heap.size+1:=by rw[hv2];simp
 replace k1:=k1.below ha2 k1.lt
 replace k2:=k2.below ha2 k2.lt
 replace hb0:=hb0.trans (ha2.mono hb0.size)
 rw[hs0] at k2
 rw[hs1,hs0] at k3
 simp only[Nat.add_assoc,Nat.reduceAdd] at k3
 go_enter Tryz.func120,Tryz.ntmps120
 go_upto_region 1 with fail
 rw[←hv0, ←hv1, ←hv2]
 clear hv0 hs0 ha0 hv1 hs1 ha1 hv2 hs2 ha2
 replace h1:=h1.below hb0
 replace h2:=h2.below hb0
 obtain⟨k1c0,k1c1,k1c2,k1z,k1f0,k1f1,k1f2⟩:=k1.b3
 obtain⟨k2c0,k2c1,k2c2,k2z,k2f0,k2f1,k2f2⟩:=k2.b3
 obtain⟨k3c0,k3c1,k3c2,k3z,k3f0,k3f1,k3f2⟩:=k3.b3
 go_wp2_with fail
 clear k1c0 k1f0 k1c1 k1f1 k1c2 k1f2 k2c0 k2f0 k2c1 k2f1 k2c2 k2f2 k3c0 k3f0 k3c1 k3f1 k3c2 k3f2 k1z k2z k3z
 refine(hTw _ h1 h2).mono ?_
 rintro e w1 ⟨rfl,hb1⟩
 replace k1:=k1.below hb1 k1.lt
 replace k2:=k2.below hb1 k2.lt
 replace k3:=k3.below hb1 k3.lt
 replace hb0:=hb0.trans (hb1.mono hb0.size)
 replace h1:=h1.below hb1
 replace h2:=h2.below hb1
 clear hb1
 obtain⟨k1c0,k1c1,k1c2,k1z,k1f0,k1f1,k1f2⟩:=k1.b3
 obtain⟨k2c0,k2c1,k2c2,k2z,k2f0,k2f1,k2f2⟩:=k2.b3
 obtain⟨k3c0,k3c1,k3c2,k3z,k3f0,k3f1,k3f2⟩:=k3.b3
 go_wp2_with fail
 clear k1c0 k1f0 k1c1 k1f1 k1c2 k1f2 k2c0 k2f0 k2c1 k2f1 k2c2 k2f2 k3c0 k3f0 k3c1 k3f1 k3c2 k3f2 k1z k2z k3z
 refine(ref04_none A1 K1 c1 _).mono ?_
 rintro e w2 ⟨rfl,hb2⟩
 replace k1:=k1.below hb2 k1.lt
 replace k2:=k2.below hb2 k2.lt
 replace k3:=k3.below hb2 k3.lt
 replace hb0:=hb0.trans (hb2.mono hb0.size)
 replace h1:=h1.below hb2
 replace h2:=h2.below hb2
 clear hb2
 rw[decide_eq_false n1]
 obtain⟨k1c0,k1c1,k1c2,k1z,k1f0,k1f1,k1f2⟩:=k1.b3
 obtain⟨k2c0,k2c1,k2c2,k2z,k2f0,k2f1,k2f2⟩:=k2.b3
 obtain⟨k3c0,k3c1,k3c2,k3z,k3f0,k3f1,k3f2⟩:=k3.b3
 go_wp2_with fail
 clear k1c0 k1f0 k1c1 k1f1 k1c2 k1f2 k2c0 k2f0 k2c1 k2f1 k2c2 k2f2 k3c0 k3f0 k3c1 k3f1 k3c2 k3f2 k1z k2z k3z
 refine(ref04_none A2 K2 c2 _).mono ?_
 rintro e w3 ⟨rfl,hb3⟩
 replace k1:=k1.below hb3 k1.lt
 replace k2:=k2.below hb3 k2.lt
 replace k3:=k3.below hb3 k3.lt
 replace hb0:=hb0.trans (hb3.mono hb0.size)
 replace h1:=h1.below hb3
 replace h2:=h2.below hb3
 clear hb3
 rw[decide_eq_false n2]
 obtain⟨k1c0,k1c1,k1c2,k1z,k1f0,k1f1,k1f2⟩:=k1.b3
 obtain⟨k2c0,k2c1,k2c2,k2z,k2f0,k2f1,k2f2⟩:=k2.b3
 obtain⟨k3c0,k3c1,k3c2,k3z,k3f0,k3f1,k3f2⟩:=k3.b3
 go_wp2_with fail
 clear k1c0 k1f0 k1c1 k1f1 k1c2 k1f2 k2c0 k2f0 k2c1 k2f1 k2c2 k2f2 k3c0 k3f0 k3c1 k3f1 k3c2 k3f2 k1z k2z k3z
 refine(hU1 _ h1).mono ?_
 rintro e w4 ⟨B1,d1,rfl,own1,hb4⟩
 replace k1:=k1.below hb4 k1.lt
 replace k2:=k2.below hb4 k2.lt
 replace k3:=k3.below hb4 k3.lt
 replace hb0:=hb0.trans (hb4.mono hb0.size)
 replace h1:=h1.below hb4
 replace h2:=h2.below hb4
 clear hb4
 obtain⟨k1c0,k1c1,k1c2,k1z,k1f0,k1f1,k1f2⟩:=k1.b3
 obtain⟨k2c0,k2c1,k2c2,k2z,k2f0,k2f1,k2f2⟩:=k2.b3
 obtain⟨k3c0,k3c1,k3c2,k3z,k3f0,k3f1,k3f2⟩:=k3.b3
 go_wp2_with fail
 clear k1c0 k1f0 k1c1 k1f1 k1c2 k1f2 k2c0 k2f0 k2c1 k2f1 k2c2 k2f2 k3c0 k3f0 k3c1 k3f1 k3c2 k3f2 k1z k2z k3z
 obtain⟨x4,hxx4,hx4,k4⟩:=Blk.al w4 67 #[.slice B1 (limbs U1).length d1]
 rw[←hxx4]
 clear hxx4
 replace k1:=k1.below hx4 k1.lt
 replace k2:=k2.below hx4 k2.lt
 replace k3:=k3.below hx4 k3.lt
 replace hb0:=hb0.trans (hx4.mono hb0.size)
 replace h1:=h1.below hx4
 replace h2:=h2.below hx4
 replace own1:=own1.below hx4 nrf
 clear hx4
 refine(hU2 _ h2).mono ?_
 rintro e w5 ⟨B2,d2,rfl,own2,hb5⟩
 replace k1:=k1.below hb5 k1.lt
 replace k2:=k2.below hb5 k2.lt
 replace k3:=k3.below hb5 k3.lt
 replace k4:=k4.below hb5 k4.lt
 replace hb0:=hb0.trans (hb5.mono hb0.size)
 replace h1:=h1.below hb5
 replace h2:=h2.below hb5
 replace own1:=own1.below hb5 nrf
 clear hb5
 obtain⟨k1c0,k1c1,k1c2,k1z,k1f0,k1f1,k1f2⟩:=k1.b3
 obtain⟨k2c0,k2c1,k2c2,k2z,k2f0,k2f1,k2f2⟩:=k2.b3
 obtain⟨k3c0,k3c1,k3c2,k3z,k3f0,k3f1,k3f2⟩:=k3.b3
 obtain⟨k4c0,k4z,k4f0⟩:=k4.b1
 go_wp2_with fail
 clear k1c0 k1f0 k1c1 k1f1 k1c2 k1f2 k2c0 k2f0 k2c1 k2f1 k2c2 k2f2 k3c0 k3f0 k3c1 k3f1 k3c2 k3f2 k4c0 k4f0 k1z k2z k3z k4z
 obtain⟨x5,hxx5,hx5,k5⟩:=Blk.al w5 67 #[.slice B2 (limbs U2).length d2]
 rw[←hxx5]
 clear hxx5
 replace k1:=k1.below hx5 k1.lt
 replace k2:=k2.below hx5 k2.lt
 replace k3:=k3.below hx5 k3.lt
 replace k4:=k4.below hx5 k4.lt
 replace hb0:=hb0.trans (hx5.mono hb0.size)
 replace h1:=h1.below hx5
 replace h2:=h2.below hx5
 replace own1:=own1.below hx5 nrf
 replace own2:=own2.below hx5 nrf
 clear hx5
 refine(hAd B1 B2 d1 d2 _ own1.rd own2.rd).mono ?_
 rintro e w6 ⟨B3,d3,rfl,own3,hb6⟩
 replace k1:=k1.below hb6 k1.lt
 replace k2:=k2.below hb6 k2.lt
 replace k3:=k3.below hb6 k3.lt
 replace k4:=k4.below hb6 k4.lt
 replace k5:=k5.below hb6 k5.lt
 replace hb0:=hb0.trans (hb6.mono hb0.size)
 replace h1:=h1.below hb6
 replace h2:=h2.below hb6
 replace own1:=own1.below hb6 nrf
 replace own2:=own2.below hb6 nrf
 clear hb6
 obtain⟨k1c0,k1c1,k1c2,k1z,k1f0,k1f1,k1f2⟩:=k1.b3
 obtain⟨k2c0,k2c1,k2c2,k2z,k2f0,k2f1,k2f2⟩:=k2.b3
 obtain⟨k3c0,k3c1,k3c2,k3z,k3f0,k3f1,k3f2⟩:=k3.b3
 obtain⟨k4c0,k4z,k4f0⟩:=k4.b1
 obtain⟨k5c0,k5z,k5f0⟩:=k5.b1
 go_wp2_with fail
 clear k1c0 k1f0 k1c1 k1f1 k1c2 k1f2 k2c0 k2f0 k2c1 k2f1 k2c2 k2f2 k3c0 k3f0 k3c1 k3f1 k3c2 k3f2 k4c0 k4f0 k5c0 k5f0 k1z k2z k3z k4z k5z
 obtain⟨x6,hxx6,hx6,k6⟩:=Blk.al w6 67 #[.slice B3 (limbs (U1+U2)).length d3]
 rw[←hxx6]
 clear hxx6
 replace k1:=k1.below hx6 k1.lt
 replace k2:=k2.below hx6 k2.lt
 replace k3:=k3.below hx6 k3.lt
 replace k4:=k4.below hx6 k4.lt
 replace k5:=k5.below hx6 k5.lt
 replace hb0:=hb0.trans (hx6.mono hb0.size)
 replace h1:=h1.below hx6
 replace h2:=h2.below hx6
 replace own1:=own1.below hx6 nrf
 replace own2:=own2.below hx6 nrf
 replace own3:=own3.below hx6 nrf
 clear hx6
 have z4:=k3.lt
 refine(hMk B3 d3 _ own3.rd).mono ?_
 rintro e w7 ⟨B4,d4,rfl,own4,hb7⟩
 replace k1:=k1.below hb7 k1.lt
 replace k2:=k2.below hb7 k2.lt
 replace k3:=k3.below hb7 k3.lt
 replace k4:=k4.below hb7 k4.lt
 replace k5:=k5.below hb7 k5.lt
 replace k6:=k6.below hb7 k6.lt
 replace hb0:=hb0.trans (hb7.mono hb0.size)
 replace h1:=h1.below hb7
 replace h2:=h2.below hb7
 replace own1:=own1.below hb7 nrf
 replace own2:=own2.below hb7 nrf
 replace own3:=own3.below hb7 nrf
 clear hb7
 obtain⟨k1c0,k1c1,k1c2,k1z,k1f0,k1f1,k1f2⟩:=k1.b3
 obtain⟨k2c0,k2c1,k2c2,k2z,k2f0,k2f1,k2f2⟩:=k2.b3
 obtain⟨k3c0,k3c1,k3c2,k3z,k3f0,k3f1,k3f2⟩:=k3.b3
 obtain⟨k4c0,k4z,k4f0⟩:=k4.b1
 obtain⟨k5c0,k5z,k5f0⟩:=k5.b1
 obtain⟨k6c0,k6z,k6f0⟩:=k6.b1
 go_wp2
 refine bodyPost_ret (v:=.tuple #[.agg #[.bool false,.slice B4 (limbs KV).length d4,.int .i64 DE],.int .i64 0]) ?_ rfl ⟨B4,d4,rfl,(((own4.setCell z4 _).setCell z4 _).setCell z4 _).mono (by omega),((bel3 hb0 (w.heap.size+2) (by simp)))⟩
 refine results_cell_tmp rfl _ _ (w.heap.size+2) _ _ _ _ _ ?_ ?_ ((((k3.set_ 0 _).set_ 1 _).set_ 2 _)) Tryz.underlying117 rfl (by kernel_rfl)
 · rfl
 · rfl
theorem add_core_hi (A1 A2:Option Addr) (K1 K2 c1 c2:Nat) (X1 X2:Int) (U1 U2 KV:Nat) (DE:Int) (n1:K1≠0) (n2:K2≠0) (hb1: -20000≤X1∧X1≤20000) (hb2: -20000≤X2∧X2≤20000) (hlt:X2<X1)
 (hTw:∀W,Rd W A1 (limbs K1)→Rd W A2 (limbs K2)→Calls Tryz.prog 169 #[.agg #[.bool false,.slice A1 (limbs K1).length c1,.int .i64 X1],.agg #[.bool false,.slice A2 (limbs K2).length c2,.int .i64 X2]] W (Says W (.int .i64 0)))
 (hU1:∀W,Rd W A1 (limbs K1)→Calls Tryz.prog 172 #[.agg #[.slice A1 (limbs K1).length c1],.int .i64 (X1-X2)] W (NatAns 153 W (limbs U1,0)))
 (hU2:∀W,Rd W A2 (limbs K2)→Calls Tryz.prog 172 #[.agg #[.slice A2 (limbs K2).length c2],.int .i64 0] W (NatAns 153 W (limbs U2,0)))
 (hAd:∀A B c d W,Rd W A (limbs U1)→Rd W B (limbs U2)→Calls Tryz.prog 173 #[.agg #[.slice A (limbs U1).length c],.agg #[.slice B (limbs U2).length d]] W (NatAns 153 W (limbs (U1+U2),0)))
 (hMk:∀A c W,Rd W A (limbs (U1+U2))→Calls Tryz.prog 166 #[.bool false,.agg #[.slice A (limbs (U1+U2)).length c],.int .i64 X2] W fun e w'=>∃B k,e=.returned (.tuple #[.agg #[.bool false,.slice B (limbs KV).length k,.int .i64 DE],.int .i64 0])∧Own w' 153 W.heap.size B k (limbs KV)∧Below W.heap.size W w')
 (w:World) (h1:Rd w A1 (limbs K1)) (h2:Rd w A2 (limbs K2)):
 Calls Tryz.prog 120 #[.agg #[.bool false,.slice A1 (limbs K1).length c1,.int .i64 X1],.agg #[.bool false,.slice A2 (limbs K2).length c2,.int .i64 X2]] w fun e w'=>∃B k,e=.returned (.tuple #[.agg #[.bool false,.slice B (limbs KV).length k,.int .i64 DE],.int .i64 0])∧Own w' 153 w.heap.size B k (limbs KV)∧Below w.heap.size w w':=by
 have hmin:min X1 X2=X2:=by omega
 obtain⟨v0,hv0,ha0,k1⟩:=Blk.al w 117 #[.bool false,.slice A1 (limbs K1).length c1,.int .i64 X1]
 have hs0:v0.heap.size=w.heap.size+1:=by rw[hv0];simp
 have hb0:=ha0
 obtain⟨v1,hv1,ha1,k2⟩:=Blk.al v0 117 #[.bool false,.slice A2 (limbs K2).length c2,.int .i64 X2]
 have hs1:v1.heap.size=v0.heap.size+1:=by rw[hv1];simp
 replace k1:=k1.below ha1 k1.lt
 replace hb0:=hb0.trans (ha1.mono hb0.size)
 obtain⟨v2,hv2,ha2,k3⟩:=Blk.al v1 117 #[.bool false,.slice none 0 0,.int .i64 0]
 have hs2:v2.heap.size=v1.heap.size+1:=by rw[hv2];simp
 replace k1:=k1.below ha2 k1.lt
 replace k2:=k2.below ha2 k2.lt
 replace hb0:=hb0.trans (ha2.mono hb0.size)
 rw[hs0] at k2
 rw[hs1,hs0] at k3
 simp only[Nat.add_assoc,Nat.reduceAdd] at k3
 go_enter Tryz.func120,Tryz.ntmps120
 go_upto_region 1 with fail
 rw[←hv0, ←hv1, ←hv2]
 clear hv0 hs0 ha0 hv1 hs1 ha1 hv2 hs2 ha2
 replace h1:=h1.below hb0
 replace h2:=h2.below hb0
 obtain⟨k1c0,k1c1,k1c2,k1z,k1f0,k1f1,k1f2⟩:=k1.b3
 obtain⟨k2c0,k2c1,k2c2,k2z,k2f0,k2f1,k2f2⟩:=k2.b3
 obtain⟨k3c0,k3c1,k3c2,k3z,k3f0,k3f1,k3f2⟩:=k3.b3
 go_wp2_with fail
 clear k1c0 k1f0 k1c1 k1f1 k1c2 k1f2 k2c0 k2f0 k2c1 k2f1 k2c2 k2f2 k3c0 k3f0 k3c1 k3f1 k3c2 k3f2 k1z k2z k3z
 refine(hTw _ h1 h2).mono ?_
 rintro e w1 ⟨rfl,hb1⟩
 replace k1:=k1.below hb1 k1.lt
 replace k2:=k2.below hb1 k2.lt
 replace k3:=k3.below hb1 k3.lt
 replace hb0:=hb0.trans (hb1.mono hb0.size)
 replace h1:=h1.below hb1
 replace h2:=h2.below hb1
 clear hb1
 obtain⟨k1c0,k1c1,k1c2,k1z,k1f0,k1f1,k1f2⟩:=k1.b3
 obtain⟨k2c0,k2c1,k2c2,k2z,k2f0,k2f1,k2f2⟩:=k2.b3
 obtain⟨k3c0,k3c1,k3c2,k3z,k3f0,k3f1,k3f2⟩:=k3.b3
 go_wp2_with fail
 clear k1c0 k1f0 k1c1 k1f1 k1c2 k1f2 k2c0 k2f0 k2c1 k2f1 k2c2 k2f2 k3c0 k3f0 k3c1 k3f1 k3c2 k3f2 k1z k2z k3z
 refine(ref04_none A1 K1 c1 _).mono ?_
 rintro e w2 ⟨rfl,hb2⟩
 replace k1:=k1.below hb2 k1.lt
 replace k2:=k2.below hb2 k2.lt
 replace k3:=k3.below hb2 k3.lt
 replace hb0:=hb0.trans (hb2.mono hb0.size)
 replace h1:=h1.below hb2
 replace h2:=h2.below hb2
 clear hb2
 rw[decide_eq_false n1]
 obtain⟨k1c0,k1c1,k1c2,k1z,k1f0,k1f1,k1f2⟩:=k1.b3
 obtain⟨k2c0,k2c1,k2c2,k2z,k2f0,k2f1,k2f2⟩:=k2.b3
 obtain⟨k3c0,k3c1,k3c2,k3z,k3f0,k3f1,k3f2⟩:=k3.b3
 go_wp2_with fail
 clear k1c0 k1f0 k1c1 k1f1 k1c2 k1f2 k2c0 k2f0 k2c1 k2f1 k2c2 k2f2 k3c0 k3f0 k3c1 k3f1 k3c2 k3f2 k1z k2z k3z
 refine(ref04_none A2 K2 c2 _).mono ?_
 rintro e w3 ⟨rfl,hb3⟩
 replace k1:=k1.below hb3 k1.lt
 replace k2:=k2.below hb3 k2.lt
 replace k3:=k3.below hb3 k3.lt
 replace hb0:=hb0.trans (hb3.mono hb0.size)
 replace h1:=h1.below hb3
 replace h2:=h2.below hb3
 clear hb3
 rw[decide_eq_false n2]
 obtain⟨k1c0,k1c1,k1c2,k1z,k1f0,k1f1,k1f2⟩:=k1.b3
 obtain⟨k2c0,k2c1,k2c2,k2z,k2f0,k2f1,k2f2⟩:=k2.b3
 obtain⟨k3c0,k3c1,k3c2,k3z,k3f0,k3f1,k3f2⟩:=k3.b3
 go_wp2_with fail
 clear k1c0 k1f0 k1c1 k1f1 k1c2 k1f2 k2c0 k2f0 k2c1 k2f1 k2c2 k2f2 k3c0 k3f0 k3c1 k3f1 k3c2 k3f2 k1z k2z k3z
 refine(hU1 _ h1).mono ?_
 rintro e w4 ⟨B1,d1,rfl,own1,hb4⟩
 replace k1:=k1.below hb4 k1.lt
 replace k2:=k2.below hb4 k2.lt
 replace k3:=k3.below hb4 k3.lt
 replace hb0:=hb0.trans (hb4.mono hb0.size)
 replace h1:=h1.below hb4
 replace h2:=h2.below hb4
 clear hb4
 obtain⟨k1c0,k1c1,k1c2,k1z,k1f0,k1f1,k1f2⟩:=k1.b3
 obtain⟨k2c0,k2c1,k2c2,k2z,k2f0,k2f1,k2f2⟩:=k2.b3
 obtain⟨k3c0,k3c1,k3c2,k3z,k3f0,k3f1,k3f2⟩:=k3.b3
 go_wp2_with fail
 clear k1c0 k1f0 k1c1 k1f1 k1c2 k1f2 k2c0 k2f0 k2c1 k2f1 k2c2 k2f2 k3c0 k3f0 k3c1 k3f1 k3c2 k3f2 k1z k2z k3z
 obtain⟨x4,hxx4,hx4,k4⟩:=Blk.al w4 67 #[.slice B1 (limbs U1).length d1]
 rw[←hxx4]
 clear hxx4
 replace k1:=k1.below hx4 k1.lt
 replace k2:=k2.below hx4 k2.lt
 replace k3:=k3.below hx4 k3.lt
 replace hb0:=hb0.trans (hx4.mono hb0.size)
 replace h1:=h1.below hx4
 replace h2:=h2.below hx4
 replace own1:=own1.below hx4 nrf
 clear hx4
 refine(hU2 _ h2).mono ?_
 rintro e w5 ⟨B2,d2,rfl,own2,hb5⟩
 replace k1:=k1.below hb5 k1.lt
 replace k2:=k2.below hb5 k2.lt
 replace k3:=k3.below hb5 k3.lt
 replace k4:=k4.below hb5 k4.lt
 replace hb0:=hb0.trans (hb5.mono hb0.size)
 replace h1:=h1.below hb5
 replace h2:=h2.below hb5
 replace own1:=own1.below hb5 nrf
 clear hb5
 obtain⟨k1c0,k1c1,k1c2,k1z,k1f0,k1f1,k1f2⟩:=k1.b3
 obtain⟨k2c0,k2c1,k2c2,k2z,k2f0,k2f1,k2f2⟩:=k2.b3
 obtain⟨k3c0,k3c1,k3c2,k3z,k3f0,k3f1,k3f2⟩:=k3.b3
 obtain⟨k4c0,k4z,k4f0⟩:=k4.b1
 go_wp2_with fail
 clear k1c0 k1f0 k1c1 k1f1 k1c2 k1f2 k2c0 k2f0 k2c1 k2f1 k2c2 k2f2 k3c0 k3f0 k3c1 k3f1 k3c2 k3f2 k4c0 k4f0 k1z k2z k3z k4z
 obtain⟨x5,hxx5,hx5,k5⟩:=Blk.al w5 67 #[.slice B2 (limbs U2).length d2]
 rw[←hxx5]
 clear hxx5
 replace k1:=k1.below hx5 k1.lt
 replace k2:=k2.below hx5 k2.lt
 replace k3:=k3.below hx5 k3.lt
 replace k4:=k4.below hx5 k4.lt
 replace hb0:=hb0.trans (hx5.mono hb0.size)
 replace h1:=h1.below hx5
 replace h2:=h2.below hx5
 replace own1:=own1.below hx5 nrf
 replace own2:=own2.below hx5 nrf
 clear hx5
 refine(hAd B1 B2 d1 d2 _ own1.rd own2.rd).mono ?_
 rintro e w6 ⟨B3,d3,rfl,own3,hb6⟩
 replace k1:=k1.below hb6 k1.lt
 replace k2:=k2.below hb6 k2.lt
 replace k3:=k3.below hb6 k3.lt
 replace k4:=k4.below hb6 k4.lt
 replace k5:=k5.below hb6 k5.lt
 replace hb0:=hb0.trans (hb6.mono hb0.size)
 replace h1:=h1.below hb6
 replace h2:=h2.below hb6
 replace own1:=own1.below hb6 nrf
 replace own2:=own2.below hb6 nrf
 clear hb6
 obtain⟨k1c0,k1c1,k1c2,k1z,k1f0,k1f1,k1f2⟩:=k1.b3
 obtain⟨k2c0,k2c1,k2c2,k2z,k2f0,k2f1,k2f2⟩:=k2.b3
 obtain⟨k3c0,k3c1,k3c2,k3z,k3f0,k3f1,k3f2⟩:=k3.b3
 obtain⟨k4c0,k4z,k4f0⟩:=k4.b1
 obtain⟨k5c0,k5z,k5f0⟩:=k5.b1
 go_wp2_with fail
 clear k1c0 k1f0 k1c1 k1f1 k1c2 k1f2 k2c0 k2f0 k2c1 k2f1 k2c2 k2f2 k3c0 k3f0 k3c1 k3f1 k3c2 k3f2 k4c0 k4f0 k5c0 k5f0 k1z k2z k3z k4z k5z
 obtain⟨x6,hxx6,hx6,k6⟩:=Blk.al w6 67 #[.slice B3 (limbs (U1+U2)).length d3]
 rw[←hxx6]
 clear hxx6
 replace k1:=k1.below hx6 k1.lt
 replace k2:=k2.below hx6 k2.lt
 replace k3:=k3.below hx6 k3.lt
 replace k4:=k4.below hx6 k4.lt
 replace k5:=k5.below hx6 k5.lt
 replace hb0:=hb0.trans (hx6.mono hb0.size)
 replace h1:=h1.below hx6
 replace h2:=h2.below hx6
 replace own1:=own1.below hx6 nrf
 replace own2:=own2.below hx6 nrf
 replace own3:=own3.below hx6 nrf
 clear hx6
 have z4:=k3.lt
 refine(hMk B3 d3 _ own3.rd).mono ?_
 rintro e w7 ⟨B4,d4,rfl,own4,hb7⟩
 replace k1:=k1.below hb7 k1.lt
 replace k2:=k2.below hb7 k2.lt
 replace k3:=k3.below hb7 k3.lt
 replace k4:=k4.below hb7 k4.lt
 replace k5:=k5.below hb7 k5.lt
 replace k6:=k6.below hb7 k6.lt
 replace hb0:=hb0.trans (hb7.mono hb0.size)
 replace h1:=h1.below hb7
 replace h2:=h2.below hb7
 replace own1:=own1.below hb7 nrf
 replace own2:=own2.below hb7 nrf
 replace own3:=own3.below hb7 nrf
 clear hb7
 obtain⟨k1c0,k1c1,k1c2,k1z,k1f0,k1f1,k1f2⟩:=k1.b3
 obtain⟨k2c0,k2c1,k2c2,k2z,k2f0,k2f1,k2f2⟩:=k2.b3
 obtain⟨k3c0,k3c1,k3c2,k3z,k3f0,k3f1,k3f2⟩:=k3.b3
 obtain⟨k4c0,k4z,k4f0⟩:=k4.b1
 obtain⟨k5c0,k5z,k5f0⟩:=k5.b1
 obtain⟨k6c0,k6z,k6f0⟩:=k6.b1
 go_wp2
 refine bodyPost_ret (v:=.tuple #[.agg #[.bool false,.slice B4 (limbs KV).length d4,.int .i64 DE],.int .i64 0]) ?_ rfl ⟨B4,d4,rfl,(((own4.setCell z4 _).setCell z4 _).setCell z4 _).mono (by omega),((bel3 hb0 (w.heap.size+2) (by simp)))⟩
 refine results_cell_tmp rfl _ _ (w.heap.size+2) _ _ _ _ _ ?_ ?_ ((((k3.set_ 0 _).set_ 1 _).set_ 2 _)) Tryz.underlying117 rfl (by kernel_rfl)
 · rfl
 · rfl
theorem add_fin_lo (A1 A2:Option Addr) (v1 v2 c1 c2:Nat) (q:Int) (U1 U2:Nat) (lu:(limbs (U1+U2)).length≤200) (hds:dyK (U1+U2)=dyK (v1+v2)∧dyE (U1+U2) (dyE v1 q)=dyE (v1+v2) q) (n1:dyK v1≠0) (n2:dyK v2≠0)
 (hb1: -20000≤dyE v1 q∧dyE v1 q≤20000) (hb2: -20000≤dyE v2 q∧dyE v2 q≤20000) (hlt:dyE v1 q≤dyE v2 q)
 (hTw:∀W,Rd W A1 (limbs (dyK v1))→Rd W A2 (limbs (dyK v2))→Calls Tryz.prog 169 #[.agg #[.bool false,.slice A1 (limbs (dyK v1)).length c1,.int .i64 (dyE v1 q)],.agg #[.bool false,.slice A2 (limbs (dyK v2)).length c2,.int .i64 (dyE v2 q)]] W (Says W (.int .i64 0)))
 (hU1:∀W,Rd W A1 (limbs (dyK v1))→Calls Tryz.prog 172 #[.agg #[.slice A1 (limbs (dyK v1)).length c1],.int .i64 ((0:Nat):Int)] W (NatAns 153 W (limbs U1,0)))
 (hU2:∀W,Rd W A2 (limbs (dyK v2))→Calls Tryz.prog 172 #[.agg #[.slice A2 (limbs (dyK v2)).length c2],.int .i64 (dyE v2 q-dyE v1 q)] W (NatAns 153 W (limbs U2,0)))
 (w:World) (h1:Rd w A1 (limbs (dyK v1))) (h2:Rd w A2 (limbs (dyK v2))):
 Calls Tryz.prog 120 #[.agg #[.bool false,.slice A1 (limbs (dyK v1)).length c1,.int .i64 (dyE v1 q)],.agg #[.bool false,.slice A2 (limbs (dyK v2)).length c2,.int .i64 (dyE v2 q)]] w (DyT w (v1+v2) q):=by
 have l1:(limbs U1).length≤200:=Nat.le_trans (limbs_mono (Nat.le_add_right U1 U2)) lu
 have l2:(limbs U2).length≤200:=Nat.le_trans (limbs_mono (Nat.le_add_left U2 U1)) lu
 refine add_core_lo A1 A2 (dyK v1) (dyK v2) c1 c2 (dyE v1 q) (dyE v2 q) U1 U2 (dyK (v1+v2)) (dyE (v1+v2) q) n1 n2 hb1 hb2 hlt hTw hU1 hU2 ?_ ?_ w h1 h2
 · intro A B c d W hA hB
   have:=ref_Add A B (limbs U1) (limbs U2) _ _ c d rfl rfl W hA hB
   have e:addS (limbs U1) (limbs U2)=(limbs (U1+U2),0):=by
    unfold addS chk2
    rw[chk_ok l1,if_pos rfl,if_pos (chk_ok l2),val_limbs,val_limbs,fitS_ok (by omega)]
   rw[e] at this
   exact this
 · intro A c W hW
   have:=ref04_Make A (U1+U2) c (dyE v1 q) lu (by omega) (by omega) W hW
   unfold DyT at this
   rw[hds.1,hds.2] at this
   exact this
theorem add_fin_hi (A1 A2:Option Addr) (v1 v2 c1 c2:Nat) (q:Int) (U1 U2:Nat) (lu:(limbs (U1+U2)).length≤200) (hds:dyK (U1+U2)=dyK (v1+v2)∧dyE (U1+U2) (dyE v2 q)=dyE (v1+v2) q) (n1:dyK v1≠0) (n2:dyK v2≠0)
 (hb1: -20000≤dyE v1 q∧dyE v1 q≤20000) (hb2: -20000≤dyE v2 q∧dyE v2 q≤20000) (hlt:dyE v2 q<dyE v1 q)
 (hTw:∀W,Rd W A1 (limbs (dyK v1))→Rd W A2 (limbs (dyK v2))→Calls Tryz.prog 169 #[.agg #[.bool false,.slice A1 (limbs (dyK v1)).length c1,.int .i64 (dyE v1 q)],.agg #[.bool false,.slice A2 (limbs (dyK v2)).length c2,.int .i64 (dyE v2 q)]] W (Says W (.int .i64 0)))
 (hU1:∀W,Rd W A1 (limbs (dyK v1))→Calls Tryz.prog 172 #[.agg #[.slice A1 (limbs (dyK v1)).length c1],.int .i64 (dyE v1 q-dyE v2 q)] W (NatAns 153 W (limbs U1,0)))
 (hU2:∀W,Rd W A2 (limbs (dyK v2))→Calls Tryz.prog 172 #[.agg #[.slice A2 (limbs (dyK v2)).length c2],.int .i64 ((0:Nat):Int)] W (NatAns 153 W (limbs U2,0)))
 (w:World) (h1:Rd w A1 (limbs (dyK v1))) (h2:Rd w A2 (limbs (dyK v2))):
 Calls Tryz.prog 120 #[.agg #[.bool false,.slice A1 (limbs (dyK v1)).length c1,.int .i64 (dyE v1 q)],.agg #[.bool false,.slice A2 (limbs (dyK v2)).length c2,.int .i64 (dyE v2 q)]] w (DyT w (v1+v2) q):=by
 have l1:(limbs U1).length≤200:=Nat.le_trans (limbs_mono (Nat.le_add_right U1 U2)) lu
 have l2:(limbs U2).length≤200:=Nat.le_trans (limbs_mono (Nat.le_add_left U2 U1)) lu
 refine add_core_hi A1 A2 (dyK v1) (dyK v2) c1 c2 (dyE v1 q) (dyE v2 q) U1 U2 (dyK (v1+v2)) (dyE (v1+v2) q) n1 n2 hb1 hb2 hlt hTw hU1 hU2 ?_ ?_ w h1 h2
 · intro A B c d W hA hB
   have:=ref_Add A B (limbs U1) (limbs U2) _ _ c d rfl rfl W hA hB
   have e:addS (limbs U1) (limbs U2)=(limbs (U1+U2),0):=by
    unfold addS chk2
    rw[chk_ok l1,if_pos rfl,if_pos (chk_ok l2),val_limbs,val_limbs,fitS_ok (by omega)]
   rw[e] at this
   exact this
 · intro A c W hW
   have:=ref04_Make A (U1+U2) c (dyE v2 q) lu (by omega) (by omega) W hW
   unfold DyT at this
   rw[hds.1,hds.2] at this
   exact this
theorem sum_len {a b:Nat} (ha:(limbs a).length≤100) (hb:(limbs b).length≤100):(limbs (a+b)).length≤200:=by
 have h1:=(length_limbs_le a 100).1 ha
 have h2:=(length_limbs_le b 100).1 hb
 refine Nat.le_trans ((length_limbs_le (a+b) 101).2 ?_) (by decide)
 rw[Nat.pow_succ]
 have:=pow_pos' 100
 generalize 4294967296^100=P at*
 omega
theorem ref04_Add_pos (A1 A2:Option Addr) (v1 v2 c1 c2:Nat) (q:Int) (hl1:(limbs v1).length≤100) (hl2:(limbs v2).length≤100) (hq: -10000≤q∧q≤10000) (hv1:v1≠0) (hv2:v2≠0) (w:World) (h1:Rd w A1 (limbs (dyK v1))) (h2:Rd w A2 (limbs (dyK v2))):
 Calls Tryz.prog 120 #[.agg #[.bool false,.slice A1 (limbs (dyK v1)).length c1,.int .i64 (dyE v1 q)],.agg #[.bool false,.slice A2 (limbs (dyK v2)).length c2,.int .i64 (dyE v2 q)]] w (DyT w (v1+v2) q):=by
 have t1:=tz_lt hl1
 have t2:=tz_lt hl2
 have E1:dyE v1 q=q+(tz v1:Int):=by unfold dyE;rw[if_neg hv1]
 have E2:dyE v2 q=q+(tz v2:Int):=by unfold dyE;rw[if_neg hv2]
 have hb1: -20000≤dyE v1 q∧dyE v1 q≤20000:=by omega
 have hb2: -20000≤dyE v2 q∧dyE v2 q≤20000:=by omega
 have n1:=dyK_ne hv1
 have n2:=dyK_ne hv2
 have l1:=Nat.le_trans (limbs_mono (dyK_le v1)) hl1
 have l2:=Nat.le_trans (limbs_mono (dyK_le v2)) hl2
 have s1:=(dy_spec hv1).1
 have s2:=(dy_spec hv2).1
 have hTw:=fun W hA hB=>ref04_two A1 A2 v1 v2 c1 c2 q q hl1 hl2 hq hq W hA hB
 by_cases hle:dyE v1 q≤dyE v2 q
 · obtain⟨j,hj⟩:∃j:Nat,dyE v2 q-dyE v1 q=(j:Int):=⟨(dyE v2 q-dyE v1 q).toNat,by omega⟩
   have hU1:=fun W hA=>up_of A1 (dyK v1) c1 0 n1 (by omega) (by omega) W hA
   have hU2:=fun W hA=>up_of A2 (dyK v2) c2 j n2 (by omega) (by omega) W hA
   rw[←hj] at hU2
   have lu:(limbs (dyK v1*2^0+dyK v2*2^j)).length≤200:=by
    refine Nat.le_trans (limbs_mono (y:=v1+v2) ?_) ?_
    · have:dyK v2*2^j≤v2:=by
       conv=>rhs;rw[s2]
       exact Nat.mul_le_mul_left _ (Nat.pow_le_pow_right (by decide) (by omega))
      have:=dyK_le v1
      omega
    · exact sum_len hl1 hl2
   have hds:=dy_same (v:=dyK v1*2^0+dyK v2*2^j) (v':=v1+v2) (a:=tz v1) (b:=0) (q:=dyE v1 q) (q':=q) (by have:=Nat.pos_of_ne_zero n1;omega)
    (by
      rw[Nat.pow_zero,Nat.mul_one,Nat.mul_one,Nat.add_mul,Nat.mul_assoc (dyK v2), ←Nat.pow_add,show j+tz v1=tz v2 by omega, ←s1, ←s2]) (by omega)
   exact add_fin_lo A1 A2 v1 v2 c1 c2 q _ _ lu hds n1 n2 hb1 hb2 hle hTw hU1 hU2 w h1 h2
 · obtain⟨j,hj⟩:∃j:Nat,dyE v1 q-dyE v2 q=(j:Int):=⟨(dyE v1 q-dyE v2 q).toNat,by omega⟩
   have hU1:=fun W hA=>up_of A1 (dyK v1) c1 j n1 (by omega) (by omega) W hA
   have hU2:=fun W hA=>up_of A2 (dyK v2) c2 0 n2 (by omega) (by omega) W hA
   rw[←hj] at hU1
   have lu:(limbs (dyK v1*2^j+dyK v2*2^0)).length≤200:=by
    refine Nat.le_trans (limbs_mono (y:=v1+v2) ?_) ?_
    · have:dyK v1*2^j≤v1:=by
       conv=>rhs;rw[s1]
       exact Nat.mul_le_mul_left _ (Nat.pow_le_pow_right (by decide) (by omega))
      have:=dyK_le v2
      omega
    · exact sum_len hl1 hl2
   have hds:=dy_same (v:=dyK v1*2^j+dyK v2*2^0) (v':=v1+v2) (a:=tz v2) (b:=0) (q:=dyE v2 q) (q':=q) (by have:=Nat.pos_of_ne_zero n2;omega)
    (by
      rw[Nat.pow_zero,Nat.mul_one,Nat.mul_one,Nat.add_mul,Nat.mul_assoc (dyK v1), ←Nat.pow_add,show j+tz v2=tz v1 by omega, ←s1, ←s2]) (by omega)
   exact add_fin_hi A1 A2 v1 v2 c1 c2 q _ _ lu hds n1 n2 hb1 hb2 (by omega) hTw hU1 hU2 w h1 h2
end Bg
end Go.Proofs.YtenekbfnlbipiaaGreatDoor
