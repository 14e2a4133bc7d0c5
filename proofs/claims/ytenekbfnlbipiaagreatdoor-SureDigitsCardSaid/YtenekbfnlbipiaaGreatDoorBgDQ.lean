/- Walks: layer 6's Reach. -/
import Derived.Test.YtenekbfnlbipiaaGreatDoorBgDC
import Derived.Test.YtenekbfnlbipiaaGreatDoorBgL
namespace Go.Proofs.YtenekbfnlbipiaaGreatDoor
open Go.RowKit
set_option linter.unusedVariables false
set_option linter.unusedSimpArgs false
set_option maxHeartbeats 4000000
set_option maxRecDepth 100000
namespace Bg
theorem results_reach {P:Program} {fn:Func} {p p2 q q2 q3:Tmp} {ty ty2:TypeId} (h:fn.results=#[.cell p ty,.cell p2 ty2,.tmp q,.tmp q2,.tmp q3]) (tmps:Array Value) (w:World) (g g2:Nat) (t t2:TypeId) (cs cs2:Array Value) (fr fr2:Nat × Nat) (d d2:TypeDesc) (x y z:Value)
 (hp:tmps.getD p undef=.pointer (some ⟨g,0,none⟩)) (hp2:tmps.getD p2 undef=.pointer (some ⟨g2,0,none⟩)) (hq:tmps.getD q undef=x) (hq2:tmps.getD q2 undef=y) (hq3:tmps.getD q3 undef=z) (hg:w.heap[g]?=some (.cells cs t fr)) (hg2:w.heap[g2]?=some (.cells cs2 t2 fr2))
 (hu:P.underlying ty=some d) (hd:(match d with| .struct _| .array _ _=>true|_=>false)=true) (hi:(P.info? ty).map (·.size)=some cs.size)
 (hu2:P.underlying ty2=some d2) (hd2:(match d2 with| .struct _| .array _ _=>true|_=>false)=true) (hi2:(P.info? ty2).map (·.size)=some cs2.size):
 (results fn tmps).run P w=.ok (.tuple #[.agg cs,.agg cs2,x,y,z]) w:=by
 subst hq hq2 hq3
 have hp':tmps[p]?.getD undef=.pointer (some ⟨g,0,none⟩):=by simpa using hp
 have hp2':tmps[p2]?.getD undef=.pointer (some ⟨g2,0,none⟩):=by simpa using hp2
 simp[results,h,hp',hp2',asAddr,run_loadVar_row w g t ty cs fr d hg hu hd hi,run_loadVar_row w g2 t2 ty2 cs2 fr2 d2 hg2 hu2 hd2 hi2]
theorem set_keep3 {w:World} {a:Addr} {g:Nat} {u0 u1 u2 v:Value} (hne:g<a.block) (h:w.cell? a=some v):(((w.setCell ⟨g,0,none⟩ u0).setCell ⟨g,1,none⟩ u1).setCell ⟨g,2,none⟩ u2).cell? a=some v:=by
 have k:∀(w:World) (j:Nat) (u:Value),w.cell? a=some v→(w.setCell ⟨g,j,none⟩ u).cell? a=some v:=fun w j u h=>(World.cell?_setCell_other w ⟨g,j,none⟩ a u (fun e=>by subst e;exact Nat.lt_irrefl _ hne)).trans h
 exact k _ _ _ (k _ _ _ (k _ _ _ h))
theorem reach_core (E F b S:Nat) (K1 K2 K3 K4 K5 N4 D4 N5 D5:Nat) (X1 X2 X3 X4 X5:Int) (inn:Bool) (hS:b<S) (h0:0<b) (hS64:S≤9223372036854775808) (hinn:decide (b%2=0)=inn)
 (hFi:∀W,Calls Tryz.prog 43 #[.agg #[.int .i64 (E:Int),.int .i64 (F:Int)],.int .u64 (b:Int)] W (Says W (.int .i64 0)))
 (hFn:∀W,Calls Tryz.prog 68 #[.agg #[.int .i64 (E:Int),.int .i64 (F:Int)],.int .u64 (b:Int)] W (Says W (.bool true)))
 (hHa:∀W,Calls Tryz.prog 69 #[.agg #[.int .i64 (E:Int),.int .i64 (F:Int)]] W (Says W (.int .u64 (S:Int))))
 (hW1:∀W,Calls Tryz.prog 70 #[.agg #[.int .i64 (E:Int),.int .i64 (F:Int)],.int .u64 (b:Int)] W fun e w'=>∃B k,e=.returned (.agg #[.bool false,.slice B (limbs K1).length k,.int .i64 X1])∧Own w' 153 W.heap.size B k (limbs K1)∧Below W.heap.size W w')
 (hBe:∀W,Calls Tryz.prog 71 #[.agg #[.int .i64 (E:Int),.int .i64 (F:Int)],.int .u64 (b:Int)] W fun e w'=>∃B k,e=.returned (.agg #[.bool false,.slice B (limbs K2).length k,.int .i64 X2])∧Own w' 153 W.heap.size B k (limbs K2)∧Below W.heap.size W w')
 (hW3:∀W,Calls Tryz.prog 70 #[.agg #[.int .i64 (E:Int),.int .i64 (F:Int)],.int .u64 ((b:Int)-1)] W fun e w'=>∃B k,e=.returned (.agg #[.bool false,.slice B (limbs K3).length k,.int .i64 X3])∧Own w' 153 W.heap.size B k (limbs K3)∧Below W.heap.size W w')
 (hM4:∀A B c d W,Rd W A (limbs K3)→Rd W B (limbs K1)→Calls Tryz.prog 72 #[.agg #[.bool false,.slice A (limbs K3).length c,.int .i64 X3],.agg #[.bool false,.slice B (limbs K1).length d,.int .i64 X1]] W fun e w'=>∃B k,e=.returned (.agg #[.bool false,.slice B (limbs K4).length k,.int .i64 X4])∧Own w' 153 W.heap.size B k (limbs K4)∧Below W.heap.size W w')
 (hM5:∀A B c d W,Rd W A (limbs K1)→Rd W B (limbs K2)→Calls Tryz.prog 72 #[.agg #[.bool false,.slice A (limbs K1).length c,.int .i64 X1],.agg #[.bool false,.slice B (limbs K2).length d,.int .i64 X2]] W fun e w'=>∃B k,e=.returned (.agg #[.bool false,.slice B (limbs K5).length k,.int .i64 X5])∧Own w' 153 W.heap.size B k (limbs K5)∧Below W.heap.size W w')
 (hR4:∀A c W,Rd W A (limbs K4)→Calls Tryz.prog 73 #[.agg #[.bool false,.slice A (limbs K4).length c,.int .i64 X4]] W fun e w'=>∃A c B k,e=.returned (.agg #[.bool false,.slice A (limbs N4).length c,.slice B (limbs D4).length k])∧Own w' 153 W.heap.size A c (limbs N4)∧Own w' 153 W.heap.size B k (limbs D4)∧Below W.heap.size W w')
 (hR5:∀A c W,Rd W A (limbs K5)→Calls Tryz.prog 73 #[.agg #[.bool false,.slice A (limbs K5).length c,.int .i64 X5]] W fun e w'=>∃A c B k,e=.returned (.agg #[.bool false,.slice A (limbs N5).length c,.slice B (limbs D5).length k])∧Own w' 153 W.heap.size A c (limbs N5)∧Own w' 153 W.heap.size B k (limbs D5)∧Below W.heap.size W w')
 (w:World):
 Calls Tryz.prog 27 #[.agg #[.int .i64 (E:Int),.int .i64 (F:Int)],.int .u64 (b:Int),.int .u8 0] w fun e w'=>∃A4 c4 B4 d4 A5 c5 B5 d5,e=.returned (.tuple #[.agg #[.bool false,.slice A4 (limbs N4).length c4,.slice B4 (limbs D4).length d4],.agg #[.bool false,.slice A5 (limbs N5).length c5,.slice B5 (limbs D5).length d5],.bool inn,.bool inn,.int .i64 0])∧Own w' 153 w.heap.size A4 c4 (limbs N4)∧Own w' 153 w.heap.size B4 d4 (limbs D4)∧Own w' 153 w.heap.size A5 c5 (limbs N5)∧Own w' 153 w.heap.size B5 d5 (limbs D5)∧Below w.heap.size w w':=by
 have hge:decide (S≤b)=false:=by rw[decide_eq_false_iff_not];omega
 have hmi:(b:Int)%(S:Int)=(b:Int):=Int.emod_eq_of_lt (by omega) (by omega)
 have hmn:b%S=b:=Nat.mod_eq_of_lt hS
 have hsn:¬S=0:=by omega
 have hsi:((S:Int)==0)=false:=by rw[beq_eq_false_iff_ne];omega
 have hwr:IntKind.u64.wrap ((b:Int)-1)=(b:Int)-1:=by rw[IntKind.wrap_u64];omega
 have hp0:decide (0<b)=true:=by simpa using h0
 have hpz:((b:Int)==0)=false:=by rw[beq_eq_false_iff_ne];omega
 have hib:((b:Int)%2==0)=inn:=by rw[←hinn,Bool.eq_iff_iff,beq_iff_eq,decide_eq_true_iff];omega
 clear hS h0 hS64
 obtain⟨v0,hv0,ha0,k1⟩:=Blk.al w 23 #[.int .i64 (E:Int),.int .i64 (F:Int)]
 have hs0:v0.heap.size=w.heap.size+1:=by rw[hv0];simp
 have hb0:=ha0
 obtain⟨v1,hv1,ha1,k2⟩:=Blk.al v0 69 #[.bool false,.slice none 0 0,.slice none 0 0]
 have hs1:v1.heap.size=v0.heap.size+1:=by rw[hv1];simp
 replace k1:=k1.below ha1 k1.lt
 replace hb0:=hb0.trans (ha1.mono hb0.size)
 obtain⟨v2,hv2,ha2,k3⟩:=Blk.al v1 69 #[.bool false,.slice none 0 0,.slice none 0 0]
 have hs2:v2.heap.size=v1.heap.size+1:=by rw[hv2];simp
 replace k1:=k1.below ha2 k1.lt
 replace k2:=k2.below ha2 k2.lt
 replace hb0:=hb0.trans (ha2.mono hb0.size)
 rw[hs0] at k2
 rw[hs1,hs0] at k3
 simp only[Nat.add_assoc,Nat.reduceAdd] at k3
 go_enter Tryz.func27,Tryz.ntmps27
 go_upto_region 1 with fail
 rw[←hv0, ←hv1, ←hv2]
 clear hv0 hs0 ha0 hv1 hs1 ha1 hv2 hs2 ha2
 obtain⟨k1c0,k1c1,k1z,k1f0,k1f1⟩:=k1.b2
 obtain⟨k2c0,k2c1,k2c2,k2z,k2f0,k2f1,k2f2⟩:=k2.b3
 obtain⟨k3c0,k3c1,k3c2,k3z,k3f0,k3f1,k3f2⟩:=k3.b3
 go_wp2_with fail
 clear k1c0 k1f0 k1c1 k1f1 k2c0 k2f0 k2c1 k2f1 k2c2 k2f2 k3c0 k3f0 k3c1 k3f1 k3c2 k3f2 k1z k2z k3z
 refine(hFi _).mono ?_
 rintro e w1 ⟨rfl,hb1⟩
 replace k1:=k1.below hb1 k1.lt
 replace k2:=k2.below hb1 k2.lt
 replace k3:=k3.below hb1 k3.lt
 replace hb0:=hb0.trans (hb1.mono hb0.size)
 clear hb1
 obtain⟨k1c0,k1c1,k1z,k1f0,k1f1⟩:=k1.b2
 obtain⟨k2c0,k2c1,k2c2,k2z,k2f0,k2f1,k2f2⟩:=k2.b3
 obtain⟨k3c0,k3c1,k3c2,k3z,k3f0,k3f1,k3f2⟩:=k3.b3
 go_wp2_with fail
 clear k1c0 k1f0 k1c1 k1f1 k2c0 k2f0 k2c1 k2f1 k2c2 k2f2 k3c0 k3f0 k3c1 k3f1 k3c2 k3f2 k1z k2z k3z
 refine(hFn _).mono ?_
 rintro e w2 ⟨rfl,hb2⟩
 replace k1:=k1.below hb2 k1.lt
 replace k2:=k2.below hb2 k2.lt
 replace k3:=k3.below hb2 k3.lt
 replace hb0:=hb0.trans (hb2.mono hb0.size)
 clear hb2
 obtain⟨k1c0,k1c1,k1z,k1f0,k1f1⟩:=k1.b2
 obtain⟨k2c0,k2c1,k2c2,k2z,k2f0,k2f1,k2f2⟩:=k2.b3
 obtain⟨k3c0,k3c1,k3c2,k3z,k3f0,k3f1,k3f2⟩:=k3.b3
 go_wp2_with fail
 clear k1c0 k1f0 k1c1 k1f1 k2c0 k2f0 k2c1 k2f1 k2c2 k2f2 k3c0 k3f0 k3c1 k3f1 k3c2 k3f2 k1z k2z k3z
 refine(hHa _).mono ?_
 rintro e w3 ⟨rfl,hb3⟩
 replace k1:=k1.below hb3 k1.lt
 replace k2:=k2.below hb3 k2.lt
 replace k3:=k3.below hb3 k3.lt
 replace hb0:=hb0.trans (hb3.mono hb0.size)
 clear hb3
 obtain⟨k1c0,k1c1,k1z,k1f0,k1f1⟩:=k1.b2
 obtain⟨k2c0,k2c1,k2c2,k2z,k2f0,k2f1,k2f2⟩:=k2.b3
 obtain⟨k3c0,k3c1,k3c2,k3z,k3f0,k3f1,k3f2⟩:=k3.b3
 go_wp2_with fail
 clear k1c0 k1f0 k1c1 k1f1 k2c0 k2f0 k2c1 k2f1 k2c2 k2f2 k3c0 k3f0 k3c1 k3f1 k3c2 k3f2 k1z k2z k3z
 refine(hW1 _).mono ?_
 rintro e w4 ⟨A1,c1,rfl,own1,hb4⟩
 replace k1:=k1.below hb4 k1.lt
 replace k2:=k2.below hb4 k2.lt
 replace k3:=k3.below hb4 k3.lt
 replace hb0:=hb0.trans (hb4.mono hb0.size)
 clear hb4
 obtain⟨k1c0,k1c1,k1z,k1f0,k1f1⟩:=k1.b2
 obtain⟨k2c0,k2c1,k2c2,k2z,k2f0,k2f1,k2f2⟩:=k2.b3
 obtain⟨k3c0,k3c1,k3c2,k3z,k3f0,k3f1,k3f2⟩:=k3.b3
 go_wp2_with fail
 clear k1c0 k1f0 k1c1 k1f1 k2c0 k2f0 k2c1 k2f1 k2c2 k2f2 k3c0 k3f0 k3c1 k3f1 k3c2 k3f2 k1z k2z k3z
 obtain⟨xb1,hxxb1,hxb1,k4⟩:=Blk.al w4 117 #[.bool false,.slice A1 (limbs K1).length c1,.int .i64 X1]
 have lk4_k1:=k1.lt
 have lk4_k2:=k2.lt
 have lk4_k3:=k3.lt
 have zk4:=hb0.size
 rw[←hxxb1]
 clear hxxb1
 replace k1:=k1.below hxb1 k1.lt
 replace k2:=k2.below hxb1 k2.lt
 replace k3:=k3.below hxb1 k3.lt
 replace hb0:=hb0.trans (hxb1.mono hb0.size)
 replace own1:=own1.below hxb1 nrf
 clear hxb1
 obtain⟨g4,hg4⟩:∃zz:Nat,zz=w4.heap.size:=⟨_,rfl⟩
 rw[←hg4] at k4 zk4 lk4_k1 lk4_k2 lk4_k3 ⊢
 clear hg4
 refine(hBe _).mono ?_
 rintro e w5 ⟨A2,c2,rfl,own2,hb5⟩
 replace k1:=k1.below hb5 k1.lt
 replace k2:=k2.below hb5 k2.lt
 replace k3:=k3.below hb5 k3.lt
 replace k4:=k4.below hb5 k4.lt
 replace hb0:=hb0.trans (hb5.mono hb0.size)
 replace own1:=own1.below hb5 nrf
 clear hb5
 go_upto_region 11 with fail
 obtain⟨xb2,hxxb2,hxb2,k5⟩:=Blk.al w5 117 #[.bool false,.slice A2 (limbs K2).length c2,.int .i64 X2]
 have lk5_k1:=k1.lt
 have lk5_k2:=k2.lt
 have lk5_k3:=k3.lt
 have lk5_k4:=k4.lt
 have zk5:=hb0.size
 rw[←hxxb2]
 clear hxxb2
 replace k1:=k1.below hxb2 k1.lt
 replace k2:=k2.below hxb2 k2.lt
 replace k3:=k3.below hxb2 k3.lt
 replace k4:=k4.below hxb2 k4.lt
 replace hb0:=hb0.trans (hxb2.mono hb0.size)
 replace own1:=own1.below hxb2 nrf
 replace own2:=own2.below hxb2 nrf
 clear hxb2
 obtain⟨g5,hg5⟩:∃zz:Nat,zz=w5.heap.size:=⟨_,rfl⟩
 rw[←hg5] at k5 zk5 lk5_k1 lk5_k2 lk5_k3 lk5_k4 ⊢
 clear hg5
 obtain⟨k4c0,k4c1,k4c2,k4z,k4f0,k4f1,k4f2⟩:=k4.b3
 go_upto_region 12 with fail
 clear k4c0 k4f0 k4c1 k4f1 k4c2 k4f2 k4z
 obtain⟨xb3,hxxb3,hxb3,k6⟩:=Blk.al xb2 117 #[.bool false,.slice A1 (limbs K1).length c1,.int .i64 X1]
 have lk6_k1:=k1.lt
 have lk6_k2:=k2.lt
 have lk6_k3:=k3.lt
 have lk6_k4:=k4.lt
 have lk6_k5:=k5.lt
 have zk6:=hb0.size
 rw[←hxxb3]
 clear hxxb3
 replace k1:=k1.below hxb3 k1.lt
 replace k2:=k2.below hxb3 k2.lt
 replace k3:=k3.below hxb3 k3.lt
 replace k4:=k4.below hxb3 k4.lt
 replace k5:=k5.below hxb3 k5.lt
 replace hb0:=hb0.trans (hxb3.mono hb0.size)
 replace own1:=own1.below hxb3 nrf
 replace own2:=own2.below hxb3 nrf
 clear hxb3
 obtain⟨g6,hg6⟩:∃zz:Nat,zz=xb2.heap.size:=⟨_,rfl⟩
 rw[←hg6] at k6 zk6 lk6_k1 lk6_k2 lk6_k3 lk6_k4 lk6_k5 ⊢
 clear hg6
 obtain⟨k1c0,k1c1,k1z,k1f0,k1f1⟩:=k1.b2
 go_wp2_with fail
 clear k1c0 k1f0 k1c1 k1f1 k1z
 refine(hHa _).mono ?_
 rintro e w6 ⟨rfl,hb6⟩
 replace k1:=k1.below hb6 k1.lt
 replace k2:=k2.below hb6 k2.lt
 replace k3:=k3.below hb6 k3.lt
 replace k4:=k4.below hb6 k4.lt
 replace k5:=k5.below hb6 k5.lt
 replace k6:=k6.below hb6 k6.lt
 replace hb0:=hb0.trans (hb6.mono hb0.size)
 replace own1:=own1.below hb6 nrf
 replace own2:=own2.below hb6 nrf
 clear hb6
 obtain⟨k1c0,k1c1,k1z,k1f0,k1f1⟩:=k1.b2
 go_wp2_with fail
 clear k1c0 k1f0 k1c1 k1f1 k1z
 refine(hW3 _).mono ?_
 rintro e w7 ⟨A3,c3,rfl,own3,hb7⟩
 replace k1:=k1.below hb7 k1.lt
 replace k2:=k2.below hb7 k2.lt
 replace k3:=k3.below hb7 k3.lt
 replace k4:=k4.below hb7 k4.lt
 replace k5:=k5.below hb7 k5.lt
 replace k6:=k6.below hb7 k6.lt
 replace hb0:=hb0.trans (hb7.mono hb0.size)
 replace own1:=own1.below hb7 nrf
 replace own2:=own2.below hb7 nrf
 clear hb7
 obtain⟨k6c0,k6c1,k6c2,k6z,k6f0,k6f1,k6f2⟩:=k6.b3
 go_upto_region 14 with fail
 clear k6c0 k6f0 k6c1 k6f1 k6c2 k6f2 k6z
 have hs6:Below g6 w7 (((w7.setCell ⟨g6,0,none⟩ (.bool false)).setCell ⟨g6,1,none⟩ (.slice A3 (limbs K3).length c3)).setCell ⟨g6,2,none⟩ (.int .i64 X3)):=(((Below.refl _ _).setCell (p:=⟨g6,0,none⟩) nrf _).setCell (p:=⟨g6,1,none⟩) nrf _).setCell (p:=⟨g6,2,none⟩) nrf _
 have k6n:Blk (((w7.setCell ⟨g6,0,none⟩ (.bool false)).setCell ⟨g6,1,none⟩ (.slice A3 (limbs K3).length c3)).setCell ⟨g6,2,none⟩ (.int .i64 X3)) g6 117 #[.bool false,.slice A3 (limbs K3).length c3,.int .i64 X3]:=by
  have:=((k6.set_ 0 (.bool false)).set_ 1 (.slice A3 (limbs K3).length c3)).set_ 2 (.int .i64 X3)
  simpa using this
 have own1n:=(((own1.setT (p:=⟨g6,0,none⟩) k6 (by decide) (.bool false)).setT (p:=⟨g6,1,none⟩) (k6.set_ 0 _) (by decide) (.slice A3 (limbs K3).length c3)).setT (p:=⟨g6,2,none⟩) ((k6.set_ 0 _).set_ 1 _) (by decide) (.int .i64 X3))
 have own2n:=(((own2.setT (p:=⟨g6,0,none⟩) k6 (by decide) (.bool false)).setT (p:=⟨g6,1,none⟩) (k6.set_ 0 _) (by decide) (.slice A3 (limbs K3).length c3)).setT (p:=⟨g6,2,none⟩) ((k6.set_ 0 _).set_ 1 _) (by decide) (.int .i64 X3))
 have own3n:=(((own3.setT (p:=⟨g6,0,none⟩) k6 (by decide) (.bool false)).setT (p:=⟨g6,1,none⟩) (k6.set_ 0 _) (by decide) (.slice A3 (limbs K3).length c3)).setT (p:=⟨g6,2,none⟩) ((k6.set_ 0 _).set_ 1 _) (by decide) (.int .i64 X3))
 obtain⟨x7,hxx7⟩:∃zz:World,zz=(((w7.setCell ⟨g6,0,none⟩ (.bool false)).setCell ⟨g6,1,none⟩ (.slice A3 (limbs K3).length c3)).setCell ⟨g6,2,none⟩ (.int .i64 X3)):=⟨_,rfl⟩
 rw[←hxx7] at hs6 k6n own1n own2n own3n ⊢
 clear hxx7
 replace hb0:=hb0.trans (hs6.mono zk6)
 replace k1:=k1.below hs6 lk6_k1
 replace k2:=k2.below hs6 lk6_k2
 replace k3:=k3.below hs6 lk6_k3
 replace k4:=k4.below hs6 lk6_k4
 replace k5:=k5.below hs6 lk6_k5
 clear k6 own1 own2 own3 hs6
 have k6:=k6n
 have own1:=own1n
 have own2:=own2n
 have own3:=own3n
 clear k6n own1n own2n own3n
 obtain⟨k4c0,k4c1,k4c2,k4z,k4f0,k4f1,k4f2⟩:=k4.b3
 obtain⟨k6c0,k6c1,k6c2,k6z,k6f0,k6f1,k6f2⟩:=k6.b3
 go_wp2_with fail
 clear k4c0 k4f0 k4c1 k4f1 k4c2 k4f2 k6c0 k6f0 k6c1 k6f1 k6c2 k6f2 k4z k6z
 refine(hM4 A3 A1 c3 c1 _ own3.rd own1.rd).mono ?_
 rintro e w8 ⟨A4,c4,rfl,own4,hb8⟩
 replace k1:=k1.below hb8 k1.lt
 replace k2:=k2.below hb8 k2.lt
 replace k3:=k3.below hb8 k3.lt
 replace k4:=k4.below hb8 k4.lt
 replace k5:=k5.below hb8 k5.lt
 replace k6:=k6.below hb8 k6.lt
 replace hb0:=hb0.trans (hb8.mono hb0.size)
 replace own1:=own1.below hb8 nrf
 replace own2:=own2.below hb8 nrf
 replace own3:=own3.below hb8 nrf
 clear hb8
 go_upto_region 21 with fail
 obtain⟨xb4,hxxb4,hxb4,k7⟩:=Blk.al w8 117 #[.bool false,.slice A4 (limbs K4).length c4,.int .i64 X4]
 have lk7_k1:=k1.lt
 have lk7_k2:=k2.lt
 have lk7_k3:=k3.lt
 have lk7_k4:=k4.lt
 have lk7_k5:=k5.lt
 have lk7_k6:=k6.lt
 have zk7:=hb0.size
 rw[←hxxb4]
 clear hxxb4
 replace k1:=k1.below hxb4 k1.lt
 replace k2:=k2.below hxb4 k2.lt
 replace k3:=k3.below hxb4 k3.lt
 replace k4:=k4.below hxb4 k4.lt
 replace k5:=k5.below hxb4 k5.lt
 replace k6:=k6.below hxb4 k6.lt
 replace hb0:=hb0.trans (hxb4.mono hb0.size)
 replace own1:=own1.below hxb4 nrf
 replace own2:=own2.below hxb4 nrf
 replace own3:=own3.below hxb4 nrf
 replace own4:=own4.below hxb4 nrf
 clear hxb4
 obtain⟨g7,hg7⟩:∃zz:Nat,zz=w8.heap.size:=⟨_,rfl⟩
 rw[←hg7] at k7 zk7 lk7_k1 lk7_k2 lk7_k3 lk7_k4 lk7_k5 lk7_k6 ⊢
 clear hg7
 obtain⟨k4c0,k4c1,k4c2,k4z,k4f0,k4f1,k4f2⟩:=k4.b3
 obtain⟨k5c0,k5c1,k5c2,k5z,k5f0,k5f1,k5f2⟩:=k5.b3
 go_wp2_with fail
 clear k4c0 k4f0 k4c1 k4f1 k4c2 k4f2 k5c0 k5f0 k5c1 k5f1 k5c2 k5f2 k4z k5z
 refine(hM5 A1 A2 c1 c2 _ own1.rd own2.rd).mono ?_
 rintro e w9 ⟨A5,c5,rfl,own5,hb9⟩
 replace k1:=k1.below hb9 k1.lt
 replace k2:=k2.below hb9 k2.lt
 replace k3:=k3.below hb9 k3.lt
 replace k4:=k4.below hb9 k4.lt
 replace k5:=k5.below hb9 k5.lt
 replace k6:=k6.below hb9 k6.lt
 replace k7:=k7.below hb9 k7.lt
 replace hb0:=hb0.trans (hb9.mono hb0.size)
 replace own1:=own1.below hb9 nrf
 replace own2:=own2.below hb9 nrf
 replace own3:=own3.below hb9 nrf
 replace own4:=own4.below hb9 nrf
 clear hb9
 go_upto_region 22 with fail
 obtain⟨xb5,hxxb5,hxb5,k8⟩:=Blk.al w9 117 #[.bool false,.slice A5 (limbs K5).length c5,.int .i64 X5]
 have lk8_k1:=k1.lt
 have lk8_k2:=k2.lt
 have lk8_k3:=k3.lt
 have lk8_k4:=k4.lt
 have lk8_k5:=k5.lt
 have lk8_k6:=k6.lt
 have lk8_k7:=k7.lt
 have zk8:=hb0.size
 rw[←hxxb5]
 clear hxxb5
 replace k1:=k1.below hxb5 k1.lt
 replace k2:=k2.below hxb5 k2.lt
 replace k3:=k3.below hxb5 k3.lt
 replace k4:=k4.below hxb5 k4.lt
 replace k5:=k5.below hxb5 k5.lt
 replace k6:=k6.below hxb5 k6.lt
 replace k7:=k7.below hxb5 k7.lt
 replace hb0:=hb0.trans (hxb5.mono hb0.size)
 replace own1:=own1.below hxb5 nrf
 replace own2:=own2.below hxb5 nrf
 replace own3:=own3.below hxb5 nrf
 replace own4:=own4.below hxb5 nrf
 replace own5:=own5.below hxb5 nrf
 clear hxb5
 obtain⟨g8,hg8⟩:∃zz:Nat,zz=w9.heap.size:=⟨_,rfl⟩
 rw[←hg8] at k8 zk8 lk8_k1 lk8_k2 lk8_k3 lk8_k4 lk8_k5 lk8_k6 lk8_k7 ⊢
 clear hg8
 obtain⟨k1c0,k1c1,k1z,k1f0,k1f1⟩:=k1.b2
 go_wp2_with fail
 clear k1c0 k1f0 k1c1 k1f1 k1z
 refine(hHa _).mono ?_
 rintro e w10 ⟨rfl,hb10⟩
 replace k1:=k1.below hb10 k1.lt
 replace k2:=k2.below hb10 k2.lt
 replace k3:=k3.below hb10 k3.lt
 replace k4:=k4.below hb10 k4.lt
 replace k5:=k5.below hb10 k5.lt
 replace k6:=k6.below hb10 k6.lt
 replace k7:=k7.below hb10 k7.lt
 replace k8:=k8.below hb10 k8.lt
 replace hb0:=hb0.trans (hb10.mono hb0.size)
 replace own1:=own1.below hb10 nrf
 replace own2:=own2.below hb10 nrf
 replace own3:=own3.below hb10 nrf
 replace own4:=own4.below hb10 nrf
 replace own5:=own5.below hb10 nrf
 clear hb10
 go_upto_region 42 with fail
 obtain⟨s0,s1,s2, -⟩:=k7.b3
 obtain⟨t0,t1,t2, -⟩:=k8.b3
 have bz:Below w10.heap.size w10 w10.drew:=Below.drew (Below.refl _ _)
 have rd4:Rd w10.drew A4 (limbs K4):=own4.rd
 have z2:=k2.lt
 replace k3:Blk w10 (w.heap.size+1+1) 69 #[.bool false,.slice none 0 0,.slice none 0 0]:=k3
 have z3:=k3.lt
 clear k1 k4 k5 k6 own1 own2 own3 hFi hFn hHa hW1 hBe hW3 hM4 hM5
 have lA:w.heap.size+1<g7:=lk7_k2
 have lB:w.heap.size+1+1<g7:=lk7_k3
 have lC:w.heap.size+1<g8:=lk8_k2
 have lD:w.heap.size+1+1<g8:=lk8_k3
 clear lk4_k1 lk4_k2 lk4_k3 lk5_k1 lk5_k2 lk5_k3 lk5_k4 lk6_k1 lk6_k2 lk6_k3 lk6_k4 lk6_k5 lk7_k1 lk7_k2 lk7_k3 lk7_k4 lk7_k5 lk7_k6 lk8_k1 lk8_k2 lk8_k3 lk8_k4 lk8_k5 lk8_k6 lk8_k7 zk4 zk5 zk6 zk7 zk8
 refine region_until 10 (fun w'=>w'.cell? ⟨g7,0,none⟩=some (.bool false)∧w'.cell? ⟨g7,1,none⟩=some (.slice A4 (limbs K4).length c4)∧w'.cell? ⟨g7,2,none⟩=some (.int .i64 X4)∧w'.cell? ⟨g8,0,none⟩=some (.bool false)∧w'.cell? ⟨g8,1,none⟩=some (.slice A5 (limbs K5).length c5)∧w'.cell? ⟨g8,2,none⟩=some (.int .i64 X5)) (by kernel_rfl) ?_
 have hS:w10.drew.cell? ⟨g7,0,none⟩=some (.bool false)∧w10.drew.cell? ⟨g7,1,none⟩=some (.slice A4 (limbs K4).length c4)∧w10.drew.cell? ⟨g7,2,none⟩=some (.int .i64 X4)∧w10.drew.cell? ⟨g8,0,none⟩=some (.bool false)∧w10.drew.cell? ⟨g8,1,none⟩=some (.slice A5 (limbs K5).length c5)∧w10.drew.cell? ⟨g8,2,none⟩=some (.int .i64 X5):=⟨cell_keep bz s0,cell_keep bz s1,cell_keep bz s2,cell_keep bz t0,cell_keep bz t1,cell_keep bz t2⟩
 refine Until.tk (i:=0) (v:=?_) rfl hS (.inl ⟨by rfl,?_⟩) ?_
 rotate_left
 · (intro w hSw;(try dsimp only at hSw);go_simp;try with_reducible rfl)
 simp only[Act.put,setP]
 refine Until.tk (i:=2) (v:=?_) rfl hS (.inl ⟨by rfl,?_⟩) ?_
 rotate_left
 · (intro w hSw;(try dsimp only at hSw);go_simp;try with_reducible rfl)
 simp only[Act.put,setP]
 refine Until.tk (i:=4) (v:=?_) rfl hS (.inl ⟨by rfl,?_⟩) ?_
 rotate_left
 · (intro w hSw;(try dsimp only at hSw);go_simp;try with_reducible rfl)
 simp only[Act.put,setP]
 refine Until.tk (i:=5) (v:=?_) rfl hS (.inl ⟨by rfl,?_⟩) ?_
 rotate_left
 · (intro w hSw;(try dsimp only at hSw);go_simp;try with_reducible rfl)
 simp only[Act.put,setP]
 refine Until.one (c:=1) (by kernel_rfl) rfl (by rfl) (fun K hK=>?_)
 go_simp
 refine(hR4 A4 c4 _ rd4).mono ?_
 rintro r wa ⟨P4,p4,Q4,q4,rfl,o4,o4b,ba'⟩
 have ba:Below w10.heap.size w10 wa:=bz.trans ba'
 dsimp only
 replace hS:wa.cell? ⟨g7,0,none⟩=some (.bool false)∧wa.cell? ⟨g7,1,none⟩=some (.slice A4 (limbs K4).length c4)∧wa.cell? ⟨g7,2,none⟩=some (.int .i64 X4)∧wa.cell? ⟨g8,0,none⟩=some (.bool false)∧wa.cell? ⟨g8,1,none⟩=some (.slice A5 (limbs K5).length c5)∧wa.cell? ⟨g8,2,none⟩=some (.int .i64 X5):=⟨cell_keep ba s0,cell_keep ba s1,cell_keep ba s2,cell_keep ba t0,cell_keep ba t1,cell_keep ba t2⟩
 refine hK.out _ _ (.inr hS) ?_
 clear hK K
 refine Until.one (c:=3) (by kernel_rfl) rfl (by rfl) (fun K hK=>?_)
 go_simp
 refine(hR5 A5 c5 _ (own5.below ba nrf).rd).mono ?_
 rintro r wb ⟨P5,p5,Q5,q5,rfl,o5,o5b,bb⟩
 have bc:Below w10.heap.size w10 wb:=ba.trans (bb.mono ba.size)
 dsimp only
 replace hS:wb.cell? ⟨g7,0,none⟩=some (.bool false)∧wb.cell? ⟨g7,1,none⟩=some (.slice A4 (limbs K4).length c4)∧wb.cell? ⟨g7,2,none⟩=some (.int .i64 X4)∧wb.cell? ⟨g8,0,none⟩=some (.bool false)∧wb.cell? ⟨g8,1,none⟩=some (.slice A5 (limbs K5).length c5)∧wb.cell? ⟨g8,2,none⟩=some (.int .i64 X5):=⟨cell_keep bc s0,cell_keep bc s1,cell_keep bc s2,cell_keep bc t0,cell_keep bc t1,cell_keep bc t2⟩
 refine hK.out _ _ (.inr hS) ?_
 clear hK K s0 s1 s2 t0 t1 t2
 have n4:=o4.below bb nrf
 have n4b:=o4b.below bb nrf
 have m2:=k2.below bc z2
 have m3:=k3.below bc z3
 obtain⟨m2c0,m2c1,m2c2,m2z,m2f0,m2f1,m2f2⟩:=m2.b3
 obtain⟨m3c0,m3c1,m3c2,m3z,m3f0,m3f1,m3f2⟩:=m3.b3
 obtain⟨b0,b1,b2,b3,b4,b5⟩:=hS
 refine Until.one (c:=6) (by kernel_rfl) rfl (by rfl) (fun K hK=>?_)
 go_simp
 refine hK.out _ _ (.inr ⟨set_keep3 lA b0,set_keep3 lA b1,set_keep3 lA b2,set_keep3 lC b3,set_keep3 lC b4,set_keep3 lC b5⟩) ?_
 clear hK K
 refine Until.one (c:=7) (by kernel_rfl) rfl (by rfl) (fun K hK=>?_)
 go_simp
 refine hK.out _ _ (.inr ⟨set_keep3 lB (set_keep3 lA b0),set_keep3 lB (set_keep3 lA b1),set_keep3 lB (set_keep3 lA b2),set_keep3 lD (set_keep3 lC b3),set_keep3 lD (set_keep3 lC b4),set_keep3 lD (set_keep3 lC b5)⟩) ?_
 clear hK K
 refine Until.one (c:=8) (by kernel_rfl) rfl (by rfl) (fun K hK=>?_)
 go_simp
 refine hK.out _ _ (.inr ⟨set_keep3 lB (set_keep3 lA b0),set_keep3 lB (set_keep3 lA b1),set_keep3 lB (set_keep3 lA b2),set_keep3 lD (set_keep3 lC b3),set_keep3 lD (set_keep3 lC b4),set_keep3 lD (set_keep3 lC b5)⟩) ?_
 clear hK K
 refine Until.one (c:=9) (by kernel_rfl) rfl (by rfl) (fun K hK=>?_)
 go_simp
 refine hK.out _ _ (.inr ⟨set_keep3 lB (set_keep3 lA b0),set_keep3 lB (set_keep3 lA b1),set_keep3 lB (set_keep3 lA b2),set_keep3 lD (set_keep3 lC b3),set_keep3 lD (set_keep3 lC b4),set_keep3 lD (set_keep3 lC b5)⟩) ?_
 clear hK K
 refine Until.one (c:=10) (by kernel_rfl) rfl (by rfl) (fun K hK=>?_)
 go_simp
 refine hK.out _ _ (.inl (by kernel_rfl)) ?_
 clear hK K
 refine Until.done (by kernel_rfl) ?_ _
 all_goals (
  rename_i KE aE
  refine aE _ _ (wp_ret ?_)
  have zb:=bz.size
  have za:=ba.size
  have hlt2:w.heap.size+1<wa.heap.size:=Nat.lt_of_lt_of_le z2 za
  have hlt3:w.heap.size+1+1<wa.heap.size:=Nat.lt_of_lt_of_le z3 za
  refine bodyPost_ret (v:=.tuple #[.agg #[.bool false,.slice P4 (limbs N4).length p4,.slice Q4 (limbs D4).length q4],.agg #[.bool false,.slice P5 (limbs N5).length p5,.slice Q5 (limbs D5).length q5],.bool inn,.bool inn,.int .i64 0]) ?_ rfl ⟨P4,p4,Q4,q4,P5,p5,Q5,q5,rfl,((((((n4.setCell (p:=⟨w.heap.size+1,0,none⟩) (z2) _).setCell (p:=⟨w.heap.size+1,1,none⟩) (z2) _).setCell (p:=⟨w.heap.size+1,2,none⟩) (z2) _).setCell (p:=⟨w.heap.size+1+1,0,none⟩) (z3) _).setCell (p:=⟨w.heap.size+1+1,1,none⟩) (z3) _).setCell (p:=⟨w.heap.size+1+1,2,none⟩) (z3) _).mono hb0.size,((((((n4b.setCell (p:=⟨w.heap.size+1,0,none⟩) (z2) _).setCell (p:=⟨w.heap.size+1,1,none⟩) (z2) _).setCell (p:=⟨w.heap.size+1,2,none⟩) (z2) _).setCell (p:=⟨w.heap.size+1+1,0,none⟩) (z3) _).setCell (p:=⟨w.heap.size+1+1,1,none⟩) (z3) _).setCell (p:=⟨w.heap.size+1+1,2,none⟩) (z3) _).mono hb0.size,((((((o5.setCell (p:=⟨w.heap.size+1,0,none⟩) (hlt2) _).setCell (p:=⟨w.heap.size+1,1,none⟩) (hlt2) _).setCell (p:=⟨w.heap.size+1,2,none⟩) (hlt2) _).setCell (p:=⟨w.heap.size+1+1,0,none⟩) (hlt3) _).setCell (p:=⟨w.heap.size+1+1,1,none⟩) (hlt3) _).setCell (p:=⟨w.heap.size+1+1,2,none⟩) (hlt3) _).mono (Nat.le_trans hb0.size za),((((((o5b.setCell (p:=⟨w.heap.size+1,0,none⟩) (hlt2) _).setCell (p:=⟨w.heap.size+1,1,none⟩) (hlt2) _).setCell (p:=⟨w.heap.size+1,2,none⟩) (hlt2) _).setCell (p:=⟨w.heap.size+1+1,0,none⟩) (hlt3) _).setCell (p:=⟨w.heap.size+1+1,1,none⟩) (hlt3) _).setCell (p:=⟨w.heap.size+1+1,2,none⟩) (hlt3) _).mono (Nat.le_trans hb0.size za),(((((((hb0.trans (bc.mono hb0.size)).setCell (p:=⟨w.heap.size+1,0,none⟩) (by show w.heap.size≤w.heap.size+1;omega) _).setCell (p:=⟨w.heap.size+1,1,none⟩) (by show w.heap.size≤w.heap.size+1;omega) _).setCell (p:=⟨w.heap.size+1,2,none⟩) (by show w.heap.size≤w.heap.size+1;omega) _).setCell (p:=⟨w.heap.size+1+1,0,none⟩) (by show w.heap.size≤w.heap.size+1+1;omega) _).setCell (p:=⟨w.heap.size+1+1,1,none⟩) (by show w.heap.size≤w.heap.size+1+1;omega) _).setCell (p:=⟨w.heap.size+1+1,2,none⟩) (by show w.heap.size≤w.heap.size+1+1;omega) _)⟩
  refine results_reach rfl _ _ (w.heap.size+1) (w.heap.size+1+1) _ _ _ _ _ _ _ _ _ _ _ ?_ ?_ ?_ ?_ ?_ ((((((m2.set_ 0 _).set_ 1 _).set_ 2 _).far (p:=⟨w.heap.size+1+1,0,none⟩) (by show w.heap.size+1≠w.heap.size+1+1;omega) _).far (p:=⟨w.heap.size+1+1,1,none⟩) (by show w.heap.size+1≠w.heap.size+1+1;omega) _).far (p:=⟨w.heap.size+1+1,2,none⟩) (by show w.heap.size+1≠w.heap.size+1+1;omega) _) ((((((m3.far (p:=⟨w.heap.size+1,0,none⟩) (by show w.heap.size+1+1≠w.heap.size+1;omega) _).far (p:=⟨w.heap.size+1,1,none⟩) (by show w.heap.size+1+1≠w.heap.size+1;omega) _).far (p:=⟨w.heap.size+1,2,none⟩) (by show w.heap.size+1+1≠w.heap.size+1;omega) _).set_ 0 _).set_ 1 _).set_ 2 _) Tryz.underlying69 rfl (by kernel_rfl) Tryz.underlying69 rfl (by kernel_rfl)
  · rfl
  · rfl
  · rfl
  · rfl
  · rfl)
end Bg
end Go.Proofs.YtenekbfnlbipiaaGreatDoor
