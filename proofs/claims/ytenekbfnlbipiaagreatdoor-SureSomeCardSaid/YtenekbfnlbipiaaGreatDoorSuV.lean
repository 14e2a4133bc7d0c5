/- Walk: so many digits by 128 bits. -/
import Derived.Test.YtenekbfnlbipiaaGreatDoorSuN
import Derived.Test.YtenekbfnlbipiaaGreatDoorSuS
import Derived.Test.YtenekbfnlbipiaaGreatDoorBgAL
import Derived.Laws.Cover2
import Derived.Test.YtenekbfnlbipiaaGreatDoorRows
import Derived.ProofKit
import Derived.OpenShut
import Derived.ShutString
import Derived.ChangeOld
import Derived.SizedLaws
import Derived.Below
import Derived.LaidMore
import Derived.Lay
import Derived.Lib.SmallJoins
import Derived.Lib.LaidTab
import Derived.Stop.Joined
import Derived.Stop.LaidErr
namespace Go.Proofs.YtenekbfnlbipiaaGreatDoor
open Go.RowKit
set_option linter.unusedVariables false
set_option linter.unusedSimpArgs false
set_option maxHeartbeats 4000000
set_option maxRecDepth 100000

theorem sure_some (e f:Int) (b:Nat) (ng st:Bool) (m:Nat) (q P:Int) (n:Nat)
 (hO:∀W,Calls Tryz.prog 10 #[.agg #[.int .i64 e,.int .i64 f],.int .u64 (b:Int)] W (Says W (.tuple #[.agg #[.bool ng,.int .u64 (m:Int),.int .i64 q,.bool st],.bool true,.agg #[.bool false,.string ⟨#[]⟩,.int .i64 0],.int .i64 0])))
 (h0:m≠0) (hm:m<9007199254740992) (hq1: -1074≤q) (hq2:q≤1022) (hP:IsFirst m q P) (hP1: -350≤P) (hP2:P<350) (hn1:1≤n) (hn2:n≤17) (w:World) (hT:Tab5 w) (hU:TabU w):
 Calls Tryz.prog 6 #[.agg #[.int .i64 e,.int .i64 f],.int .u64 (b:Int),.int .i64 (n:Int)] w (Says w (match someS m q P n with
  |none=>.tuple #[.agg #[.bool false,.string ⟨#[]⟩,.int .i64 0],.bool false,.int .i64 0]
  |some x=>.tuple #[.agg #[.bool ng,.string ⟨(mkD (Lib.decDigits x) (P+1-n)).1.toArray⟩,.int .i64 (mkD (Lib.decDigits x) (P+1-n)).2],.bool true,.int .i64 0])):=by
 have hf:farB (kS P n)=false:=by unfold kS;simp only[farB,Bool.or_eq_false_iff,decide_eq_false_iff_not];omega
 have hks: -(P+1-(n:Int))=kS P n:=by unfold kS;omega
 have hAt:=fun W hT=>sure_at P n (P+1-n) (by omega) (by omega) (by omega) (by omega) rfl (by rw[hks];exact hf) W hT
 rw[hks] at hAt
 have hXb: -2000≤tenE (kS P n)∧tenE (kS P n)≤2000:=by
  have:=tS_le hf
  unfold tenE
  simp only[farB,Bool.or_eq_false_iff,decide_eq_false_iff_not] at hf
  split <;> omega
 obtain⟨N,hN,n1,n2,hall⟩:=scale_ok h0 hm hP hn1 hn2 (k:=kS P n) rfl hf
 have hNS:NS q P n=N:=by unfold NS;rw[hN,Int.toNat_natCast]
 have e256:(2:Nat)^192≤2^256:=Nat.pow_le_pow_right (by decide) (by decide)
 have hT1:tenN (kS P n)<2^256:=Nat.lt_of_lt_of_le (tenN_bd hf).2 (Nat.pow_le_pow_right (by decide) (by decide))
 have hT2:kB (kS P n)<2^256:=by
  have h1:=(tenN_bd hf).2
  have h2:kB (kS P n)≤tenN (kS P n)+1:=by unfold kB;split <;> omega
  have h3:(2:Nat)^128<2^256:=Nat.pow_lt_pow_right (by decide) (by decide)
  omega
 obtain⟨a1,a2,a3,a4,a5,a6⟩:=hall (4*m) (by omega) (by omega)
 have hSda:=fun W=>sure_side ng st m (4*m) (tenN (kS P n)) (kB (kS P n)) q (tenE (kS P n)) (P+1-n) 0 (by omega) (by omega) (by omega) (by omega) (by omega) (by omega) (by omega) hT1 hT2 (Nat.lt_of_lt_of_le a1 e256) (Nat.lt_of_lt_of_le a2 e256) W
 rw[hN] at hSda
 have hq60:(2:Nat)^60=1152921504606846976:=rfl
 have hNr:=fun W=>sure_nearest (tenN (kS P n)*(4*m)) (kB (kS P n)*(4*m)) N a1 a2 n1 n2 (by rw[hq60] at a3;omega) (by rw[hq60] at a4;omega) W
 have hnl:=near_lt a3
 unfold someS
 rw[hNS]
 show Calls _ _ _ _ (Says w (match (if nearS (tenN (kS P n)*(4*m)) N=nearS (kB (kS P n)*(4*m)) N then some (nearS (tenN (kS P n)*(4*m)) N) else none) with|none=>_|some x=>_))
 have hFi:=fun W hT=>sure_first ng st m q P h0 hm hq1 hq2 hP hP1 hP2 W hT
 have hDc:=fun W hU=>sure_decimal ng st m (nearS (tenN (kS P n)*(4*m)) N) q (P+1-n) (by omega) (by omega) (by omega) W hU
 generalize nearS (tenN (kS P n)*(4*m)) N=R1 at*
 generalize nearS (kB (kS P n)*(4*m)) N=R2 at*
 obtain⟨x0,x1,x2,x3,hx⟩:∃a b c d:Nat,W4 (tenN (kS P n))=#[.int .u64 (a:Int),.int .u64 (b:Int),.int .u64 (c:Int),.int .u64 (d:Int)]:=⟨_,_,_,_,rfl⟩
 obtain⟨y0,y1,y2,y3,hy⟩:∃a b c d:Nat,W4 (kB (kS P n))=#[.int .u64 (a:Int),.int .u64 (b:Int),.int .u64 (c:Int),.int .u64 (d:Int)]:=⟨_,_,_,_,rfl⟩
 obtain⟨p0,p1,p2,p3,hp⟩:∃a b c d:Nat,W4 (tenN (kS P n)*(4*m))=#[.int .u64 (a:Int),.int .u64 (b:Int),.int .u64 (c:Int),.int .u64 (d:Int)]:=⟨_,_,_,_,rfl⟩
 obtain⟨r0,r1,r2,r3,hr⟩:∃a b c d:Nat,W4 (kB (kS P n)*(4*m))=#[.int .u64 (a:Int),.int .u64 (b:Int),.int .u64 (c:Int),.int .u64 (d:Int)]:=⟨_,_,_,_,rfl⟩
 rw[hx,hy] at hAt hSda
 rw[hp,hr] at hSda hNr
 clear hx hy hp hr hN hNS hall hT1 hT2 e256 a1 a2 a3 a4 a5 a6 hf hks hq60 n1 n2 hnl
 generalize tenE (kS P n)=X at*
 clear hXb
 replace hAt:∀(W:World),Tab5 W→Calls Tryz.prog 12 #[.int .i64 P,.int .i64 (n:Int)] W (Says W (.tuple #[.agg #[.int .u64 (x0:Int),.int .u64 (x1:Int),.int .u64 (x2:Int),.int .u64 (x3:Int),.int .u64 (y0:Int),.int .u64 (y1:Int),.int .u64 (y2:Int),.int .u64 (y3:Int),.int .i64 X,.int .i64 (P+1-n)],.int .i64 0])):=hAt
 replace hSda:∀(W:World),Calls Tryz.prog 13 #[.agg #[.bool ng,.int .u64 (m:Int),.int .i64 q,.bool st],.agg #[.int .u64 (x0:Int),.int .u64 (x1:Int),.int .u64 (x2:Int),.int .u64 (x3:Int),.int .u64 (y0:Int),.int .u64 (y1:Int),.int .u64 (y2:Int),.int .u64 (y3:Int),.int .i64 X,.int .i64 (P+1-n)],.int .i64 0] W (Says W (.tuple #[.agg #[.int .u64 (p0:Int),.int .u64 (p1:Int),.int .u64 (p2:Int),.int .u64 (p3:Int)],.agg #[.int .u64 (r0:Int),.int .u64 (r1:Int),.int .u64 (r2:Int),.int .u64 (r3:Int)],.int .i64 (N:Int)])):=hSda
 have HP:=Lib.hid hP
 have g1:decide ((n:Int)<1)=false:=by simp;omega
 have g2:decide ((17:Int)<(n:Int))=false:=by simp;omega
 have g3:(n:Int)≠0:=by omega
 clear hP
 by_cases hR:R1=R2
 · rw[if_pos hR]
   rw[decide_eq_true hR] at hNr
   clear hR
   have hb0:Below w.heap.size w w:=Below.refl _ _
   go_enter Tryz.func6,Tryz.ntmps6
   go_upto_region 1 with fail
   obtain⟨v1,E_,hv1,k1,k2⟩:=Blk.a2 w 23 #[.int .i64 e,.int .i64 f] 26 #[.bool false,.string ⟨#[]⟩,.int .i64 0]
   replace hb0:=hb0.trans (hv1.mono hb0.size)
   replace hT:=hT.below hv1
   replace hU:=hU.below hv1
   rw[E_]
   clear hv1 E_
   obtain⟨k1c0,k1c1,k1z,k1f0,k1f1⟩:=k1.b2
   obtain⟨k2c0,k2c1,k2c2,k2z,k2f0,k2f1,k2f2⟩:=k2.b3
   go_wp2_with fail
   clear k1c0 k1f0 k1c1 k1f1 k1z k2c0 k2f0 k2c1 k2f1 k2c2 k2f2 k2z
   refine(hO _).mono ?_
   rintro e w2 ⟨rfl,hb2⟩
   replace hb0:=hb0.trans (hb2.mono hb0.size)
   replace hT:=hT.below hb2
   replace hU:=hU.below hb2
   replace k1:=k1.below hb2 k1.lt
   replace k2:=k2.below hb2 k2.lt
   clear hb2
   go_upto_region 2 with fail
   obtain⟨v3,E_,hv3,k3,k4⟩:=Blk.a2 w2 37 #[.bool ng,.int .u64 (m:Int),.int .i64 q,.bool st] 26 #[.bool false,.string ⟨#[]⟩,.int .i64 0]
   replace hb0:=hb0.trans (hv3.mono hb0.size)
   replace hT:=hT.below hv3
   replace hU:=hU.below hv3
   replace k1:=k1.below hv3 k1.lt
   replace k2:=k2.below hv3 k2.lt
   rw[E_]
   clear hv3 E_
   obtain⟨k1c0,k1c1,k1z,k1f0,k1f1⟩:=k1.b2
   obtain⟨k2c0,k2c1,k2c2,k2z,k2f0,k2f1,k2f2⟩:=k2.b3
   obtain⟨k3c0,k3c1,k3c2,k3c3,k3z,k3f0,k3f1,k3f2,k3f3⟩:=k3.b4
   obtain⟨k4c0,k4c1,k4c2,k4z,k4f0,k4f1,k4f2⟩:=k4.b3
   go_wp2_with fail
   clear k1c0 k1f0 k1c1 k1f1 k1z k2c0 k2f0 k2c1 k2f1 k2c2 k2f2 k2z k3c0 k3f0 k3c1 k3f1 k3c2 k3f2 k3c3 k3f3 k3z k4c0 k4f0 k4c1 k4f1 k4c2 k4f2 k4z
   refine(hFi _ hT).mono ?_
   rintro e w4 ⟨rfl,hb4⟩
   replace hb0:=hb0.trans (hb4.mono hb0.size)
   replace hT:=hT.below hb4
   replace hU:=hU.below hb4
   replace k1:=k1.below hb4 k1.lt
   replace k2:=k2.below hb4 k2.lt
   replace k3:=k3.below hb4 k3.lt
   replace k4:=k4.below hb4 k4.lt
   clear hb4
   obtain⟨k1c0,k1c1,k1z,k1f0,k1f1⟩:=k1.b2
   obtain⟨k2c0,k2c1,k2c2,k2z,k2f0,k2f1,k2f2⟩:=k2.b3
   obtain⟨k3c0,k3c1,k3c2,k3c3,k3z,k3f0,k3f1,k3f2,k3f3⟩:=k3.b4
   obtain⟨k4c0,k4c1,k4c2,k4z,k4f0,k4f1,k4f2⟩:=k4.b3
   go_wp2_with fail
   clear k1c0 k1f0 k1c1 k1f1 k1z k2c0 k2f0 k2c1 k2f1 k2c2 k2f2 k2z k3c0 k3f0 k3c1 k3f1 k3c2 k3f2 k3c3 k3f3 k3z k4c0 k4f0 k4c1 k4f1 k4c2 k4f2 k4z
   refine(hAt _ hT).mono ?_
   rintro e w5 ⟨rfl,hb5⟩
   replace hb0:=hb0.trans (hb5.mono hb0.size)
   replace hT:=hT.below hb5
   replace hU:=hU.below hb5
   replace k1:=k1.below hb5 k1.lt
   replace k2:=k2.below hb5 k2.lt
   replace k3:=k3.below hb5 k3.lt
   replace k4:=k4.below hb5 k4.lt
   clear hb5
   go_upto_region 12 with fail
   obtain⟨v6,E_,hv6,k5⟩:=Blk.a1 w5 45 #[.int .u64 (x0:Int),.int .u64 (x1:Int),.int .u64 (x2:Int),.int .u64 (x3:Int),.int .u64 (y0:Int),.int .u64 (y1:Int),.int .u64 (y2:Int),.int .u64 (y3:Int),.int .i64 X,.int .i64 (P+1-n)]
   replace hb0:=hb0.trans (hv6.mono hb0.size)
   replace hT:=hT.below hv6
   replace hU:=hU.below hv6
   replace k1:=k1.below hv6 k1.lt
   replace k2:=k2.below hv6 k2.lt
   replace k3:=k3.below hv6 k3.lt
   replace k4:=k4.below hv6 k4.lt
   rw[E_]
   clear hv6 E_
   have k1c0:=k1.cell 0
   have k1f0:=k1.frozen 0
   have k1c1:=k1.cell 1
   have k1f1:=k1.frozen 1
   have k1z:=k1.lt
   have k2c0:=k2.cell 0
   have k2f0:=k2.frozen 0
   have k2c1:=k2.cell 1
   have k2f1:=k2.frozen 1
   have k2c2:=k2.cell 2
   have k2f2:=k2.frozen 2
   have k2z:=k2.lt
   have k3c0:=k3.cell 0
   have k3f0:=k3.frozen 0
   have k3c1:=k3.cell 1
   have k3f1:=k3.frozen 1
   have k3c2:=k3.cell 2
   have k3f2:=k3.frozen 2
   have k3c3:=k3.cell 3
   have k3f3:=k3.frozen 3
   have k3z:=k3.lt
   have k4c0:=k4.cell 0
   have k4f0:=k4.frozen 0
   have k4c1:=k4.cell 1
   have k4f1:=k4.frozen 1
   have k4c2:=k4.cell 2
   have k4f2:=k4.frozen 2
   have k4z:=k4.lt
   have k5c0:=k5.cell 0
   have k5f0:=k5.frozen 0
   have k5c1:=k5.cell 1
   have k5f1:=k5.frozen 1
   have k5c2:=k5.cell 2
   have k5f2:=k5.frozen 2
   have k5c3:=k5.cell 3
   have k5f3:=k5.frozen 3
   have k5c4:=k5.cell 4
   have k5f4:=k5.frozen 4
   have k5c5:=k5.cell 5
   have k5f5:=k5.frozen 5
   have k5c6:=k5.cell 6
   have k5f6:=k5.frozen 6
   have k5c7:=k5.cell 7
   have k5f7:=k5.frozen 7
   have k5c8:=k5.cell 8
   have k5f8:=k5.frozen 8
   have k5c9:=k5.cell 9
   have k5f9:=k5.frozen 9
   have k5z:=k5.lt
   simp only[geCells] at k1c0 k1c1 k2c0 k2c1 k2c2 k3c0 k3c1 k3c2 k3c3 k4c0 k4c1 k4c2 k5c0 k5c1 k5c2 k5c3 k5c4 k5c5 k5c6 k5c7 k5c8 k5c9
   go_wp2_with fail
   clear k1c0 k1f0 k1c1 k1f1 k1z k2c0 k2f0 k2c1 k2f1 k2c2 k2f2 k2z k3c0 k3f0 k3c1 k3f1 k3c2 k3f2 k3c3 k3f3 k3z k4c0 k4f0 k4c1 k4f1 k4c2 k4f2 k4z k5c0 k5f0 k5c1 k5f1 k5c2 k5f2 k5c3 k5f3 k5c4 k5f4 k5c5 k5f5 k5c6 k5f6 k5c7 k5f7 k5c8 k5f8 k5c9 k5f9 k5z
   refine(hSda _).mono ?_
   rintro e w7 ⟨rfl,hb7⟩
   replace hb0:=hb0.trans (hb7.mono hb0.size)
   replace hT:=hT.below hb7
   replace hU:=hU.below hb7
   replace k1:=k1.below hb7 k1.lt
   replace k2:=k2.below hb7 k2.lt
   replace k3:=k3.below hb7 k3.lt
   replace k4:=k4.below hb7 k4.lt
   replace k5:=k5.below hb7 k5.lt
   clear hb7
   go_upto_region 15 with fail
   obtain⟨v8,E_,hv8,k6,k7⟩:=Blk.a2 w7 43 #[.int .u64 (p0:Int),.int .u64 (p1:Int),.int .u64 (p2:Int),.int .u64 (p3:Int)] 43 #[.int .u64 (r0:Int),.int .u64 (r1:Int),.int .u64 (r2:Int),.int .u64 (r3:Int)]
   replace hb0:=hb0.trans (hv8.mono hb0.size)
   replace hT:=hT.below hv8
   replace hU:=hU.below hv8
   replace k1:=k1.below hv8 k1.lt
   replace k2:=k2.below hv8 k2.lt
   replace k3:=k3.below hv8 k3.lt
   replace k4:=k4.below hv8 k4.lt
   replace k5:=k5.below hv8 k5.lt
   rw[E_]
   clear hv8 E_
   have k1c0:=k1.cell 0
   have k1f0:=k1.frozen 0
   have k1c1:=k1.cell 1
   have k1f1:=k1.frozen 1
   have k1z:=k1.lt
   have k2c0:=k2.cell 0
   have k2f0:=k2.frozen 0
   have k2c1:=k2.cell 1
   have k2f1:=k2.frozen 1
   have k2c2:=k2.cell 2
   have k2f2:=k2.frozen 2
   have k2z:=k2.lt
   have k3c0:=k3.cell 0
   have k3f0:=k3.frozen 0
   have k3c1:=k3.cell 1
   have k3f1:=k3.frozen 1
   have k3c2:=k3.cell 2
   have k3f2:=k3.frozen 2
   have k3c3:=k3.cell 3
   have k3f3:=k3.frozen 3
   have k3z:=k3.lt
   have k4c0:=k4.cell 0
   have k4f0:=k4.frozen 0
   have k4c1:=k4.cell 1
   have k4f1:=k4.frozen 1
   have k4c2:=k4.cell 2
   have k4f2:=k4.frozen 2
   have k4z:=k4.lt
   have k5c0:=k5.cell 0
   have k5f0:=k5.frozen 0
   have k5c1:=k5.cell 1
   have k5f1:=k5.frozen 1
   have k5c2:=k5.cell 2
   have k5f2:=k5.frozen 2
   have k5c3:=k5.cell 3
   have k5f3:=k5.frozen 3
   have k5c4:=k5.cell 4
   have k5f4:=k5.frozen 4
   have k5c5:=k5.cell 5
   have k5f5:=k5.frozen 5
   have k5c6:=k5.cell 6
   have k5f6:=k5.frozen 6
   have k5c7:=k5.cell 7
   have k5f7:=k5.frozen 7
   have k5c8:=k5.cell 8
   have k5f8:=k5.frozen 8
   have k5c9:=k5.cell 9
   have k5f9:=k5.frozen 9
   have k5z:=k5.lt
   have k6c0:=k6.cell 0
   have k6f0:=k6.frozen 0
   have k6c1:=k6.cell 1
   have k6f1:=k6.frozen 1
   have k6c2:=k6.cell 2
   have k6f2:=k6.frozen 2
   have k6c3:=k6.cell 3
   have k6f3:=k6.frozen 3
   have k6z:=k6.lt
   have k7c0:=k7.cell 0
   have k7f0:=k7.frozen 0
   have k7c1:=k7.cell 1
   have k7f1:=k7.frozen 1
   have k7c2:=k7.cell 2
   have k7f2:=k7.frozen 2
   have k7c3:=k7.cell 3
   have k7f3:=k7.frozen 3
   have k7z:=k7.lt
   simp only[geCells] at k1c0 k1c1 k2c0 k2c1 k2c2 k3c0 k3c1 k3c2 k3c3 k4c0 k4c1 k4c2 k5c0 k5c1 k5c2 k5c3 k5c4 k5c5 k5c6 k5c7 k5c8 k5c9 k6c0 k6c1 k6c2 k6c3 k7c0 k7c1 k7c2 k7c3
   go_wp2_with fail
   clear k1c0 k1f0 k1c1 k1f1 k1z k2c0 k2f0 k2c1 k2f1 k2c2 k2f2 k2z k3c0 k3f0 k3c1 k3f1 k3c2 k3f2 k3c3 k3f3 k3z k4c0 k4f0 k4c1 k4f1 k4c2 k4f2 k4z k5c0 k5f0 k5c1 k5f1 k5c2 k5f2 k5c3 k5f3 k5c4 k5f4 k5c5 k5f5 k5c6 k5f6 k5c7 k5f7 k5c8 k5f8 k5c9 k5f9 k5z k6c0 k6f0 k6c1 k6f1 k6c2 k6f2 k6c3 k6f3 k6z k7c0 k7f0 k7c1 k7f1 k7c2 k7f2 k7c3 k7f3 k7z
   refine(hNr _).mono ?_
   rintro e w9 ⟨rfl,hb9⟩
   replace hb0:=hb0.trans (hb9.mono hb0.size)
   replace hT:=hT.below hb9
   replace hU:=hU.below hb9
   replace k1:=k1.below hb9 k1.lt
   replace k2:=k2.below hb9 k2.lt
   replace k3:=k3.below hb9 k3.lt
   replace k4:=k4.below hb9 k4.lt
   replace k5:=k5.below hb9 k5.lt
   replace k6:=k6.below hb9 k6.lt
   replace k7:=k7.below hb9 k7.lt
   clear hb9
   have k1c0:=k1.cell 0
   have k1f0:=k1.frozen 0
   have k1c1:=k1.cell 1
   have k1f1:=k1.frozen 1
   have k1z:=k1.lt
   have k2c0:=k2.cell 0
   have k2f0:=k2.frozen 0
   have k2c1:=k2.cell 1
   have k2f1:=k2.frozen 1
   have k2c2:=k2.cell 2
   have k2f2:=k2.frozen 2
   have k2z:=k2.lt
   have k3c0:=k3.cell 0
   have k3f0:=k3.frozen 0
   have k3c1:=k3.cell 1
   have k3f1:=k3.frozen 1
   have k3c2:=k3.cell 2
   have k3f2:=k3.frozen 2
   have k3c3:=k3.cell 3
   have k3f3:=k3.frozen 3
   have k3z:=k3.lt
   have k4c0:=k4.cell 0
   have k4f0:=k4.frozen 0
   have k4c1:=k4.cell 1
   have k4f1:=k4.frozen 1
   have k4c2:=k4.cell 2
   have k4f2:=k4.frozen 2
   have k4z:=k4.lt
   have k5c0:=k5.cell 0
   have k5f0:=k5.frozen 0
   have k5c1:=k5.cell 1
   have k5f1:=k5.frozen 1
   have k5c2:=k5.cell 2
   have k5f2:=k5.frozen 2
   have k5c3:=k5.cell 3
   have k5f3:=k5.frozen 3
   have k5c4:=k5.cell 4
   have k5f4:=k5.frozen 4
   have k5c5:=k5.cell 5
   have k5f5:=k5.frozen 5
   have k5c6:=k5.cell 6
   have k5f6:=k5.frozen 6
   have k5c7:=k5.cell 7
   have k5f7:=k5.frozen 7
   have k5c8:=k5.cell 8
   have k5f8:=k5.frozen 8
   have k5c9:=k5.cell 9
   have k5f9:=k5.frozen 9
   have k5z:=k5.lt
   have k6c0:=k6.cell 0
   have k6f0:=k6.frozen 0
   have k6c1:=k6.cell 1
   have k6f1:=k6.frozen 1
   have k6c2:=k6.cell 2
   have k6f2:=k6.frozen 2
   have k6c3:=k6.cell 3
   have k6f3:=k6.frozen 3
   have k6z:=k6.lt
   have k7c0:=k7.cell 0
   have k7f0:=k7.frozen 0
   have k7c1:=k7.cell 1
   have k7f1:=k7.frozen 1
   have k7c2:=k7.cell 2
   have k7f2:=k7.frozen 2
   have k7c3:=k7.cell 3
   have k7f3:=k7.frozen 3
   have k7z:=k7.lt
   simp only[geCells] at k1c0 k1c1 k2c0 k2c1 k2c2 k3c0 k3c1 k3c2 k3c3 k4c0 k4c1 k4c2 k5c0 k5c1 k5c2 k5c3 k5c4 k5c5 k5c6 k5c7 k5c8 k5c9 k6c0 k6c1 k6c2 k6c3 k7c0 k7c1 k7c2 k7c3
   go_wp2_with fail
   clear k1c0 k1f0 k1c1 k1f1 k1z k2c0 k2f0 k2c1 k2f1 k2c2 k2f2 k2z k3c0 k3f0 k3c1 k3f1 k3c2 k3f2 k3c3 k3f3 k3z k4c0 k4f0 k4c1 k4f1 k4c2 k4f2 k4z k5c0 k5f0 k5c1 k5f1 k5c2 k5f2 k5c3 k5f3 k5c4 k5f4 k5c5 k5f5 k5c6 k5f6 k5c7 k5f7 k5c8 k5f8 k5c9 k5f9 k5z k6c0 k6f0 k6c1 k6f1 k6c2 k6f2 k6c3 k6f3 k6z k7c0 k7f0 k7c1 k7f1 k7c2 k7f2 k7c3 k7f3 k7z
   refine(hDc _ hU).mono ?_
   rintro e w10 ⟨rfl,hb10⟩
   replace hb0:=hb0.trans (hb10.mono hb0.size)
   replace hT:=hT.below hb10
   replace hU:=hU.below hb10
   replace k1:=k1.below hb10 k1.lt
   replace k2:=k2.below hb10 k2.lt
   replace k3:=k3.below hb10 k3.lt
   replace k4:=k4.below hb10 k4.lt
   replace k5:=k5.below hb10 k5.lt
   replace k6:=k6.below hb10 k6.lt
   replace k7:=k7.below hb10 k7.lt
   clear hb10
   have k1c0:=k1.cell 0
   have k1f0:=k1.frozen 0
   have k1c1:=k1.cell 1
   have k1f1:=k1.frozen 1
   have k1z:=k1.lt
   have k2c0:=k2.cell 0
   have k2f0:=k2.frozen 0
   have k2c1:=k2.cell 1
   have k2f1:=k2.frozen 1
   have k2c2:=k2.cell 2
   have k2f2:=k2.frozen 2
   have k2z:=k2.lt
   have k3c0:=k3.cell 0
   have k3f0:=k3.frozen 0
   have k3c1:=k3.cell 1
   have k3f1:=k3.frozen 1
   have k3c2:=k3.cell 2
   have k3f2:=k3.frozen 2
   have k3c3:=k3.cell 3
   have k3f3:=k3.frozen 3
   have k3z:=k3.lt
   have k4c0:=k4.cell 0
   have k4f0:=k4.frozen 0
   have k4c1:=k4.cell 1
   have k4f1:=k4.frozen 1
   have k4c2:=k4.cell 2
   have k4f2:=k4.frozen 2
   have k4z:=k4.lt
   have k5c0:=k5.cell 0
   have k5f0:=k5.frozen 0
   have k5c1:=k5.cell 1
   have k5f1:=k5.frozen 1
   have k5c2:=k5.cell 2
   have k5f2:=k5.frozen 2
   have k5c3:=k5.cell 3
   have k5f3:=k5.frozen 3
   have k5c4:=k5.cell 4
   have k5f4:=k5.frozen 4
   have k5c5:=k5.cell 5
   have k5f5:=k5.frozen 5
   have k5c6:=k5.cell 6
   have k5f6:=k5.frozen 6
   have k5c7:=k5.cell 7
   have k5f7:=k5.frozen 7
   have k5c8:=k5.cell 8
   have k5f8:=k5.frozen 8
   have k5c9:=k5.cell 9
   have k5f9:=k5.frozen 9
   have k5z:=k5.lt
   have k6c0:=k6.cell 0
   have k6f0:=k6.frozen 0
   have k6c1:=k6.cell 1
   have k6f1:=k6.frozen 1
   have k6c2:=k6.cell 2
   have k6f2:=k6.frozen 2
   have k6c3:=k6.cell 3
   have k6f3:=k6.frozen 3
   have k6z:=k6.lt
   have k7c0:=k7.cell 0
   have k7f0:=k7.frozen 0
   have k7c1:=k7.cell 1
   have k7f1:=k7.frozen 1
   have k7c2:=k7.cell 2
   have k7f2:=k7.frozen 2
   have k7c3:=k7.cell 3
   have k7f3:=k7.frozen 3
   have k7z:=k7.lt
   simp only[geCells] at k1c0 k1c1 k2c0 k2c1 k2c2 k3c0 k3c1 k3c2 k3c3 k4c0 k4c1 k4c2 k5c0 k5c1 k5c2 k5c3 k5c4 k5c5 k5c6 k5c7 k5c8 k5c9 k6c0 k6c1 k6c2 k6c3 k7c0 k7c1 k7c2 k7c3
   go_wp2
   refine bodyPost_ret (v:=.tuple #[.agg #[.bool ng,.string ⟨(mkD (Lib.decDigits R1) (P+1-(n:Int))).1.toArray⟩,.int .i64 (mkD (Lib.decDigits R1) (P+1-(n:Int))).2],.bool true,.int .i64 0]) ?_ rfl ⟨rfl,(bel3 hb0 (w.heap.size+1) (by simp))⟩
   refine results_cell_tmp2 rfl _ _ (w.heap.size+1) _ _ _ _ _ _ ?_ ?_ ?_ (((k2.set_ 0 _).set_ 1 _).set_ 2 _) Tryz.underlying26 rfl (by kernel_rfl)
   · rfl
   · rfl
   · rfl
 · rw[if_neg hR]
   rw[decide_eq_false hR] at hNr
   clear hR
   have hb0:Below w.heap.size w w:=Below.refl _ _
   go_enter Tryz.func6,Tryz.ntmps6
   go_upto_region 1 with fail
   obtain⟨v1,E_,hv1,k1,k2⟩:=Blk.a2 w 23 #[.int .i64 e,.int .i64 f] 26 #[.bool false,.string ⟨#[]⟩,.int .i64 0]
   replace hb0:=hb0.trans (hv1.mono hb0.size)
   replace hT:=hT.below hv1
   replace hU:=hU.below hv1
   rw[E_]
   clear hv1 E_
   obtain⟨k1c0,k1c1,k1z,k1f0,k1f1⟩:=k1.b2
   obtain⟨k2c0,k2c1,k2c2,k2z,k2f0,k2f1,k2f2⟩:=k2.b3
   go_wp2_with fail
   clear k1c0 k1f0 k1c1 k1f1 k1z k2c0 k2f0 k2c1 k2f1 k2c2 k2f2 k2z
   refine(hO _).mono ?_
   rintro e w2 ⟨rfl,hb2⟩
   replace hb0:=hb0.trans (hb2.mono hb0.size)
   replace hT:=hT.below hb2
   replace hU:=hU.below hb2
   replace k1:=k1.below hb2 k1.lt
   replace k2:=k2.below hb2 k2.lt
   clear hb2
   go_upto_region 2 with fail
   obtain⟨v3,E_,hv3,k3,k4⟩:=Blk.a2 w2 37 #[.bool ng,.int .u64 (m:Int),.int .i64 q,.bool st] 26 #[.bool false,.string ⟨#[]⟩,.int .i64 0]
   replace hb0:=hb0.trans (hv3.mono hb0.size)
   replace hT:=hT.below hv3
   replace hU:=hU.below hv3
   replace k1:=k1.below hv3 k1.lt
   replace k2:=k2.below hv3 k2.lt
   rw[E_]
   clear hv3 E_
   obtain⟨k1c0,k1c1,k1z,k1f0,k1f1⟩:=k1.b2
   obtain⟨k2c0,k2c1,k2c2,k2z,k2f0,k2f1,k2f2⟩:=k2.b3
   obtain⟨k3c0,k3c1,k3c2,k3c3,k3z,k3f0,k3f1,k3f2,k3f3⟩:=k3.b4
   obtain⟨k4c0,k4c1,k4c2,k4z,k4f0,k4f1,k4f2⟩:=k4.b3
   go_wp2_with fail
   clear k1c0 k1f0 k1c1 k1f1 k1z k2c0 k2f0 k2c1 k2f1 k2c2 k2f2 k2z k3c0 k3f0 k3c1 k3f1 k3c2 k3f2 k3c3 k3f3 k3z k4c0 k4f0 k4c1 k4f1 k4c2 k4f2 k4z
   refine(hFi _ hT).mono ?_
   rintro e w4 ⟨rfl,hb4⟩
   replace hb0:=hb0.trans (hb4.mono hb0.size)
   replace hT:=hT.below hb4
   replace hU:=hU.below hb4
   replace k1:=k1.below hb4 k1.lt
   replace k2:=k2.below hb4 k2.lt
   replace k3:=k3.below hb4 k3.lt
   replace k4:=k4.below hb4 k4.lt
   clear hb4
   obtain⟨k1c0,k1c1,k1z,k1f0,k1f1⟩:=k1.b2
   obtain⟨k2c0,k2c1,k2c2,k2z,k2f0,k2f1,k2f2⟩:=k2.b3
   obtain⟨k3c0,k3c1,k3c2,k3c3,k3z,k3f0,k3f1,k3f2,k3f3⟩:=k3.b4
   obtain⟨k4c0,k4c1,k4c2,k4z,k4f0,k4f1,k4f2⟩:=k4.b3
   go_wp2_with fail
   clear k1c0 k1f0 k1c1 k1f1 k1z k2c0 k2f0 k2c1 k2f1 k2c2 k2f2 k2z k3c0 k3f0 k3c1 k3f1 k3c2 k3f2 k3c3 k3f3 k3z k4c0 k4f0 k4c1 k4f1 k4c2 k4f2 k4z
   refine(hAt _ hT).mono ?_
   rintro e w5 ⟨rfl,hb5⟩
   replace hb0:=hb0.trans (hb5.mono hb0.size)
   replace hT:=hT.below hb5
   replace hU:=hU.below hb5
   replace k1:=k1.below hb5 k1.lt
   replace k2:=k2.below hb5 k2.lt
   replace k3:=k3.below hb5 k3.lt
   replace k4:=k4.below hb5 k4.lt
   clear hb5
   go_upto_region 12 with fail
   obtain⟨v6,E_,hv6,k5⟩:=Blk.a1 w5 45 #[.int .u64 (x0:Int),.int .u64 (x1:Int),.int .u64 (x2:Int),.int .u64 (x3:Int),.int .u64 (y0:Int),.int .u64 (y1:Int),.int .u64 (y2:Int),.int .u64 (y3:Int),.int .i64 X,.int .i64 (P+1-n)]
   replace hb0:=hb0.trans (hv6.mono hb0.size)
   replace hT:=hT.below hv6
   replace hU:=hU.below hv6
   replace k1:=k1.below hv6 k1.lt
   replace k2:=k2.below hv6 k2.lt
   replace k3:=k3.below hv6 k3.lt
   replace k4:=k4.below hv6 k4.lt
   rw[E_]
   clear hv6 E_
   have k1c0:=k1.cell 0
   have k1f0:=k1.frozen 0
   have k1c1:=k1.cell 1
   have k1f1:=k1.frozen 1
   have k1z:=k1.lt
   have k2c0:=k2.cell 0
   have k2f0:=k2.frozen 0
   have k2c1:=k2.cell 1
   have k2f1:=k2.frozen 1
   have k2c2:=k2.cell 2
   have k2f2:=k2.frozen 2
   have k2z:=k2.lt
   have k3c0:=k3.cell 0
   have k3f0:=k3.frozen 0
   have k3c1:=k3.cell 1
   have k3f1:=k3.frozen 1
   have k3c2:=k3.cell 2
   have k3f2:=k3.frozen 2
   have k3c3:=k3.cell 3
   have k3f3:=k3.frozen 3
   have k3z:=k3.lt
   have k4c0:=k4.cell 0
   have k4f0:=k4.frozen 0
   have k4c1:=k4.cell 1
   have k4f1:=k4.frozen 1
   have k4c2:=k4.cell 2
   have k4f2:=k4.frozen 2
   have k4z:=k4.lt
   have k5c0:=k5.cell 0
   have k5f0:=k5.frozen 0
   have k5c1:=k5.cell 1
   have k5f1:=k5.frozen 1
   have k5c2:=k5.cell 2
   have k5f2:=k5.frozen 2
   have k5c3:=k5.cell 3
   have k5f3:=k5.frozen 3
   have k5c4:=k5.cell 4
   have k5f4:=k5.frozen 4
   have k5c5:=k5.cell 5
   have k5f5:=k5.frozen 5
   have k5c6:=k5.cell 6
   have k5f6:=k5.frozen 6
   have k5c7:=k5.cell 7
   have k5f7:=k5.frozen 7
   have k5c8:=k5.cell 8
   have k5f8:=k5.frozen 8
   have k5c9:=k5.cell 9
   have k5f9:=k5.frozen 9
   have k5z:=k5.lt
   simp only[geCells] at k1c0 k1c1 k2c0 k2c1 k2c2 k3c0 k3c1 k3c2 k3c3 k4c0 k4c1 k4c2 k5c0 k5c1 k5c2 k5c3 k5c4 k5c5 k5c6 k5c7 k5c8 k5c9
   go_wp2_with fail
   clear k1c0 k1f0 k1c1 k1f1 k1z k2c0 k2f0 k2c1 k2f1 k2c2 k2f2 k2z k3c0 k3f0 k3c1 k3f1 k3c2 k3f2 k3c3 k3f3 k3z k4c0 k4f0 k4c1 k4f1 k4c2 k4f2 k4z k5c0 k5f0 k5c1 k5f1 k5c2 k5f2 k5c3 k5f3 k5c4 k5f4 k5c5 k5f5 k5c6 k5f6 k5c7 k5f7 k5c8 k5f8 k5c9 k5f9 k5z
   refine(hSda _).mono ?_
   rintro e w7 ⟨rfl,hb7⟩
   replace hb0:=hb0.trans (hb7.mono hb0.size)
   replace hT:=hT.below hb7
   replace hU:=hU.below hb7
   replace k1:=k1.below hb7 k1.lt
   replace k2:=k2.below hb7 k2.lt
   replace k3:=k3.below hb7 k3.lt
   replace k4:=k4.below hb7 k4.lt
   replace k5:=k5.below hb7 k5.lt
   clear hb7
   go_upto_region 15 with fail
   obtain⟨v8,E_,hv8,k6,k7⟩:=Blk.a2 w7 43 #[.int .u64 (p0:Int),.int .u64 (p1:Int),.int .u64 (p2:Int),.int .u64 (p3:Int)] 43 #[.int .u64 (r0:Int),.int .u64 (r1:Int),.int .u64 (r2:Int),.int .u64 (r3:Int)]
   replace hb0:=hb0.trans (hv8.mono hb0.size)
   replace hT:=hT.below hv8
   replace hU:=hU.below hv8
   replace k1:=k1.below hv8 k1.lt
   replace k2:=k2.below hv8 k2.lt
   replace k3:=k3.below hv8 k3.lt
   replace k4:=k4.below hv8 k4.lt
   replace k5:=k5.below hv8 k5.lt
   rw[E_]
   clear hv8 E_
   have k1c0:=k1.cell 0
   have k1f0:=k1.frozen 0
   have k1c1:=k1.cell 1
   have k1f1:=k1.frozen 1
   have k1z:=k1.lt
   have k2c0:=k2.cell 0
   have k2f0:=k2.frozen 0
   have k2c1:=k2.cell 1
   have k2f1:=k2.frozen 1
   have k2c2:=k2.cell 2
   have k2f2:=k2.frozen 2
   have k2z:=k2.lt
   have k3c0:=k3.cell 0
   have k3f0:=k3.frozen 0
   have k3c1:=k3.cell 1
   have k3f1:=k3.frozen 1
   have k3c2:=k3.cell 2
   have k3f2:=k3.frozen 2
   have k3c3:=k3.cell 3
   have k3f3:=k3.frozen 3
   have k3z:=k3.lt
   have k4c0:=k4.cell 0
   have k4f0:=k4.frozen 0
   have k4c1:=k4.cell 1
   have k4f1:=k4.frozen 1
   have k4c2:=k4.cell 2
   have k4f2:=k4.frozen 2
   have k4z:=k4.lt
   have k5c0:=k5.cell 0
   have k5f0:=k5.frozen 0
   have k5c1:=k5.cell 1
   have k5f1:=k5.frozen 1
   have k5c2:=k5.cell 2
   have k5f2:=k5.frozen 2
   have k5c3:=k5.cell 3
   have k5f3:=k5.frozen 3
   have k5c4:=k5.cell 4
   have k5f4:=k5.frozen 4
   have k5c5:=k5.cell 5
   have k5f5:=k5.frozen 5
   have k5c6:=k5.cell 6
   have k5f6:=k5.frozen 6
   have k5c7:=k5.cell 7
   have k5f7:=k5.frozen 7
   have k5c8:=k5.cell 8
   have k5f8:=k5.frozen 8
   have k5c9:=k5.cell 9
   have k5f9:=k5.frozen 9
   have k5z:=k5.lt
   have k6c0:=k6.cell 0
   have k6f0:=k6.frozen 0
   have k6c1:=k6.cell 1
   have k6f1:=k6.frozen 1
   have k6c2:=k6.cell 2
   have k6f2:=k6.frozen 2
   have k6c3:=k6.cell 3
   have k6f3:=k6.frozen 3
   have k6z:=k6.lt
   have k7c0:=k7.cell 0
   have k7f0:=k7.frozen 0
   have k7c1:=k7.cell 1
   have k7f1:=k7.frozen 1
   have k7c2:=k7.cell 2
   have k7f2:=k7.frozen 2
   have k7c3:=k7.cell 3
   have k7f3:=k7.frozen 3
   have k7z:=k7.lt
   simp only[geCells] at k1c0 k1c1 k2c0 k2c1 k2c2 k3c0 k3c1 k3c2 k3c3 k4c0 k4c1 k4c2 k5c0 k5c1 k5c2 k5c3 k5c4 k5c5 k5c6 k5c7 k5c8 k5c9 k6c0 k6c1 k6c2 k6c3 k7c0 k7c1 k7c2 k7c3
   go_wp2_with fail
   clear k1c0 k1f0 k1c1 k1f1 k1z k2c0 k2f0 k2c1 k2f1 k2c2 k2f2 k2z k3c0 k3f0 k3c1 k3f1 k3c2 k3f2 k3c3 k3f3 k3z k4c0 k4f0 k4c1 k4f1 k4c2 k4f2 k4z k5c0 k5f0 k5c1 k5f1 k5c2 k5f2 k5c3 k5f3 k5c4 k5f4 k5c5 k5f5 k5c6 k5f6 k5c7 k5f7 k5c8 k5f8 k5c9 k5f9 k5z k6c0 k6f0 k6c1 k6f1 k6c2 k6f2 k6c3 k6f3 k6z k7c0 k7f0 k7c1 k7f1 k7c2 k7f2 k7c3 k7f3 k7z
   refine(hNr _).mono ?_
   rintro e w9 ⟨rfl,hb9⟩
   replace hb0:=hb0.trans (hb9.mono hb0.size)
   replace hT:=hT.below hb9
   replace hU:=hU.below hb9
   replace k1:=k1.below hb9 k1.lt
   replace k2:=k2.below hb9 k2.lt
   replace k3:=k3.below hb9 k3.lt
   replace k4:=k4.below hb9 k4.lt
   replace k5:=k5.below hb9 k5.lt
   replace k6:=k6.below hb9 k6.lt
   replace k7:=k7.below hb9 k7.lt
   clear hb9
   have k1c0:=k1.cell 0
   have k1f0:=k1.frozen 0
   have k1c1:=k1.cell 1
   have k1f1:=k1.frozen 1
   have k1z:=k1.lt
   have k2c0:=k2.cell 0
   have k2f0:=k2.frozen 0
   have k2c1:=k2.cell 1
   have k2f1:=k2.frozen 1
   have k2c2:=k2.cell 2
   have k2f2:=k2.frozen 2
   have k2z:=k2.lt
   have k3c0:=k3.cell 0
   have k3f0:=k3.frozen 0
   have k3c1:=k3.cell 1
   have k3f1:=k3.frozen 1
   have k3c2:=k3.cell 2
   have k3f2:=k3.frozen 2
   have k3c3:=k3.cell 3
   have k3f3:=k3.frozen 3
   have k3z:=k3.lt
   have k4c0:=k4.cell 0
   have k4f0:=k4.frozen 0
   have k4c1:=k4.cell 1
   have k4f1:=k4.frozen 1
   have k4c2:=k4.cell 2
   have k4f2:=k4.frozen 2
   have k4z:=k4.lt
   have k5c0:=k5.cell 0
   have k5f0:=k5.frozen 0
   have k5c1:=k5.cell 1
   have k5f1:=k5.frozen 1
   have k5c2:=k5.cell 2
   have k5f2:=k5.frozen 2
   have k5c3:=k5.cell 3
   have k5f3:=k5.frozen 3
   have k5c4:=k5.cell 4
   have k5f4:=k5.frozen 4
   have k5c5:=k5.cell 5
   have k5f5:=k5.frozen 5
   have k5c6:=k5.cell 6
   have k5f6:=k5.frozen 6
   have k5c7:=k5.cell 7
   have k5f7:=k5.frozen 7
   have k5c8:=k5.cell 8
   have k5f8:=k5.frozen 8
   have k5c9:=k5.cell 9
   have k5f9:=k5.frozen 9
   have k5z:=k5.lt
   have k6c0:=k6.cell 0
   have k6f0:=k6.frozen 0
   have k6c1:=k6.cell 1
   have k6f1:=k6.frozen 1
   have k6c2:=k6.cell 2
   have k6f2:=k6.frozen 2
   have k6c3:=k6.cell 3
   have k6f3:=k6.frozen 3
   have k6z:=k6.lt
   have k7c0:=k7.cell 0
   have k7f0:=k7.frozen 0
   have k7c1:=k7.cell 1
   have k7f1:=k7.frozen 1
   have k7c2:=k7.cell 2
   have k7f2:=k7.frozen 2
   have k7c3:=k7.cell 3
   have k7f3:=k7.frozen 3
   have k7z:=k7.lt
   simp only[geCells] at k1c0 k1c1 k2c0 k2c1 k2c2 k3c0 k3c1 k3c2 k3c3 k4c0 k4c1 k4c2 k5c0 k5c1 k5c2 k5c3 k5c4 k5c5 k5c6 k5c7 k5c8 k5c9 k6c0 k6c1 k6c2 k6c3 k7c0 k7c1 k7c2 k7c3
   go_wp2
   refine bodyPost_ret (v:=.tuple #[.agg #[.bool false,.string ⟨#[]⟩,.int .i64 0],.bool false,.int .i64 0]) ?_ rfl ⟨rfl,(bel3 hb0 (w.heap.size+1) (by simp))⟩
   refine results_cell_tmp2 rfl _ _ (w.heap.size+1) _ _ _ _ _ _ ?_ ?_ ?_ (((k2.set_ 0 _).set_ 1 _).set_ 2 _) Tryz.underlying26 rfl (by kernel_rfl)
   · rfl
   · rfl
   · rfl
theorem some_err (e f:Int) (b:Nat) (xn xs:Bool) (xm:Nat) (xq:Int) (dn:Bool) (r:Int) (ok:Bool) (D:Int) (hr:r≠0) (hO:∀W,Calls Tryz.prog 10 #[.agg #[.int .i64 e,.int .i64 f],.int .u64 (b:Int)] W (Says W (.tuple #[.agg #[.bool xn,.int .u64 (xm:Int),.int .i64 xq,.bool xs],.bool ok,.agg #[.bool dn,.string ⟨#[]⟩,.int .i64 0],.int .i64 r]))) (w:World):
 Calls Tryz.prog 6 #[.agg #[.int .i64 e,.int .i64 f],.int .u64 (b:Int),.int .i64 D] w (Says w (.tuple #[.agg #[.bool false,.string ⟨#[]⟩,.int .i64 0],.bool false,.int .i64 r])):=by
 have hr2:(r !=(0:Int))=true:=by simpa using hr
 have hb0:Below w.heap.size w w:=Below.refl _ _
 go_enter Tryz.func6,Tryz.ntmps6
 go_upto_region 1 with fail
 obtain⟨v1,E_,hv1,k1,k2⟩:=Blk.a2 w 23 #[.int .i64 e,.int .i64 f] 26 #[.bool false,.string ⟨#[]⟩,.int .i64 0]
 replace hb0:=hb0.trans (hv1.mono hb0.size)
 rw[E_]
 clear hv1 E_
 obtain⟨k1c0,k1c1,k1z,k1f0,k1f1⟩:=k1.b2
 obtain⟨k2c0,k2c1,k2c2,k2z,k2f0,k2f1,k2f2⟩:=k2.b3
 go_wp2_with fail
 clear k1c0 k1f0 k1c1 k1f1 k1z k2c0 k2f0 k2c1 k2f1 k2c2 k2f2 k2z
 refine(hO _).mono ?_
 rintro e w2 ⟨rfl,hb2⟩
 replace hb0:=hb0.trans (hb2.mono hb0.size)
 replace k1:=k1.below hb2 k1.lt
 replace k2:=k2.below hb2 k2.lt
 clear hb2
 go_upto_region 2 with fail
 have l3:w.heap.size+1<w2.heap.size:=k2.lt
 obtain⟨v3,E_,hv3,k3,k4⟩:=Blk.a2 w2 37 #[.bool xn,.int .u64 (xm:Int),.int .i64 xq,.bool xs] 26 #[.bool dn,.string ⟨#[]⟩,.int .i64 0]
 replace hb0:=hb0.trans (hv3.mono hb0.size)
 replace k1:=k1.below hv3 k1.lt
 replace k2:=k2.below hv3 k2.lt
 rw[E_]
 clear hv3 E_
 obtain⟨k1c0,k1c1,k1z,k1f0,k1f1⟩:=k1.b2
 obtain⟨k2c0,k2c1,k2c2,k2z,k2f0,k2f1,k2f2⟩:=k2.b3
 obtain⟨k3c0,k3c1,k3c2,k3c3,k3z,k3f0,k3f1,k3f2,k3f3⟩:=k3.b4
 obtain⟨k4c0,k4c1,k4c2,k4z,k4f0,k4f1,k4f2⟩:=k4.b3
 go_wp2
 refine bodyPost_ret (v:=.tuple #[.agg #[.bool false,.string ⟨#[]⟩,.int .i64 0],.bool false,.int .i64 r]) ?_ rfl ⟨rfl,(bel3 hb0 (w.heap.size+1) (by simp))⟩
 refine results_cell_tmp2 rfl _ _ (w.heap.size+1) _ _ _ _ _ _ ?_ ?_ ?_ (((k2.set_ 0 _).set_ 1 _).set_ 2 _) Tryz.underlying26 rfl (by kernel_rfl)
 · rfl
 · rfl
 · rfl
theorem some_places_lo (e f:Int) (b:Nat) (xn xs:Bool) (xm:Nat) (xq:Int) (dn:Bool) (ok:Bool) (D:Int) (hD:D<1) (hO:∀W,Calls Tryz.prog 10 #[.agg #[.int .i64 e,.int .i64 f],.int .u64 (b:Int)] W (Says W (.tuple #[.agg #[.bool xn,.int .u64 (xm:Int),.int .i64 xq,.bool xs],.bool ok,.agg #[.bool dn,.string ⟨#[]⟩,.int .i64 0],.int .i64 0]))) (w:World):
 Calls Tryz.prog 6 #[.agg #[.int .i64 e,.int .i64 f],.int .u64 (b:Int),.int .i64 D] w (Says w (.tuple #[.agg #[.bool false,.string ⟨#[]⟩,.int .i64 0],.bool false,.int .i64 101])):=by
 have g1:decide (D<1)=true:=by simpa using hD
 clear hD
 have hb0:Below w.heap.size w w:=Below.refl _ _
 go_enter Tryz.func6,Tryz.ntmps6
 go_upto_region 1 with fail
 obtain⟨v1,E_,hv1,k1,k2⟩:=Blk.a2 w 23 #[.int .i64 e,.int .i64 f] 26 #[.bool false,.string ⟨#[]⟩,.int .i64 0]
 replace hb0:=hb0.trans (hv1.mono hb0.size)
 rw[E_]
 clear hv1 E_
 obtain⟨k1c0,k1c1,k1z,k1f0,k1f1⟩:=k1.b2
 obtain⟨k2c0,k2c1,k2c2,k2z,k2f0,k2f1,k2f2⟩:=k2.b3
 go_wp2_with fail
 clear k1c0 k1f0 k1c1 k1f1 k1z k2c0 k2f0 k2c1 k2f1 k2c2 k2f2 k2z
 refine(hO _).mono ?_
 rintro e w2 ⟨rfl,hb2⟩
 replace hb0:=hb0.trans (hb2.mono hb0.size)
 replace k1:=k1.below hb2 k1.lt
 replace k2:=k2.below hb2 k2.lt
 clear hb2
 go_upto_region 2 with fail
 have l3:w.heap.size+1<w2.heap.size:=k2.lt
 obtain⟨v3,E_,hv3,k3,k4⟩:=Blk.a2 w2 37 #[.bool xn,.int .u64 (xm:Int),.int .i64 xq,.bool xs] 26 #[.bool dn,.string ⟨#[]⟩,.int .i64 0]
 replace hb0:=hb0.trans (hv3.mono hb0.size)
 replace k1:=k1.below hv3 k1.lt
 replace k2:=k2.below hv3 k2.lt
 rw[E_]
 clear hv3 E_
 obtain⟨k1c0,k1c1,k1z,k1f0,k1f1⟩:=k1.b2
 obtain⟨k2c0,k2c1,k2c2,k2z,k2f0,k2f1,k2f2⟩:=k2.b3
 obtain⟨k3c0,k3c1,k3c2,k3c3,k3z,k3f0,k3f1,k3f2,k3f3⟩:=k3.b4
 obtain⟨k4c0,k4c1,k4c2,k4z,k4f0,k4f1,k4f2⟩:=k4.b3
 go_wp2
 refine bodyPost_ret (v:=.tuple #[.agg #[.bool false,.string ⟨#[]⟩,.int .i64 0],.bool false,.int .i64 101]) ?_ rfl ⟨rfl,(bel3 hb0 (w.heap.size+1) (by simp))⟩
 refine results_cell_tmp2 rfl _ _ (w.heap.size+1) _ _ _ _ _ _ ?_ ?_ ?_ (((k2.set_ 0 _).set_ 1 _).set_ 2 _) Tryz.underlying26 rfl (by kernel_rfl)
 · rfl
 · rfl
 · rfl
theorem some_places_hi (e f:Int) (b:Nat) (xn xs:Bool) (xm:Nat) (xq:Int) (dn:Bool) (ok:Bool) (D:Int) (hD:17<D) (hO:∀W,Calls Tryz.prog 10 #[.agg #[.int .i64 e,.int .i64 f],.int .u64 (b:Int)] W (Says W (.tuple #[.agg #[.bool xn,.int .u64 (xm:Int),.int .i64 xq,.bool xs],.bool ok,.agg #[.bool dn,.string ⟨#[]⟩,.int .i64 0],.int .i64 0]))) (w:World):
 Calls Tryz.prog 6 #[.agg #[.int .i64 e,.int .i64 f],.int .u64 (b:Int),.int .i64 D] w (Says w (.tuple #[.agg #[.bool false,.string ⟨#[]⟩,.int .i64 0],.bool false,.int .i64 101])):=by
 have g1:decide (D<1)=false:=by simp;omega
 have g2:decide (17<D)=true:=by simpa using hD
 clear hD
 have hb0:Below w.heap.size w w:=Below.refl _ _
 go_enter Tryz.func6,Tryz.ntmps6
 go_upto_region 1 with fail
 obtain⟨v1,E_,hv1,k1,k2⟩:=Blk.a2 w 23 #[.int .i64 e,.int .i64 f] 26 #[.bool false,.string ⟨#[]⟩,.int .i64 0]
 replace hb0:=hb0.trans (hv1.mono hb0.size)
 rw[E_]
 clear hv1 E_
 obtain⟨k1c0,k1c1,k1z,k1f0,k1f1⟩:=k1.b2
 obtain⟨k2c0,k2c1,k2c2,k2z,k2f0,k2f1,k2f2⟩:=k2.b3
 go_wp2_with fail
 clear k1c0 k1f0 k1c1 k1f1 k1z k2c0 k2f0 k2c1 k2f1 k2c2 k2f2 k2z
 refine(hO _).mono ?_
 rintro e w2 ⟨rfl,hb2⟩
 replace hb0:=hb0.trans (hb2.mono hb0.size)
 replace k1:=k1.below hb2 k1.lt
 replace k2:=k2.below hb2 k2.lt
 clear hb2
 go_upto_region 2 with fail
 have l3:w.heap.size+1<w2.heap.size:=k2.lt
 obtain⟨v3,E_,hv3,k3,k4⟩:=Blk.a2 w2 37 #[.bool xn,.int .u64 (xm:Int),.int .i64 xq,.bool xs] 26 #[.bool dn,.string ⟨#[]⟩,.int .i64 0]
 replace hb0:=hb0.trans (hv3.mono hb0.size)
 replace k1:=k1.below hv3 k1.lt
 replace k2:=k2.below hv3 k2.lt
 rw[E_]
 clear hv3 E_
 obtain⟨k1c0,k1c1,k1z,k1f0,k1f1⟩:=k1.b2
 obtain⟨k2c0,k2c1,k2c2,k2z,k2f0,k2f1,k2f2⟩:=k2.b3
 obtain⟨k3c0,k3c1,k3c2,k3c3,k3z,k3f0,k3f1,k3f2,k3f3⟩:=k3.b4
 obtain⟨k4c0,k4c1,k4c2,k4z,k4f0,k4f1,k4f2⟩:=k4.b3
 go_wp2
 refine bodyPost_ret (v:=.tuple #[.agg #[.bool false,.string ⟨#[]⟩,.int .i64 0],.bool false,.int .i64 101]) ?_ rfl ⟨rfl,(bel3 hb0 (w.heap.size+1) (by simp))⟩
 refine results_cell_tmp2 rfl _ _ (w.heap.size+1) _ _ _ _ _ _ ?_ ?_ ?_ (((k2.set_ 0 _).set_ 1 _).set_ 2 _) Tryz.underlying26 rfl (by kernel_rfl)
 · rfl
 · rfl
 · rfl
theorem some_no (e f:Int) (b:Nat) (xn xs:Bool) (xm:Nat) (xq:Int) (dn:Bool) (D:Int) (hD:1≤D∧D≤17) (hO:∀W,Calls Tryz.prog 10 #[.agg #[.int .i64 e,.int .i64 f],.int .u64 (b:Int)] W (Says W (.tuple #[.agg #[.bool xn,.int .u64 (xm:Int),.int .i64 xq,.bool xs],.bool false,.agg #[.bool dn,.string ⟨#[]⟩,.int .i64 0],.int .i64 0]))) (w:World):
 Calls Tryz.prog 6 #[.agg #[.int .i64 e,.int .i64 f],.int .u64 (b:Int),.int .i64 D] w (Says w (.tuple #[.agg #[.bool dn,.string ⟨#[]⟩,.int .i64 0],.bool true,.int .i64 0])):=by
 have g1:decide (D<1)=false:=by simp;omega
 have g2:decide (17<D)=false:=by simp;omega
 clear hD
 have hb0:Below w.heap.size w w:=Below.refl _ _
 go_enter Tryz.func6,Tryz.ntmps6
 go_upto_region 1 with fail
 obtain⟨v1,E_,hv1,k1,k2⟩:=Blk.a2 w 23 #[.int .i64 e,.int .i64 f] 26 #[.bool false,.string ⟨#[]⟩,.int .i64 0]
 replace hb0:=hb0.trans (hv1.mono hb0.size)
 rw[E_]
 clear hv1 E_
 obtain⟨k1c0,k1c1,k1z,k1f0,k1f1⟩:=k1.b2
 obtain⟨k2c0,k2c1,k2c2,k2z,k2f0,k2f1,k2f2⟩:=k2.b3
 go_wp2_with fail
 clear k1c0 k1f0 k1c1 k1f1 k1z k2c0 k2f0 k2c1 k2f1 k2c2 k2f2 k2z
 refine(hO _).mono ?_
 rintro e w2 ⟨rfl,hb2⟩
 replace hb0:=hb0.trans (hb2.mono hb0.size)
 replace k1:=k1.below hb2 k1.lt
 replace k2:=k2.below hb2 k2.lt
 clear hb2
 go_upto_region 2 with fail
 have l3:w.heap.size+1<w2.heap.size:=k2.lt
 obtain⟨v3,E_,hv3,k3,k4⟩:=Blk.a2 w2 37 #[.bool xn,.int .u64 (xm:Int),.int .i64 xq,.bool xs] 26 #[.bool dn,.string ⟨#[]⟩,.int .i64 0]
 replace hb0:=hb0.trans (hv3.mono hb0.size)
 replace k1:=k1.below hv3 k1.lt
 replace k2:=k2.below hv3 k2.lt
 rw[E_]
 clear hv3 E_
 obtain⟨k1c0,k1c1,k1z,k1f0,k1f1⟩:=k1.b2
 obtain⟨k2c0,k2c1,k2c2,k2z,k2f0,k2f1,k2f2⟩:=k2.b3
 obtain⟨k3c0,k3c1,k3c2,k3c3,k3z,k3f0,k3f1,k3f2,k3f3⟩:=k3.b4
 obtain⟨k4c0,k4c1,k4c2,k4z,k4f0,k4f1,k4f2⟩:=k4.b3
 go_wp2
 refine bodyPost_ret (v:=.tuple #[.agg #[.bool dn,.string ⟨#[]⟩,.int .i64 0],.bool true,.int .i64 0]) ?_ rfl ⟨rfl,(bel3 hb0 (w.heap.size+1) (by simp))⟩
 refine results_cell_tmp2 rfl _ _ (w.heap.size+1) _ _ _ _ _ _ ?_ ?_ ?_ (((k2.set_ 0 _).set_ 1 _).set_ 2 _) Tryz.underlying26 rfl (by kernel_rfl)
 · rfl
 · rfl
 · rfl
theorem law19_of (n:Bool) (s:ByteArray) (x:Int) (ok:Bool) (e:Int) (w:World):Calls Tryz.prog 5 #[.agg #[.bool n,.string s,.int .i64 x],.bool ok,.int .i64 e] w (Says w (.agg #[.bool n,.string s,.int .i64 x,.bool ok,.int .i64 e])):=by
 have hb0:Below w.heap.size w w:=Below.refl _ _
 go_enter Tryz.func5,Tryz.ntmps5
 go_wp2
 refine bodyPost_ret (v:=.agg #[.bool n,.string s,.int .i64 x,.bool ok,.int .i64 e]) ?_ rfl ⟨rfl,((Below.refl _ w).alloc nrf _).alloc (by simp) _⟩
 refine results_cell_row rfl _ _ (w.heap.size+1) _ _ _ _ ?_ (by have:=heap_alloc_new (w.alloc (.cells #[.bool n,.string s,.int .i64 x] 26)) (.cells #[.bool n,.string s,.int .i64 x,.bool ok,.int .i64 e] 29);simpa using this) Tryz.underlying29 rfl (by kernel_rfl)
 rfl
theorem fit_in {E F b:Nat} (hE1:2≤E) (hE2:E≤11) (hF1:1≤F) (hF2:F≤52) (hb:b<2^(1+E+F)):Fo.fitS (E:Int) (F:Int) b=0:=by
 have hc:Fo.chkF (E:Int) (F:Int)=0:=by unfold Fo.chkF;rw[if_neg (by omega)]
 unfold Fo.fitS
 rw[if_pos hc]
 unfold Fo.fitF
 rw[Int.toNat_natCast,Int.toNat_natCast,if_neg (by omega)]
theorem or_top (Y F:Nat) (hF:F≤52) (hY:Y<2^F):bits BinOp.or IntKind.u64 (Y:Int) ((2^F:Nat):Int)=((Y+2^F:Nat):Int):=by
 have h52:=Nat.pow_le_pow_right (n:=2) (by decide) hF
 rw[u64_or_nat _ _ (by omega) (by omega)]
 have:=Nat.two_pow_add_eq_or_of_lt hY 1
 rw[Nat.mul_one] at this
 rw[Nat.or_comm, ←this,Nat.add_comm]
theorem open_num {E F b X Y:Nat} {ng:Bool} (hE1:2≤E) (hE2:E≤11) (hF1:1≤F) (hF2:F≤52) (hb:b<2^(1+E+F)) (hs:Fo.splitF E F b=(ng,X,Y)) (hX:X+1≠2^E) (hz:¬(X=0∧Y=0)) (w:World):
 Calls Tryz.prog 10 #[.agg #[.int .i64 (E:Int),.int .i64 (F:Int)],.int .u64 (b:Int)] w (Says w (.tuple #[.agg #[.bool ng,.int .u64 ((mF F X Y:Nat):Int),.int .i64 (qF E F X),.bool (stF X Y)],.bool true,.agg #[.bool false,.string ⟨#[]⟩,.int .i64 0],.int .i64 0])):=by
 have h64:2^(1+E+F)≤2^64:=Nat.pow_le_pow_right (by decide) (by omega)
 have hfit:=fit_in hE1 hE2 hF1 hF2 hb
 have hsp:Fo.splitS (E:Int) (F:Int) b=((ng,X,Y),0):=by
  unfold Fo.splitS;rw[if_pos hfit,Int.toNat_natCast,Int.toNat_natCast,hs]
 have hcl:Fo.classS (E:Int) (F:Int) b=(Fo.classF E X Y,0):=by
  unfold Fo.classS;rw[if_pos hfit,hsp,Int.toNat_natCast]
 have hC:=fun W=>Fo.forms_Class (E:Int) (F:Int) b b rfl (by omega) W
 have hS:=fun W=>Fo.forms_Split (E:Int) (F:Int) b b rfl (by omega) W
 rw[hcl] at hC
 rw[hsp] at hS
 unfold Fo.splitF at hs
 have hXY:X=b/2^F%2^E∧Y=b%2^F:=by
  simp only[Prod.mk.injEq] at hs
  exact⟨hs.2.1.symm,hs.2.2.symm⟩
 have hXlt:X<2^E:=by rw[hXY.1];exact Nat.mod_lt _ (Nat.two_pow_pos _)
 have hYlt:Y<2^F:=by rw[hXY.2];exact Nat.mod_lt _ (Nat.two_pow_pos _)
 have hE10:=Nat.pow_le_pow_right (n:=2) (by decide) (show E-1≤10 by omega)
 have hE11:=Nat.pow_le_pow_right (n:=2) (by decide) hE2
 have hF52:=Nat.pow_le_pow_right (n:=2) (by decide) hF2
 have hi64:∀p:Nat,p≤2^10→IntKind.i64.wrap (p:Int)=(p:Int):=by intro p hp;rw[IntKind.wrap_i64];omega
 have hu64:∀p:Nat,p≤2^52→IntKind.u64.wrap (p:Int)=(p:Int):=by intro p hp;rw[IntKind.wrap_u64];omega
 have hP:IntKind.i64.wrap (2^(E-1))=((2^(E-1):Nat):Int):=by
  have h3:((2:Int)^(E-1))=((2^(E-1):Nat):Int):=by push_cast;rfl
  rw[h3];exact hi64 _ hE10
 have hQ:IntKind.u64.wrap (2^F)=((2^F:Nat):Int):=by
  have h3:((2:Int)^F)=((2^F:Nat):Int):=by push_cast;rfl
  rw[h3];exact hu64 _ hF52
 unfold Fo.classF at hC
 by_cases h0:X=0
 · subst h0
   have hY:¬Y=0:=fun h=>hz ⟨rfl,h⟩
   rw[if_pos rfl,if_neg hY] at hC
   have:=open_small (E:Int) (F:Int) b ng 0 Y (by omega) (E-1) (2^(E-1)) (by omega) hP (by omega) (by omega) hC hS w
   have e1:mF F 0 Y=Y:=rfl
   have e2:qF E F 0=2-((2^(E-1):Nat):Int)-(F:Int):=by unfold qF;rw[if_pos rfl];omega
   have e3:stF 0 Y=false:=rfl
   rw[e1,e2,e3]
   exact this
 · rw[if_neg h0,if_neg hX] at hC
   have e1:mF F X Y=Y+2^F:=by unfold mF;rw[if_neg h0]
   have e2:qF E F X=2-((2^(E-1):Nat):Int)-(F:Int)+((X:Int)-1):=by unfold qF;rw[if_neg h0]
   rw[e1,e2]
   have hor:=or_top Y F hF2 hYlt
   by_cases hY:Y=0
   · by_cases hX1:1<X
     · have e3:stF X Y=true:=by unfold stF;rw[decide_eq_true hX1,decide_eq_true hY];rfl
       rw[e3]
       exact open_norma (E:Int) F b ng X Y (by omega) (E-1) (2^(E-1)) (by omega) hP (by omega) (by omega) (2^F) (Y+2^F) (by omega) hQ hor (by simpa using hY) (by simp;omega) (by simpa using hX1) hC hS w
     · have e3:stF X Y=false:=by unfold stF;rw[decide_eq_false hX1];rfl
       rw[e3]
       exact open_normb (E:Int) F b ng X Y (by omega) (E-1) (2^(E-1)) (by omega) hP (by omega) (by omega) (2^F) (Y+2^F) (by omega) hQ hor (by simpa using hY) (by simp;omega) (by simpa using hX1) hC hS w
   · have e3:stF X Y=false:=by unfold stF;rw[decide_eq_false hY,Bool.and_false]
     rw[e3]
     exact open_normc (E:Int) F b ng X Y (by omega) (E-1) (2^(E-1)) (by omega) hP (by omega) (by omega) (2^F) (Y+2^F) (by omega) hQ hor (by simpa using hY) hC hS w
theorem some_num {E F b X Y:Nat} {ng:Bool} (hE1:2≤E) (hE2:E≤11) (hF1:1≤F) (hF2:F≤52) (hb:b<2^(1+E+F)) (hs:Fo.splitF E F b=(ng,X,Y)) (hX:X+1≠2^E) (hz:¬(X=0∧Y=0)) {P:Int} (hP:IsFirst (mF F X Y) (qF E F X) P) (hP1: -350≤P) (hP2:P<350) {n:Nat} (hn1:1≤n) (hn2:n≤17) (w:World) (hT:Tab5 w) (hU:TabU w):
 Calls Tryz.prog 6 #[.agg #[.int .i64 (E:Int),.int .i64 (F:Int)],.int .u64 (b:Int),.int .i64 (n:Int)] w (Says w (someV ng P n (someS (mF F X Y) (qF E F X) P n))):=by
 have hO:=fun W=>open_num hE1 hE2 hF1 hF2 hb hs hX hz W
 obtain⟨b1,b2,b3,b4⟩:=num_bd hE1 hE2 hF1 hF2 hs hX hz
 have:=sure_some _ _ b ng _ _ _ P n hO b1 b2 b3 b4 hP hP1 hP2 hn1 hn2 w hT hU
 unfold someV
 exact this
theorem open_bad {e f:Int} {b:Nat} (hb:b<18446744073709551616) (h:Fo.fitS e f b≠0) (w:World):
 Calls Tryz.prog 10 #[.agg #[.int .i64 e,.int .i64 f],.int .u64 (b:Int)] w (Says w (.tuple #[.agg #[.bool false,.int .u64 0,.int .i64 0,.bool false],.bool false,.agg #[.bool false,.string ⟨#[]⟩,.int .i64 0],.int .i64 (Fo.fitS e f b)])):=by
 have hC:=fun W=>Fo.forms_Class e f b b rfl hb W
 have hcl:Fo.classS e f b=(0,Fo.fitS e f b):=by unfold Fo.classS;rw[if_neg h]
 rw[hcl] at hC
 exact open_err e f b 0 _ (by simpa using h) hC w
theorem open_far {E F b X Y:Nat} {ng:Bool} (hE1:2≤E) (hE2:E≤11) (hF1:1≤F) (hF2:F≤52) (hb:b<2^(1+E+F)) (hs:Fo.splitF E F b=(ng,X,Y)) (hX:X+1=2^E) (w:World):
 Calls Tryz.prog 10 #[.agg #[.int .i64 (E:Int),.int .i64 (F:Int)],.int .u64 (b:Int)] w (Says w (.tuple #[.agg #[.bool false,.int .u64 0,.int .i64 0,.bool false],.bool false,.agg #[.bool false,.string ⟨#[]⟩,.int .i64 0],.int .i64 8])):=by
 have h64:2^(1+E+F)≤2^64:=Nat.pow_le_pow_right (by decide) (by omega)
 have hfit:=fit_in hE1 hE2 hF1 hF2 hb
 have hsp:Fo.splitS (E:Int) (F:Int) b=((ng,X,Y),0):=by
  unfold Fo.splitS;rw[if_pos hfit,Int.toNat_natCast,Int.toNat_natCast,hs]
 have hcl:Fo.classS (E:Int) (F:Int) b=(Fo.classF E X Y,0):=by
  unfold Fo.classS;rw[if_pos hfit,hsp,Int.toNat_natCast]
 have hC:=fun W=>Fo.forms_Class (E:Int) (F:Int) b b rfl (by omega) W
 have hS:=fun W=>Fo.forms_Split (E:Int) (F:Int) b b rfl (by omega) W
 rw[hcl] at hC
 rw[hsp] at hS
 have h1:1<2^E:=Nat.one_lt_two_pow (by omega)
 unfold Fo.classF at hC
 rw[if_neg (by omega),if_pos hX] at hC
 by_cases hY:Y=0
 · rw[if_pos hY] at hC
   exact open_inf4 _ _ b ng X Y hC hS w
 · rw[if_neg hY] at hC
   exact open_inf5 _ _ b ng X Y hC hS w
theorem open_nought {E F b:Nat} {ng:Bool} (hE1:2≤E) (hE2:E≤11) (hF1:1≤F) (hF2:F≤52) (hb:b<2^(1+E+F)) (hs:Fo.splitF E F b=(ng,0,0)) (w:World):
 Calls Tryz.prog 10 #[.agg #[.int .i64 (E:Int),.int .i64 (F:Int)],.int .u64 (b:Int)] w (Says w (.tuple #[.agg #[.bool false,.int .u64 0,.int .i64 0,.bool false],.bool false,.agg #[.bool ng,.string ⟨#[]⟩,.int .i64 0],.int .i64 0])):=by
 have h64:2^(1+E+F)≤2^64:=Nat.pow_le_pow_right (by decide) (by omega)
 have hfit:=fit_in hE1 hE2 hF1 hF2 hb
 have hsp:Fo.splitS (E:Int) (F:Int) b=((ng,0,0),0):=by
  unfold Fo.splitS;rw[if_pos hfit,Int.toNat_natCast,Int.toNat_natCast,hs]
 have hcl:Fo.classS (E:Int) (F:Int) b=(Fo.classF E 0 0,0):=by
  unfold Fo.classS;rw[if_pos hfit,hsp,Int.toNat_natCast]
 have hC:=fun W=>Fo.forms_Class (E:Int) (F:Int) b b rfl (by omega) W
 have hS:=fun W=>Fo.forms_Split (E:Int) (F:Int) b b rfl (by omega) W
 rw[hcl] at hC
 rw[hsp] at hS
 exact open_zero _ _ b ng 0 0 hC hS w
namespace Bg
theorem law_some (e f:Int) (b:Nat) (D:Int) (n ok:Bool) (s:ByteArray) (x r:Int)
 (hA:∀W,Tab5 W→TabU W→Calls Tryz.prog 6 #[.agg #[.int .i64 e,.int .i64 f],.int .u64 (b:Int),.int .i64 D] W (Says W (.tuple #[.agg #[.bool n,.string s,.int .i64 x],.bool ok,.int .i64 r])))
 (hB:∀W,Tz W→Calls Tryz.prog 7 #[.agg #[.int .i64 e,.int .i64 f],.int .u64 (b:Int),.int .i64 D] W (Says W (.tuple #[.agg #[.bool n,.string s,.int .i64 x],.bool ok,.int .i64 r])))
 (w:World) (hT:Tab5 w) (hU:TabU w) (hZ:Tz w):
 Calls Tryz.prog 3 #[.agg #[.int .i64 e,.int .i64 f],.int .u64 (b:Int),.int .i64 D] w (Says w (.bool true)):=by
 obtain⟨v0,hvv0,hv0,k1⟩:=Blk.al w 23 #[.int .i64 e,.int .i64 f]
 go_enter Tryz.func3,Tryz.ntmps3
 go_upto_region 1 with fail
 rw[←hvv0]
 clear hvv0
 have hTd:Tab5 v0.drew:=hT.below hv0.drew
 have hUd:TabU v0.drew:=hU.below hv0.drew
 have hZd:Tz v0:=hZ.below hv0
 obtain⟨c0,c1,kz, -⟩:=k1.b2
 go_region_held3 (fun w'=>w'.cell? ⟨w.heap.size,0,none⟩=some (.int .i64 e)∧w'.cell? ⟨w.heap.size,1,none⟩=some (.int .i64 f))
  (first|exact⟨c0,c1⟩|exact⟨a0,a1⟩|exact⟨o0,o1⟩|exact⟨p0,p1⟩|exact⟨q0,q1⟩|go_keep)
  (first
   |(go_at_call 6;(with_reducible refine(hA _ hTd hUd).mono ?_);rintro e wa ⟨rfl,ba'⟩;have ba:Below v0.heap.size v0 wa:=(Below.refl v0.heap.size v0).drew.trans ba';have a0:=cell_keep ba c0;have a1:=cell_keep ba c1)
   |(go_at_call 7;(with_reducible refine(hB _ ((hZd.below ba).below bo)).mono ?_);rintro e wp ⟨rfl,bp⟩;have p0:=cell_keep bp o0;have p1:=cell_keep bp o1)
   |(go_at_call 5;(with_reducible refine(law19_of _ _ _ _ _ _).mono ?_);rintro e wq ⟨rfl,bq⟩;have q0:=cell_keep bq p0;have q1:=cell_keep bq p1)
   |(go_at_call 5;(with_reducible refine(law19_of _ _ _ _ _ _).mono ?_);rintro e wo ⟨rfl,bo⟩;have o0:=cell_keep bo a0;have o1:=cell_keep bo a1)
   |fail)
 all_goals (
  go_wp2
  go_ret
  exact⟨rfl,(hv0.trans (ba.mono hv0.size)).trans (((bo.trans (bp.mono bo.size)).trans (bq.mono (bo.trans (bp.mono bo.size)).size)).mono (hv0.trans (ba.mono hv0.size)).size)⟩)
theorem law_digits (e f:Int) (b:Nat) (n ok:Bool) (s:ByteArray) (x r:Int)
 (hA:∀W,Tab5 W→TabU W→Calls Tryz.prog 8 #[.agg #[.int .i64 e,.int .i64 f],.int .u64 (b:Int)] W (Says W (.tuple #[.agg #[.bool n,.string s,.int .i64 x],.bool ok,.int .i64 r])))
 (hB:∀W,Tz W→Calls Tryz.prog 9 #[.agg #[.int .i64 e,.int .i64 f],.int .u64 (b:Int)] W (Says W (.tuple #[.agg #[.bool n,.string s,.int .i64 x],.bool ok,.int .i64 r])))
 (w:World) (hT:Tab5 w) (hU:TabU w) (hZ:Tz w):
 Calls Tryz.prog 4 #[.agg #[.int .i64 e,.int .i64 f],.int .u64 (b:Int)] w (Says w (.bool true)):=by
 obtain⟨v0,hvv0,hv0,k1⟩:=Blk.al w 23 #[.int .i64 e,.int .i64 f]
 go_enter Tryz.func4,Tryz.ntmps4
 go_upto_region 1 with fail
 rw[←hvv0]
 clear hvv0
 have hTd:Tab5 v0.drew:=hT.below hv0.drew
 have hUd:TabU v0.drew:=hU.below hv0.drew
 have hZd:Tz v0:=hZ.below hv0
 obtain⟨c0,c1,kz, -⟩:=k1.b2
 go_region_held3 (fun w'=>w'.cell? ⟨w.heap.size,0,none⟩=some (.int .i64 e)∧w'.cell? ⟨w.heap.size,1,none⟩=some (.int .i64 f))
  (first|exact⟨c0,c1⟩|exact⟨a0,a1⟩|exact⟨o0,o1⟩|exact⟨p0,p1⟩|exact⟨q0,q1⟩|go_keep)
  (first
   |(go_at_call 8;(with_reducible refine(hA _ hTd hUd).mono ?_);rintro e wa ⟨rfl,ba'⟩;have ba:Below v0.heap.size v0 wa:=(Below.refl v0.heap.size v0).drew.trans ba';have a0:=cell_keep ba c0;have a1:=cell_keep ba c1)
   |(go_at_call 9;(with_reducible refine(hB _ ((hZd.below ba).below bo)).mono ?_);rintro e wp ⟨rfl,bp⟩;have p0:=cell_keep bp o0;have p1:=cell_keep bp o1)
   |(go_at_call 5;(with_reducible refine(law19_of _ _ _ _ _ _).mono ?_);rintro e wq ⟨rfl,bq⟩;have q0:=cell_keep bq p0;have q1:=cell_keep bq p1)
   |(go_at_call 5;(with_reducible refine(law19_of _ _ _ _ _ _).mono ?_);rintro e wo ⟨rfl,bo⟩;have o0:=cell_keep bo a0;have o1:=cell_keep bo a1)
   |fail)
 all_goals (
  go_wp2
  go_ret
  exact⟨rfl,(hv0.trans (ba.mono hv0.size)).trans (((bo.trans (bp.mono bo.size)).trans (bq.mono (bo.trans (bp.mono bo.size)).size)).mono (hv0.trans (ba.mono hv0.size)).size)⟩)
theorem some_walk (e f:Int) (b:Nat) (D:Int) (hb64:b<18446744073709551616) (w:World) (hT:Tab5 w) (hU:TabU w) (hZ:Tz w):
 Calls Tryz.prog 3 #[.agg #[.int .i64 e,.int .i64 f],.int .u64 (b:Int),.int .i64 D] w (Says w (.bool true)):=by
 by_cases hfit:Fo.fitS e f b=0
 · obtain⟨E,F,rfl,rfl,hE1,hE2,hF1,hF2,hb⟩:=Fo.fit_ok hfit
   obtain⟨⟨ng,X,Y⟩,hs⟩:∃z,Fo.splitF E F b=z:=⟨_,rfl⟩
   by_cases hX:X+1=2^E
   · have hO:=fun W=>open_far hE1 hE2 hF1 hF2 hb hs hX W
     exact law_some _ _ b D _ _ _ _ _ (fun W _ _=>some_err _ _ b _ _ _ _ _ 8 _ D (by decide) hO W) (fun W _=>ref19_some_far E F b X Y ng hE1 hE2 hF1 hF2 hb64 hb hfit hs hX D W) w hT hU hZ
   · by_cases h1:D<1
     · by_cases hz:X=0∧Y=0
       · obtain⟨rfl,rfl⟩:=hz
         have hO:=fun W=>open_nought hE1 hE2 hF1 hF2 hb hs W
         exact law_some _ _ b D _ _ _ _ _ (fun W _ _=>some_places_lo _ _ b _ _ _ _ _ _ D h1 hO W) (fun W _=>ref19_some_lo E F b 0 0 ng hE1 hE2 hF1 hF2 hb64 hb hfit hs hX D h1 W) w hT hU hZ
       · have hO:=fun W=>open_num hE1 hE2 hF1 hF2 hb hs hX hz W
         exact law_some _ _ b D _ _ _ _ _ (fun W _ _=>some_places_lo _ _ b _ _ _ _ _ _ D h1 hO W) (fun W _=>ref19_some_lo E F b X Y ng hE1 hE2 hF1 hF2 hb64 hb hfit hs hX D h1 W) w hT hU hZ
     · by_cases h2:17<D
       · by_cases hz:X=0∧Y=0
         · obtain⟨rfl,rfl⟩:=hz
           have hO:=fun W=>open_nought hE1 hE2 hF1 hF2 hb hs W
           exact law_some _ _ b D _ _ _ _ _ (fun W _ _=>some_places_hi _ _ b _ _ _ _ _ _ D h2 hO W) (fun W _=>ref19_some_hi E F b 0 0 ng hE1 hE2 hF1 hF2 hb64 hb hfit hs hX D h2 W) w hT hU hZ
         · have hO:=fun W=>open_num hE1 hE2 hF1 hF2 hb hs hX hz W
           exact law_some _ _ b D _ _ _ _ _ (fun W _ _=>some_places_hi _ _ b _ _ _ _ _ _ D h2 hO W) (fun W _=>ref19_some_hi E F b X Y ng hE1 hE2 hF1 hF2 hb64 hb hfit hs hX D h2 W) w hT hU hZ
       · obtain⟨n,rfl⟩:∃n:Nat,D=(n:Int):=⟨D.toNat,by omega⟩
         by_cases hz:X=0∧Y=0
         · obtain⟨rfl,rfl⟩:=hz
           have hO:=fun W=>open_nought hE1 hE2 hF1 hF2 hb hs W
           exact law_some _ _ b n _ _ _ _ _ (fun W _ _=>some_no _ _ b _ _ _ _ _ n (by omega) hO W) (fun W _=>ref19_some_nought E F b 0 0 ng hE1 hE2 hF1 hF2 hb64 hb hfit hs hX rfl rfl n (by omega) (by omega) W) w hT hU hZ
         · obtain⟨b1,b2,b3,b4⟩:=num_bd hE1 hE2 hF1 hF2 hs hX hz
           obtain⟨P,hP,hP1,hP2⟩:=first_form b1 b2 b3 b4
           have hA:=fun W hT hU=>some_num hE1 hE2 hF1 hF2 hb hs hX hz hP hP1 hP2 (n:=n) (by omega) (by omega) W hT hU
           have hB:=fun W hZ=>ref19_some_num E F b X Y ng hE1 hE2 hF1 hF2 hb64 hb hfit hs hX hz P hP hP1 hP2 n (by omega) (by omega) W hZ
           generalize someS (mF F X Y) (qF E F X) P n=A at hA hB
           cases A with
           |none=>exact law_some _ _ b n _ _ _ _ _ hA hB w hT hU hZ
           |some v=>exact law_some _ _ b n _ _ _ _ _ hA hB w hT hU hZ
 · have hO:=fun W=>open_bad hb64 hfit W
   exact law_some _ _ b D _ _ _ _ _ (fun W _ _=>some_err _ _ b _ _ _ _ _ _ _ D hfit hO W) (fun W _=>ref19_some_bad e f b D hb64 hfit W) w hT hU hZ
end Bg
end Go.Proofs.YtenekbfnlbipiaaGreatDoor
namespace Go.Proofs.YtenekbfnlbipiaaGreatDoor
open Go.ChangeShapes Go.WideShapes Go.ChangeAt Go.WideMaps Go.WideElems Go.RowKit
open Go.RowKit
set_option linter.unusedVariables false
set_option linter.unusedSimpArgs false
set_option maxHeartbeats 4000000
set_option maxRecDepth 100000

def laid6:List (String × DataW Unit):=[("math/bits.deBruijn32tab",Rows.laid_math_bits_deBruijn32tab),("math/bits.deBruijn64tab",Rows.laid_math_bits_deBruijn64tab),("internal/strconv.uint64pow10",Rows.laid_internal_strconv_uint64pow10),("unicode/utf8.acceptRanges",Rows.laid_unicode_utf8_acceptRanges),("numeral/power.fives",Rows.laid_numeral_power_fives),("unicode/utf8.first",Rows.laid_unicode_utf8_first)]
def fiveZ:List Int:=(List.range 28).map fun j=>((5^j:Nat):Int)
theorem g5:Tryz.prog.globalNamed "numeral/power.fives" =some 0:=by kernel_rfl
theorem t5:(Tryz.prog.globals[0]?).map (·.type)=some 201:=by kernel_rfl
theorem gU:Tryz.prog.globalNamed "internal/strconv.uint64pow10" =some 1:=by kernel_rfl
theorem tU:(Tryz.prog.globals[1]?).map (·.type)=some 216:=by kernel_rfl
theorem laid_fives {H:Type}:(Rows.laid_numeral_power_fives:DataW H)=Lib.tabData .u64 fiveZ:=rfl
theorem laid_tens {H:Type}:(Rows.laid_internal_strconv_uint64pow10:DataW H)=Lib.tabData .u64 Lib.pow10Tab:=rfl
def dB32:List Int:=Lib.deBruijn32tab.map fun n:Nat=>(n:Int)
theorem g32:Tryz.prog.globalNamed "math/bits.deBruijn32tab" =some 5:=by kernel_rfl
theorem t32:(Tryz.prog.globals[5]?).map (·.type)=some 241:=by kernel_rfl
theorem laid_32 {H:Type}:(Rows.laid_math_bits_deBruijn32tab:DataW H)=Lib.tabData .u8 dB32:=rfl
theorem tz_of6 {W:World} (h:laidMetH Tryz.prog laid6 W):Bg.Tz W:=by
 rw[MakeChecks.laidMetH_plain _ _ _ (by kernel_rfl)] at h
 unfold laid6 at h
 rw[laid_32] at h
 have ht:=Lib.tabIs_of_head g32 t32 Tryz.underlying241 Tryz.underlying5 (by kernel_rfl) (by kernel_rfl) h
 intro j hj
 have hl:dB32.length=Lib.deBruijn32tab.length:=by unfold dB32;simp
 have h1:=ht.cell g32 j (by rw[hl];exact hj)
 rw[h1]
 have:dB32.getD j 0=((Lib.deBruijn32tab.getD j 0:Nat):Int):=by
  unfold dB32
  rw[List.getD_eq_getElem?_getD,List.getElem?_map,List.getElem?_eq_getElem hj,List.getD_eq_getElem?_getD,List.getElem?_eq_getElem hj]
  rfl
 rw[this]
theorem tab5_of6 {W:World} (h:laidMetH Tryz.prog laid6 W):Tab5 W:=by
 rw[MakeChecks.laidMetH_plain _ _ _ (by kernel_rfl)] at h
 unfold laid6 at h
 have h5:=h.tail.tail.tail.tail
 rw[laid_fives] at h5
 have ht:=Lib.tabIs_of_head g5 t5 Tryz.underlying201 Tryz.underlying24 (by kernel_rfl) (by kernel_rfl) h5
 intro j hj
 have hl:fiveZ.length=28:=rfl
 have h1:=ht.cell g5 j (by rw[hl];exact hj)
 rw[h1]
 have:fiveZ.getD j 0=((5^j:Nat):Int):=by
  unfold fiveZ
  rw[List.getD_eq_getElem?_getD,List.getElem?_map,List.getElem?_range hj]
  rfl
 rw[this]
theorem tabU_of6 {W:World} (h:laidMetH Tryz.prog laid6 W):TabU W:=by
 rw[MakeChecks.laidMetH_plain _ _ _ (by kernel_rfl)] at h
 unfold laid6 at h
 have h5:=h.tail.tail
 rw[laid_tens] at h5
 exact Lib.tabIs_of_head gU tU Tryz.underlying216 Tryz.underlying24 (by kernel_rfl) (by kernel_rfl) h5
set_option maxRecDepth 100000 in
theorem door_met6 (os:Os) (args:Array Value):laidMetH Tryz.prog laid6 ((World.laidAll Tryz.prog os laid6).forCall (fun _ _=>0) ⟨#[],args,[]⟩).memory:=by
 rw[MakeChecks.laidMetH_plain _ _ _ (by kernel_rfl)]
 exact laidMet_laidAll _ (by kernel_rfl) (by kernel_rfl)
end Go.Proofs.YtenekbfnlbipiaaGreatDoor
