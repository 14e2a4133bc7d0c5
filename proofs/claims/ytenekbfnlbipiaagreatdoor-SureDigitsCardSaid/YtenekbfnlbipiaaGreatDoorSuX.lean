/- Walk: the shortest digits by 128 bits. -/
import Derived.Test.YtenekbfnlbipiaaGreatDoorSuV
import Derived.Deep.Light
namespace Go.Proofs.YtenekbfnlbipiaaGreatDoor
open Go.RowKit
set_option linter.unusedVariables false
set_option linter.unusedSimpArgs false
set_option maxHeartbeats 4000000
set_option maxRecDepth 100000
def digV (ng:Bool):Option (Nat × Int)→Value
 |none=>.tuple #[.agg #[.bool false,.string ⟨#[]⟩,.int .i64 0],.bool false,.int .i64 0]
 |some (x,s)=>.tuple #[.agg #[.bool ng,.string ⟨(mkD (Lib.decDigits x) s).1.toArray⟩,.int .i64 (mkD (Lib.decDigits x) s).2],.bool true,.int .i64 0]
theorem sure_digits_b (e f:Int) (b:Nat) (ng:Bool) (m:Nat) (q P:Int)
 (hO:∀W,Calls Tryz.prog 10 #[.agg #[.int .i64 e,.int .i64 f],.int .u64 (b:Int)] W (Says W (.tuple #[.agg #[.bool ng,.int .u64 (m:Int),.int .i64 q,.bool false],.bool true,.agg #[.bool false,.string ⟨#[]⟩,.int .i64 0],.int .i64 0])))
 (h0:m≠0) (hm:m<9007199254740992) (hq1: -1074≤q) (hq2:q≤1022) (hP:IsFirst m q P) (hP1: -350≤P) (hP2:P<350) (w:World) (hT:Tab5 w) (hU:TabU w):
 Calls Tryz.prog 8 #[.agg #[.int .i64 e,.int .i64 f],.int .u64 (b:Int)] w (Says w (digV ng (digS m q P (decide (m%2=0)) (4*m-2) 17 1))):=by
 have hFi:=fun W hT=>sure_first ng false m q P h0 hm hq1 hq2 hP hP1 hP2 W hT
 have hand:=and1n m (by omega)
 have hT0:=hT
 have hU0:=hU
 obtain⟨mp,hmp⟩:∃mp,mp=m%2:=⟨_,rfl⟩
 rw[←hmp] at hand
 have hin:((mp:Int)==0)=decide (m%2=0):=by rw[int_eq0,hmp]
 obtain⟨inn,hinn⟩:∃inn,inn=decide (m%2=0):=⟨_,rfl⟩
 rw[←hinn] at hin ⊢
 obtain⟨RES,hRES⟩:∃RES,RES=digS m q P inn (4*m-2) 17 1:=⟨_,rfl⟩
 rw[←hRES]
 have HRES:=Lib.hid hRES
 have HP:=Lib.hid hP
 have H0:=Lib.hid h0
 clear hRES hP h0 hmp hinn
 have hb0:Below w.heap.size w w:=Below.refl _ _
 go_enter Tryz.func8,Tryz.ntmps8
 go_upto_region 1 with fail
 obtain⟨v1,E_,hv1,k1,k2⟩:=Blk.a2 w 23 #[.int .i64 e,.int .i64 f] 26 #[.bool false,.string ⟨#[]⟩,.int .i64 0]
 replace hb0:=hb0.trans (hv1.mono hb0.size)
 replace hT:=hT.below hv1
 replace hU:=hU.below hv1
 rw[E_]
 clear hv1 E_
 obtain⟨k1c0,k1c1,k1z,k1f0,k1f1⟩:=k1.b2
 obtain⟨k2c0,k2c1,k2c2,k2z,k2f0,k2f1,k2f2⟩:=k2.b3
 go_wp2_with fail
 clear k1c0 k1f0 k1c1 k1f1 k1z k2c0 k2f0 k2c1 k2f1 k2c2 k2f2 k2z
 refine(hO _).mono ?_
 rintro e w2 ⟨rfl,hb2⟩
 replace hb0:=hb0.trans (hb2.mono hb0.size)
 replace hT:=hT.below hb2
 replace hU:=hU.below hb2
 replace k1:=k1.below hb2 k1.lt
 replace k2:=k2.below hb2 k2.lt
 clear hb2
 go_upto_region 2 with fail
 have l3:w.heap.size+1<w2.heap.size:=k2.lt
 obtain⟨v3,E_,hv3,k3,k4⟩:=Blk.a2 w2 37 #[.bool ng,.int .u64 (m:Int),.int .i64 q,.bool false] 26 #[.bool false,.string ⟨#[]⟩,.int .i64 0]
 replace hb0:=hb0.trans (hv3.mono hb0.size)
 replace hT:=hT.below hv3
 replace hU:=hU.below hv3
 replace k1:=k1.below hv3 k1.lt
 replace k2:=k2.below hv3 k2.lt
 rw[E_]
 clear hv3 E_
 obtain⟨k1c0,k1c1,k1z,k1f0,k1f1⟩:=k1.b2
 obtain⟨k2c0,k2c1,k2c2,k2z,k2f0,k2f1,k2f2⟩:=k2.b3
 obtain⟨k3c0,k3c1,k3c2,k3c3,k3z,k3f0,k3f1,k3f2,k3f3⟩:=k3.b4
 obtain⟨k4c0,k4c1,k4c2,k4z,k4f0,k4f1,k4f2⟩:=k4.b3
 go_wp2_with fail
 clear k1c0 k1f0 k1c1 k1f1 k1z k2c0 k2f0 k2c1 k2f1 k2c2 k2f2 k2z k3c0 k3f0 k3c1 k3f1 k3c2 k3f2 k3c3 k3f3 k3z k4c0 k4f0 k4c1 k4f1 k4c2 k4f2 k4z
 refine(hFi _ hT).mono ?_
 rintro e w4 ⟨rfl,hb4⟩
 replace hb0:=hb0.trans (hb4.mono hb0.size)
 replace hT:=hT.below hb4
 replace hU:=hU.below hb4
 replace k1:=k1.below hb4 k1.lt
 replace k2:=k2.below hb4 k2.lt
 replace k3:=k3.below hb4 k3.lt
 replace k4:=k4.below hb4 k4.lt
 clear hb4
 obtain⟨k1c0,k1c1,k1z,k1f0,k1f1⟩:=k1.b2
 obtain⟨k2c0,k2c1,k2c2,k2z,k2f0,k2f1,k2f2⟩:=k2.b3
 obtain⟨k3c0,k3c1,k3c2,k3c3,k3z,k3f0,k3f1,k3f2,k3f3⟩:=k3.b4
 obtain⟨k4c0,k4c1,k4c2,k4z,k4f0,k4f1,k4f2⟩:=k4.b3
 go_wp2
 clear k1c0 k1f0 k1c1 k1f1 k1z k2c0 k2f0 k2c1 k2f1 k2c2 k2f2 k2z k3c0 k3f0 k3c1 k3f1 k3c2 k3f2 k3c3 k3f3 k3z k4c0 k4f0 k4c1 k4f1 k4c2 k4f2 k4z
 clear hand hin hFi
 go_loopw [14] (fun v14 wr=>∃n:Nat,v14=.int .i64 (n:Int)∧1≤n∧n≤18∧digS m q P inn (4*m-2) (18-n) n=RES∧Blk wr (w.heap.size+1) 26 #[.bool false,.string ⟨#[]⟩,.int .i64 0]∧Blk wr (w2.heap.size) 37 #[.bool ng,.int .u64 (m:Int),.int .i64 q,.bool false]∧Below w.heap.size w wr) (fun v14 _=>19-(intOf v14).toNat)
 case atStart=>exact⟨1,rfl,by omega,by omega,HRES.out.symm,k2,k3,hb0⟩
 case round=>
  clear k1 k2 k3 k4 hb0 hT hU
  obtain⟨n,rfl,hn1,hn18,hdg,k2,k3,hb0⟩:=hrel
  by_cases hn2:n≤17
  · have hg17:decide ((n:Int)≤17)=true:=by simp;omega
    have hT:=hT0.below hb0
    have hU:=hU0.below hb0
    have h0:=H0.out
    have hP:=HP.out
    have hm0:0<m:=Nat.pos_of_ne_zero h0
    have hstep:(match roundS m q P inn (4*m-2) n with|none=>digS m q P inn (4*m-2) (17-n) (n+1)|some none=>none|some (some x)=>some (x,P+1-n))=RES:=by
     rw[show 18-n=17-n+1 by omega] at hdg
     exact hdg
    clear hdg
    have hf:farB (kS P n)=false:=by unfold kS;simp only[farB,Bool.or_eq_false_iff,decide_eq_false_iff_not];omega
    have hks: -(P+1-(n:Int))=kS P n:=by unfold kS;omega
    have hAt:=fun W hT=>sure_at P n (P+1-n) (by omega) (by omega) (by omega) (by omega) rfl (by rw[hks];exact hf) W hT
    rw[hks] at hAt
    have hXb: -2000≤tenE (kS P n)∧tenE (kS P n)≤2000:=by
     have:=tS_le hf
     unfold tenE
     simp only[farB,Bool.or_eq_false_iff,decide_eq_false_iff_not] at hf
     split <;> omega
    obtain⟨N,hN,n1,n2,hall⟩:=scale_ok h0 hm hP hn1 hn2 (k:=kS P n) rfl hf
    have hNS:NS q P n=N:=by unfold NS;rw[hN,Int.toNat_natCast]
    have e256:(2:Nat)^192≤2^256:=Nat.pow_le_pow_right (by decide) (by decide)
    have hT1:tenN (kS P n)<2^256:=Nat.lt_of_lt_of_le (tenN_bd hf).2 (Nat.pow_le_pow_right (by decide) (by decide))
    have hT2:kB (kS P n)<2^256:=by
     have h1:=(tenN_bd hf).2
     have h2:kB (kS P n)≤tenN (kS P n)+1:=by unfold kB;split <;> omega
     have h3:(2:Nat)^128<2^256:=Nat.pow_lt_pow_right (by decide) (by decide)
     omega
    obtain⟨a1,a2,a3,a4,a5,a6⟩:=hall (4*m-2) (by omega) (by omega)
    have hSda:=fun W=>sure_side ng false m (4*m-2) (tenN (kS P n)) (kB (kS P n)) q (tenE (kS P n)) (P+1-n) (-2) (by omega) (by omega) (by omega) (by omega) (by omega) (by omega) (by omega) hT1 hT2 (Nat.lt_of_lt_of_le a1 e256) (Nat.lt_of_lt_of_le a2 e256) W
    rw[hN] at hSda
    obtain⟨b1,b2,b3,b4,b5,b6⟩:=hall (4*m+2) (by omega) (by omega)
    have hSdb:=fun W=>sure_side ng false m (4*m+2) (tenN (kS P n)) (kB (kS P n)) q (tenE (kS P n)) (P+1-n) 2 (by omega) (by omega) (by omega) (by omega) (by omega) (by omega) (by omega) hT1 hT2 (Nat.lt_of_lt_of_le b1 e256) (Nat.lt_of_lt_of_le b2 e256) W
    rw[hN] at hSdb
    obtain⟨c1,c2,c3,c4,c5,c6⟩:=hall (4*m) (by omega) (by omega)
    have hSdc:=fun W=>sure_side ng false m (4*m) (tenN (kS P n)) (kB (kS P n)) q (tenE (kS P n)) (P+1-n) 0 (by omega) (by omega) (by omega) (by omega) (by omega) (by omega) (by omega) hT1 hT2 (Nat.lt_of_lt_of_le c1 e256) (Nat.lt_of_lt_of_le c2 e256) W
    rw[hN] at hSdc
    have hq60:(2:Nat)^60=1152921504606846976:=rfl
    have hcl:=ceil_lt inn a3
    have hfl:=floor_lt inn b3
    have hnl:=near_lt c3
    have hL:=fun W=>sure_least (tenN (kS P n)*(4*m-2)) (kB (kS P n)*(4*m-2)) N a1 a2 n1 n2 (by rw[hq60] at a3;omega) (by rw[hq60] at a4;omega) inn W
    have hG:=fun W=>sure_greatest (tenN (kS P n)*(4*m+2)) (kB (kS P n)*(4*m+2)) N b1 b2 n1 n2 (by rw[hq60] at b3;omega) (by rw[hq60] at b4;omega) inn b5 b6 W
    have hNr:=fun W=>sure_nearest (tenN (kS P n)*(4*m)) (kB (kS P n)*(4*m)) N c1 c2 n1 n2 (by rw[hq60] at c3;omega) (by rw[hq60] at c4;omega) W
    unfold roundS someS loE hiE at hstep
    rw[hNS] at hstep
    generalize ceilS inn (tenN (kS P n)*(4*m-2)) N=C1 at hL hstep hcl
    generalize ceilS inn (kB (kS P n)*(4*m-2)) N=C2 at hL hstep
    generalize floorS inn (tenN (kS P n)*(4*m+2)) N=F1 at hG hstep hfl
    generalize floorS inn (kB (kS P n)*(4*m+2)) N=F2 at hG hstep
    generalize nearS (tenN (kS P n)*(4*m)) N=R1 at hNr hstep hnl
    generalize nearS (kB (kS P n)*(4*m)) N=R2 at hNr hstep
    have hDc:=fun W hU=>sure_decimal ng false m (max C1 (min F1 R1)) q (P+1-n) (by omega) (by omega) (by omega) W hU
    obtain⟨x0,x1,x2,x3,hx⟩:∃a b c d:Nat,W4 (tenN (kS P n))=#[.int .u64 (a:Int),.int .u64 (b:Int),.int .u64 (c:Int),.int .u64 (d:Int)]:=⟨_,_,_,_,rfl⟩
    obtain⟨y0,y1,y2,y3,hy⟩:∃a b c d:Nat,W4 (kB (kS P n))=#[.int .u64 (a:Int),.int .u64 (b:Int),.int .u64 (c:Int),.int .u64 (d:Int)]:=⟨_,_,_,_,rfl⟩
    obtain⟨ap0,ap1,ap2,ap3,hap⟩:∃a b c d:Nat,W4 (tenN (kS P n)*(4*m-2))=#[.int .u64 (a:Int),.int .u64 (b:Int),.int .u64 (c:Int),.int .u64 (d:Int)]:=⟨_,_,_,_,rfl⟩
    obtain⟨ar0,ar1,ar2,ar3,har⟩:∃a b c d:Nat,W4 (kB (kS P n)*(4*m-2))=#[.int .u64 (a:Int),.int .u64 (b:Int),.int .u64 (c:Int),.int .u64 (d:Int)]:=⟨_,_,_,_,rfl⟩
    obtain⟨bp0,bp1,bp2,bp3,hbp⟩:∃a b c d:Nat,W4 (tenN (kS P n)*(4*m+2))=#[.int .u64 (a:Int),.int .u64 (b:Int),.int .u64 (c:Int),.int .u64 (d:Int)]:=⟨_,_,_,_,rfl⟩
    obtain⟨br0,br1,br2,br3,hbr⟩:∃a b c d:Nat,W4 (kB (kS P n)*(4*m+2))=#[.int .u64 (a:Int),.int .u64 (b:Int),.int .u64 (c:Int),.int .u64 (d:Int)]:=⟨_,_,_,_,rfl⟩
    obtain⟨cp0,cp1,cp2,cp3,hcp⟩:∃a b c d:Nat,W4 (tenN (kS P n)*(4*m))=#[.int .u64 (a:Int),.int .u64 (b:Int),.int .u64 (c:Int),.int .u64 (d:Int)]:=⟨_,_,_,_,rfl⟩
    obtain⟨cr0,cr1,cr2,cr3,hcr⟩:∃a b c d:Nat,W4 (kB (kS P n)*(4*m))=#[.int .u64 (a:Int),.int .u64 (b:Int),.int .u64 (c:Int),.int .u64 (d:Int)]:=⟨_,_,_,_,rfl⟩
    rw[hx,hy] at hAt hSda hSdb hSdc
    rw[hap,har] at hSda hL
    rw[hbp,hbr] at hSdb hG
    rw[hcp,hcr] at hSdc hNr
    clear hx hy hap har hbp hbr hcp hcr hN hNS hall hT1 hT2 e256 a1 a2 a3 a4 a5 a6 b1 b2 b3 b4 b5 b6 c1 c2 c3 c4 c5 c6 hf hks hq60 n1 n2 h0 hP hcl hfl hnl
    generalize tenE (kS P n)=X at*
    clear hXb
    replace hAt:∀(W:World),Tab5 W→Calls Tryz.prog 12 #[.int .i64 P,.int .i64 (n:Int)] W (Says W (.tuple #[.agg #[.int .u64 (x0:Int),.int .u64 (x1:Int),.int .u64 (x2:Int),.int .u64 (x3:Int),.int .u64 (y0:Int),.int .u64 (y1:Int),.int .u64 (y2:Int),.int .u64 (y3:Int),.int .i64 X,.int .i64 (P+1-n)],.int .i64 0])):=hAt
    replace hSda:∀(W:World),Calls Tryz.prog 13 #[.agg #[.bool ng,.int .u64 (m:Int),.int .i64 q,.bool false],.agg #[.int .u64 (x0:Int),.int .u64 (x1:Int),.int .u64 (x2:Int),.int .u64 (x3:Int),.int .u64 (y0:Int),.int .u64 (y1:Int),.int .u64 (y2:Int),.int .u64 (y3:Int),.int .i64 X,.int .i64 (P+1-n)],.int .i64 (-2)] W (Says W (.tuple #[.agg #[.int .u64 (ap0:Int),.int .u64 (ap1:Int),.int .u64 (ap2:Int),.int .u64 (ap3:Int)],.agg #[.int .u64 (ar0:Int),.int .u64 (ar1:Int),.int .u64 (ar2:Int),.int .u64 (ar3:Int)],.int .i64 (N:Int)])):=hSda
    replace hSdb:∀(W:World),Calls Tryz.prog 13 #[.agg #[.bool ng,.int .u64 (m:Int),.int .i64 q,.bool false],.agg #[.int .u64 (x0:Int),.int .u64 (x1:Int),.int .u64 (x2:Int),.int .u64 (x3:Int),.int .u64 (y0:Int),.int .u64 (y1:Int),.int .u64 (y2:Int),.int .u64 (y3:Int),.int .i64 X,.int .i64 (P+1-n)],.int .i64 2] W (Says W (.tuple #[.agg #[.int .u64 (bp0:Int),.int .u64 (bp1:Int),.int .u64 (bp2:Int),.int .u64 (bp3:Int)],.agg #[.int .u64 (br0:Int),.int .u64 (br1:Int),.int .u64 (br2:Int),.int .u64 (br3:Int)],.int .i64 (N:Int)])):=hSdb
    replace hSdc:∀(W:World),Calls Tryz.prog 13 #[.agg #[.bool ng,.int .u64 (m:Int),.int .i64 q,.bool false],.agg #[.int .u64 (x0:Int),.int .u64 (x1:Int),.int .u64 (x2:Int),.int .u64 (x3:Int),.int .u64 (y0:Int),.int .u64 (y1:Int),.int .u64 (y2:Int),.int .u64 (y3:Int),.int .i64 X,.int .i64 (P+1-n)],.int .i64 0] W (Says W (.tuple #[.agg #[.int .u64 (cp0:Int),.int .u64 (cp1:Int),.int .u64 (cp2:Int),.int .u64 (cp3:Int)],.agg #[.int .u64 (cr0:Int),.int .u64 (cr1:Int),.int .u64 (cr2:Int),.int .u64 (cr3:Int)],.int .i64 (N:Int)])):=hSdc
    have HS:=Lib.hid hstep
    clear hstep
    obtain⟨k2c0,k2c1,k2c2,k2z,k2f0,k2f1,k2f2⟩:=k2.b3
    obtain⟨k3c0,k3c1,k3c2,k3c3,k3z,k3f0,k3f1,k3f2,k3f3⟩:=k3.b4
    go_wp2_with fail
    clear k2c0 k2f0 k2c1 k2f1 k2c2 k2f2 k2z k3c0 k3f0 k3c1 k3f1 k3c2 k3f2 k3c3 k3f3 k3z
    refine(hAt _ hT).mono ?_
    rintro e w1 ⟨rfl,hb1⟩
    replace k2:=k2.below hb1 k2.lt
    replace k3:=k3.below hb1 k3.lt
    replace hb0:=hb0.trans (hb1.mono hb0.size)
    replace hT:=hT.below hb1
    replace hU:=hU.below hb1
    clear hb1
    go_upto_region 15 with fail
    have l5:w2.heap.size<w1.heap.size:=k3.lt
    obtain⟨v2,E_,hv2,k5⟩:=Blk.a1 w1 45 #[.int .u64 (x0:Int),.int .u64 (x1:Int),.int .u64 (x2:Int),.int .u64 (x3:Int),.int .u64 (y0:Int),.int .u64 (y1:Int),.int .u64 (y2:Int),.int .u64 (y3:Int),.int .i64 X,.int .i64 (P+1-n)]
    replace k2:=k2.below hv2 k2.lt
    replace k3:=k3.below hv2 k3.lt
    replace hb0:=hb0.trans (hv2.mono hb0.size)
    replace hT:=hT.below hv2
    replace hU:=hU.below hv2
    rw[E_]
    clear hv2 E_
    have k2c0:=k2.cell 0
    have k2f0:=k2.frozen 0
    have k2c1:=k2.cell 1
    have k2f1:=k2.frozen 1
    have k2c2:=k2.cell 2
    have k2f2:=k2.frozen 2
    have k2z:=k2.lt
    have k3c0:=k3.cell 0
    have k3f0:=k3.frozen 0
    have k3c1:=k3.cell 1
    have k3f1:=k3.frozen 1
    have k3c2:=k3.cell 2
    have k3f2:=k3.frozen 2
    have k3c3:=k3.cell 3
    have k3f3:=k3.frozen 3
    have k3z:=k3.lt
    have k5c0:=k5.cell 0
    have k5f0:=k5.frozen 0
    have k5c1:=k5.cell 1
    have k5f1:=k5.frozen 1
    have k5c2:=k5.cell 2
    have k5f2:=k5.frozen 2
    have k5c3:=k5.cell 3
    have k5f3:=k5.frozen 3
    have k5c4:=k5.cell 4
    have k5f4:=k5.frozen 4
    have k5c5:=k5.cell 5
    have k5f5:=k5.frozen 5
    have k5c6:=k5.cell 6
    have k5f6:=k5.frozen 6
    have k5c7:=k5.cell 7
    have k5f7:=k5.frozen 7
    have k5c8:=k5.cell 8
    have k5f8:=k5.frozen 8
    have k5c9:=k5.cell 9
    have k5f9:=k5.frozen 9
    have k5z:=k5.lt
    simp only[geCells] at k2c0 k2c1 k2c2 k3c0 k3c1 k3c2 k3c3 k5c0 k5c1 k5c2 k5c3 k5c4 k5c5 k5c6 k5c7 k5c8 k5c9
    go_wp2_with fail
    clear k2c0 k2f0 k2c1 k2f1 k2c2 k2f2 k2z k3c0 k3f0 k3c1 k3f1 k3c2 k3f2 k3c3 k3f3 k3z k5c0 k5f0 k5c1 k5f1 k5c2 k5f2 k5c3 k5f3 k5c4 k5f4 k5c5 k5f5 k5c6 k5f6 k5c7 k5f7 k5c8 k5f8 k5c9 k5f9 k5z
    refine(hSda _).mono ?_
    rintro e w3 ⟨rfl,hb3⟩
    replace k2:=k2.below hb3 k2.lt
    replace k3:=k3.below hb3 k3.lt
    replace hb0:=hb0.trans (hb3.mono hb0.size)
    replace hT:=hT.below hb3
    replace hU:=hU.below hb3
    replace k5:=k5.below hb3 k5.lt
    clear hb3
    go_upto_region 18 with fail
    have l6:w1.heap.size<w3.heap.size:=k5.lt
    obtain⟨v4,E_,hv4,k6,k7⟩:=Blk.a2 w3 43 #[.int .u64 (ap0:Int),.int .u64 (ap1:Int),.int .u64 (ap2:Int),.int .u64 (ap3:Int)] 43 #[.int .u64 (ar0:Int),.int .u64 (ar1:Int),.int .u64 (ar2:Int),.int .u64 (ar3:Int)]
    replace k2:=k2.below hv4 k2.lt
    replace k3:=k3.below hv4 k3.lt
    replace hb0:=hb0.trans (hv4.mono hb0.size)
    replace hT:=hT.below hv4
    replace hU:=hU.below hv4
    replace k5:=k5.below hv4 k5.lt
    rw[E_]
    clear hv4 E_
    have k2c0:=k2.cell 0
    have k2f0:=k2.frozen 0
    have k2c1:=k2.cell 1
    have k2f1:=k2.frozen 1
    have k2c2:=k2.cell 2
    have k2f2:=k2.frozen 2
    have k2z:=k2.lt
    have k3c0:=k3.cell 0
    have k3f0:=k3.frozen 0
    have k3c1:=k3.cell 1
    have k3f1:=k3.frozen 1
    have k3c2:=k3.cell 2
    have k3f2:=k3.frozen 2
    have k3c3:=k3.cell 3
    have k3f3:=k3.frozen 3
    have k3z:=k3.lt
    have k5c0:=k5.cell 0
    have k5f0:=k5.frozen 0
    have k5c1:=k5.cell 1
    have k5f1:=k5.frozen 1
    have k5c2:=k5.cell 2
    have k5f2:=k5.frozen 2
    have k5c3:=k5.cell 3
    have k5f3:=k5.frozen 3
    have k5c4:=k5.cell 4
    have k5f4:=k5.frozen 4
    have k5c5:=k5.cell 5
    have k5f5:=k5.frozen 5
    have k5c6:=k5.cell 6
    have k5f6:=k5.frozen 6
    have k5c7:=k5.cell 7
    have k5f7:=k5.frozen 7
    have k5c8:=k5.cell 8
    have k5f8:=k5.frozen 8
    have k5c9:=k5.cell 9
    have k5f9:=k5.frozen 9
    have k5z:=k5.lt
    have k6c0:=k6.cell 0
    have k6f0:=k6.frozen 0
    have k6c1:=k6.cell 1
    have k6f1:=k6.frozen 1
    have k6c2:=k6.cell 2
    have k6f2:=k6.frozen 2
    have k6c3:=k6.cell 3
    have k6f3:=k6.frozen 3
    have k6z:=k6.lt
    have k7c0:=k7.cell 0
    have k7f0:=k7.frozen 0
    have k7c1:=k7.cell 1
    have k7f1:=k7.frozen 1
    have k7c2:=k7.cell 2
    have k7f2:=k7.frozen 2
    have k7c3:=k7.cell 3
    have k7f3:=k7.frozen 3
    have k7z:=k7.lt
    simp only[geCells] at k2c0 k2c1 k2c2 k3c0 k3c1 k3c2 k3c3 k5c0 k5c1 k5c2 k5c3 k5c4 k5c5 k5c6 k5c7 k5c8 k5c9 k6c0 k6c1 k6c2 k6c3 k7c0 k7c1 k7c2 k7c3
    go_wp2_with fail
    clear k2c0 k2f0 k2c1 k2f1 k2c2 k2f2 k2z k3c0 k3f0 k3c1 k3f1 k3c2 k3f2 k3c3 k3f3 k3z k5c0 k5f0 k5c1 k5f1 k5c2 k5f2 k5c3 k5f3 k5c4 k5f4 k5c5 k5f5 k5c6 k5f6 k5c7 k5f7 k5c8 k5f8 k5c9 k5f9 k5z k6c0 k6f0 k6c1 k6f1 k6c2 k6f2 k6c3 k6f3 k6z k7c0 k7f0 k7c1 k7f1 k7c2 k7f2 k7c3 k7f3 k7z
    refine(hL _).mono ?_
    rintro e w5 ⟨rfl,hb5⟩
    replace k2:=k2.below hb5 k2.lt
    replace k3:=k3.below hb5 k3.lt
    replace hb0:=hb0.trans (hb5.mono hb0.size)
    replace hT:=hT.below hb5
    replace hU:=hU.below hb5
    replace k5:=k5.below hb5 k5.lt
    replace k6:=k6.below hb5 k6.lt
    replace k7:=k7.below hb5 k7.lt
    clear hb5
    have k2c0:=k2.cell 0
    have k2f0:=k2.frozen 0
    have k2c1:=k2.cell 1
    have k2f1:=k2.frozen 1
    have k2c2:=k2.cell 2
    have k2f2:=k2.frozen 2
    have k2z:=k2.lt
    have k3c0:=k3.cell 0
    have k3f0:=k3.frozen 0
    have k3c1:=k3.cell 1
    have k3f1:=k3.frozen 1
    have k3c2:=k3.cell 2
    have k3f2:=k3.frozen 2
    have k3c3:=k3.cell 3
    have k3f3:=k3.frozen 3
    have k3z:=k3.lt
    have k5c0:=k5.cell 0
    have k5f0:=k5.frozen 0
    have k5c1:=k5.cell 1
    have k5f1:=k5.frozen 1
    have k5c2:=k5.cell 2
    have k5f2:=k5.frozen 2
    have k5c3:=k5.cell 3
    have k5f3:=k5.frozen 3
    have k5c4:=k5.cell 4
    have k5f4:=k5.frozen 4
    have k5c5:=k5.cell 5
    have k5f5:=k5.frozen 5
    have k5c6:=k5.cell 6
    have k5f6:=k5.frozen 6
    have k5c7:=k5.cell 7
    have k5f7:=k5.frozen 7
    have k5c8:=k5.cell 8
    have k5f8:=k5.frozen 8
    have k5c9:=k5.cell 9
    have k5f9:=k5.frozen 9
    have k5z:=k5.lt
    have k6c0:=k6.cell 0
    have k6f0:=k6.frozen 0
    have k6c1:=k6.cell 1
    have k6f1:=k6.frozen 1
    have k6c2:=k6.cell 2
    have k6f2:=k6.frozen 2
    have k6c3:=k6.cell 3
    have k6f3:=k6.frozen 3
    have k6z:=k6.lt
    have k7c0:=k7.cell 0
    have k7f0:=k7.frozen 0
    have k7c1:=k7.cell 1
    have k7f1:=k7.frozen 1
    have k7c2:=k7.cell 2
    have k7f2:=k7.frozen 2
    have k7c3:=k7.cell 3
    have k7f3:=k7.frozen 3
    have k7z:=k7.lt
    simp only[geCells] at k2c0 k2c1 k2c2 k3c0 k3c1 k3c2 k3c3 k5c0 k5c1 k5c2 k5c3 k5c4 k5c5 k5c6 k5c7 k5c8 k5c9 k6c0 k6c1 k6c2 k6c3 k7c0 k7c1 k7c2 k7c3
    go_wp2_with fail
    clear k2c0 k2f0 k2c1 k2f1 k2c2 k2f2 k2z k3c0 k3f0 k3c1 k3f1 k3c2 k3f2 k3c3 k3f3 k3z k5c0 k5f0 k5c1 k5f1 k5c2 k5f2 k5c3 k5f3 k5c4 k5f4 k5c5 k5f5 k5c6 k5f6 k5c7 k5f7 k5c8 k5f8 k5c9 k5f9 k5z k6c0 k6f0 k6c1 k6f1 k6c2 k6f2 k6c3 k6f3 k6z k7c0 k7f0 k7c1 k7f1 k7c2 k7f2 k7c3 k7f3 k7z
    refine(hSdb _).mono ?_
    rintro e w6 ⟨rfl,hb6⟩
    replace k2:=k2.below hb6 k2.lt
    replace k3:=k3.below hb6 k3.lt
    replace hb0:=hb0.trans (hb6.mono hb0.size)
    replace hT:=hT.below hb6
    replace hU:=hU.below hb6
    replace k5:=k5.below hb6 k5.lt
    replace k6:=k6.below hb6 k6.lt
    replace k7:=k7.below hb6 k7.lt
    clear hb6
    have k2c0:=k2.cell 0
    have k2f0:=k2.frozen 0
    have k2c1:=k2.cell 1
    have k2f1:=k2.frozen 1
    have k2c2:=k2.cell 2
    have k2f2:=k2.frozen 2
    have k2z:=k2.lt
    have k3c0:=k3.cell 0
    have k3f0:=k3.frozen 0
    have k3c1:=k3.cell 1
    have k3f1:=k3.frozen 1
    have k3c2:=k3.cell 2
    have k3f2:=k3.frozen 2
    have k3c3:=k3.cell 3
    have k3f3:=k3.frozen 3
    have k3z:=k3.lt
    have k5c0:=k5.cell 0
    have k5f0:=k5.frozen 0
    have k5c1:=k5.cell 1
    have k5f1:=k5.frozen 1
    have k5c2:=k5.cell 2
    have k5f2:=k5.frozen 2
    have k5c3:=k5.cell 3
    have k5f3:=k5.frozen 3
    have k5c4:=k5.cell 4
    have k5f4:=k5.frozen 4
    have k5c5:=k5.cell 5
    have k5f5:=k5.frozen 5
    have k5c6:=k5.cell 6
    have k5f6:=k5.frozen 6
    have k5c7:=k5.cell 7
    have k5f7:=k5.frozen 7
    have k5c8:=k5.cell 8
    have k5f8:=k5.frozen 8
    have k5c9:=k5.cell 9
    have k5f9:=k5.frozen 9
    have k5z:=k5.lt
    have k6c0:=k6.cell 0
    have k6f0:=k6.frozen 0
    have k6c1:=k6.cell 1
    have k6f1:=k6.frozen 1
    have k6c2:=k6.cell 2
    have k6f2:=k6.frozen 2
    have k6c3:=k6.cell 3
    have k6f3:=k6.frozen 3
    have k6z:=k6.lt
    have k7c0:=k7.cell 0
    have k7f0:=k7.frozen 0
    have k7c1:=k7.cell 1
    have k7f1:=k7.frozen 1
    have k7c2:=k7.cell 2
    have k7f2:=k7.frozen 2
    have k7c3:=k7.cell 3
    have k7f3:=k7.frozen 3
    have k7z:=k7.lt
    simp only[geCells] at k2c0 k2c1 k2c2 k3c0 k3c1 k3c2 k3c3 k5c0 k5c1 k5c2 k5c3 k5c4 k5c5 k5c6 k5c7 k5c8 k5c9 k6c0 k6c1 k6c2 k6c3 k7c0 k7c1 k7c2 k7c3
    go_upto_region 20 with fail
    clear k2c0 k2f0 k2c1 k2f1 k2c2 k2f2 k2z k3c0 k3f0 k3c1 k3f1 k3c2 k3f2 k3c3 k3f3 k3z k5c0 k5f0 k5c1 k5f1 k5c2 k5f2 k5c3 k5f3 k5c4 k5f4 k5c5 k5f5 k5c6 k5f6 k5c7 k5f7 k5c8 k5f8 k5c9 k5f9 k5z k6c0 k6f0 k6c1 k6f1 k6c2 k6f2 k6c3 k6f3 k6z k7c0 k7f0 k7c1 k7f1 k7c2 k7f2 k7c3 k7f3 k7z
    clear hT hU
    refine(fun (HH:∀W,Blk W (w.heap.size+1) 26 #[.bool false,.string ⟨#[]⟩,.int .i64 0]∧Blk W (w2.heap.size) 37 #[.bool ng,.int .u64 (m:Int),.int .i64 q,.bool false]∧Blk W (w1.heap.size) 45 #[.int .u64 (x0:Int),.int .u64 (x1:Int),.int .u64 (x2:Int),.int .u64 (x3:Int),.int .u64 (y0:Int),.int .u64 (y1:Int),.int .u64 (y2:Int),.int .u64 (y3:Int),.int .i64 X,.int .i64 (P+1-n)]∧Blk W (w3.heap.size) 43 #[.int .u64 (bp0:Int),.int .u64 (bp1:Int),.int .u64 (bp2:Int),.int .u64 (bp3:Int)]∧Blk W (w3.heap.size+1) 43 #[.int .u64 (br0:Int),.int .u64 (br1:Int),.int .u64 (br2:Int),.int .u64 (br3:Int)]∧Below w.heap.size w W→Code.wp _ _ _ _ W)=>HH _ ⟨by exact((((((((k2.far (p:=⟨w3.heap.size,0,none⟩) (by show w.heap.size+1≠w3.heap.size;omega) _).far (p:=⟨w3.heap.size,1,none⟩) (by show w.heap.size+1≠w3.heap.size;omega) _).far (p:=⟨w3.heap.size,2,none⟩) (by show w.heap.size+1≠w3.heap.size;omega) _).far (p:=⟨w3.heap.size,3,none⟩) (by show w.heap.size+1≠w3.heap.size;omega) _).far (p:=⟨w3.heap.size+1,0,none⟩) (by show w.heap.size+1≠w3.heap.size+1;omega) _).far (p:=⟨w3.heap.size+1,1,none⟩) (by show w.heap.size+1≠w3.heap.size+1;omega) _).far (p:=⟨w3.heap.size+1,2,none⟩) (by show w.heap.size+1≠w3.heap.size+1;omega) _).far (p:=⟨w3.heap.size+1,3,none⟩) (by show w.heap.size+1≠w3.heap.size+1;omega) _),by exact((((((((k3.far (p:=⟨w3.heap.size,0,none⟩) (by show w2.heap.size≠w3.heap.size;omega) _).far (p:=⟨w3.heap.size,1,none⟩) (by show w2.heap.size≠w3.heap.size;omega) _).far (p:=⟨w3.heap.size,2,none⟩) (by show w2.heap.size≠w3.heap.size;omega) _).far (p:=⟨w3.heap.size,3,none⟩) (by show w2.heap.size≠w3.heap.size;omega) _).far (p:=⟨w3.heap.size+1,0,none⟩) (by show w2.heap.size≠w3.heap.size+1;omega) _).far (p:=⟨w3.heap.size+1,1,none⟩) (by show w2.heap.size≠w3.heap.size+1;omega) _).far (p:=⟨w3.heap.size+1,2,none⟩) (by show w2.heap.size≠w3.heap.size+1;omega) _).far (p:=⟨w3.heap.size+1,3,none⟩) (by show w2.heap.size≠w3.heap.size+1;omega) _),by exact((((((((k5.far (p:=⟨w3.heap.size,0,none⟩) (by show w1.heap.size≠w3.heap.size;omega) _).far (p:=⟨w3.heap.size,1,none⟩) (by show w1.heap.size≠w3.heap.size;omega) _).far (p:=⟨w3.heap.size,2,none⟩) (by show w1.heap.size≠w3.heap.size;omega) _).far (p:=⟨w3.heap.size,3,none⟩) (by show w1.heap.size≠w3.heap.size;omega) _).far (p:=⟨w3.heap.size+1,0,none⟩) (by show w1.heap.size≠w3.heap.size+1;omega) _).far (p:=⟨w3.heap.size+1,1,none⟩) (by show w1.heap.size≠w3.heap.size+1;omega) _).far (p:=⟨w3.heap.size+1,2,none⟩) (by show w1.heap.size≠w3.heap.size+1;omega) _).far (p:=⟨w3.heap.size+1,3,none⟩) (by show w1.heap.size≠w3.heap.size+1;omega) _),by exact((((((((k6.set_ 0 _).set_ 1 _).set_ 2 _).set_ 3 _).far (p:=⟨w3.heap.size+1,0,none⟩) (by show w3.heap.size≠w3.heap.size+1;omega) _).far (p:=⟨w3.heap.size+1,1,none⟩) (by show w3.heap.size≠w3.heap.size+1;omega) _).far (p:=⟨w3.heap.size+1,2,none⟩) (by show w3.heap.size≠w3.heap.size+1;omega) _).far (p:=⟨w3.heap.size+1,3,none⟩) (by show w3.heap.size≠w3.heap.size+1;omega) _),by exact((((((((k7.far (p:=⟨w3.heap.size,0,none⟩) (by show w3.heap.size+1≠w3.heap.size;omega) _).far (p:=⟨w3.heap.size,1,none⟩) (by show w3.heap.size+1≠w3.heap.size;omega) _).far (p:=⟨w3.heap.size,2,none⟩) (by show w3.heap.size+1≠w3.heap.size;omega) _).far (p:=⟨w3.heap.size,3,none⟩) (by show w3.heap.size+1≠w3.heap.size;omega) _).set_ 0 _).set_ 1 _).set_ 2 _).set_ 3 _),by exact((((((((hb0.setCell (p:=⟨w3.heap.size,0,none⟩) (by show w.heap.size≤w3.heap.size;omega) _).setCell (p:=⟨w3.heap.size,1,none⟩) (by show w.heap.size≤w3.heap.size;omega) _).setCell (p:=⟨w3.heap.size,2,none⟩) (by show w.heap.size≤w3.heap.size;omega) _).setCell (p:=⟨w3.heap.size,3,none⟩) (by show w.heap.size≤w3.heap.size;omega) _).setCell (p:=⟨w3.heap.size+1,0,none⟩) (by show w.heap.size≤w3.heap.size+1;omega) _).setCell (p:=⟨w3.heap.size+1,1,none⟩) (by show w.heap.size≤w3.heap.size+1;omega) _).setCell (p:=⟨w3.heap.size+1,2,none⟩) (by show w.heap.size≤w3.heap.size+1;omega) _).setCell (p:=⟨w3.heap.size+1,3,none⟩) (by show w.heap.size≤w3.heap.size+1;omega) _)⟩) ?_
    clear k2 k3 k5 k6 k7 hb0
    rintro u1 ⟨k2,k3,k5,k6,k7,hb0⟩
    have k2c0:=k2.cell 0
    have k2f0:=k2.frozen 0
    have k2c1:=k2.cell 1
    have k2f1:=k2.frozen 1
    have k2c2:=k2.cell 2
    have k2f2:=k2.frozen 2
    have k2z:=k2.lt
    have k3c0:=k3.cell 0
    have k3f0:=k3.frozen 0
    have k3c1:=k3.cell 1
    have k3f1:=k3.frozen 1
    have k3c2:=k3.cell 2
    have k3f2:=k3.frozen 2
    have k3c3:=k3.cell 3
    have k3f3:=k3.frozen 3
    have k3z:=k3.lt
    have k5c0:=k5.cell 0
    have k5f0:=k5.frozen 0
    have k5c1:=k5.cell 1
    have k5f1:=k5.frozen 1
    have k5c2:=k5.cell 2
    have k5f2:=k5.frozen 2
    have k5c3:=k5.cell 3
    have k5f3:=k5.frozen 3
    have k5c4:=k5.cell 4
    have k5f4:=k5.frozen 4
    have k5c5:=k5.cell 5
    have k5f5:=k5.frozen 5
    have k5c6:=k5.cell 6
    have k5f6:=k5.frozen 6
    have k5c7:=k5.cell 7
    have k5f7:=k5.frozen 7
    have k5c8:=k5.cell 8
    have k5f8:=k5.frozen 8
    have k5c9:=k5.cell 9
    have k5f9:=k5.frozen 9
    have k5z:=k5.lt
    have k6c0:=k6.cell 0
    have k6f0:=k6.frozen 0
    have k6c1:=k6.cell 1
    have k6f1:=k6.frozen 1
    have k6c2:=k6.cell 2
    have k6f2:=k6.frozen 2
    have k6c3:=k6.cell 3
    have k6f3:=k6.frozen 3
    have k6z:=k6.lt
    have k7c0:=k7.cell 0
    have k7f0:=k7.frozen 0
    have k7c1:=k7.cell 1
    have k7f1:=k7.frozen 1
    have k7c2:=k7.cell 2
    have k7f2:=k7.frozen 2
    have k7c3:=k7.cell 3
    have k7f3:=k7.frozen 3
    have k7z:=k7.lt
    simp only[geCells] at k2c0 k2c1 k2c2 k3c0 k3c1 k3c2 k3c3 k5c0 k5c1 k5c2 k5c3 k5c4 k5c5 k5c6 k5c7 k5c8 k5c9 k6c0 k6c1 k6c2 k6c3 k7c0 k7c1 k7c2 k7c3
    go_wp2_with fail
    clear k2c0 k2f0 k2c1 k2f1 k2c2 k2f2 k2z k3c0 k3f0 k3c1 k3f1 k3c2 k3f2 k3c3 k3f3 k3z k5c0 k5f0 k5c1 k5f1 k5c2 k5f2 k5c3 k5f3 k5c4 k5f4 k5c5 k5f5 k5c6 k5f6 k5c7 k5f7 k5c8 k5f8 k5c9 k5f9 k5z k6c0 k6f0 k6c1 k6f1 k6c2 k6f2 k6c3 k6f3 k6z k7c0 k7f0 k7c1 k7f1 k7c2 k7f2 k7c3 k7f3 k7z
    refine(hG _).mono ?_
    rintro e w7 ⟨rfl,hb7⟩
    replace k2:=k2.below hb7 k2.lt
    replace k3:=k3.below hb7 k3.lt
    replace hb0:=hb0.trans (hb7.mono hb0.size)
    replace k5:=k5.below hb7 k5.lt
    replace k6:=k6.below hb7 k6.lt
    replace k7:=k7.below hb7 k7.lt
    clear hb7
    by_cases hC:C1=C2
    · by_cases hF:F1=F2
      · by_cases hFC:F1<C1
        · have hstep:=HS.out
          rw[if_pos ⟨hC,hF⟩,if_pos hFC] at hstep
          have hg:decide ((F1:Int)<(C1:Int))=true:=by simp;omega
          have hg2:decide (F1<C1)=true:=by simp;omega
          rw[decide_eq_true hC,decide_eq_true hF]
          have HS2:=Lib.hid hstep
          clear HS hC hF hFC hstep
          have k2c0:=k2.cell 0
          have k2f0:=k2.frozen 0
          have k2c1:=k2.cell 1
          have k2f1:=k2.frozen 1
          have k2c2:=k2.cell 2
          have k2f2:=k2.frozen 2
          have k2z:=k2.lt
          have k3c0:=k3.cell 0
          have k3f0:=k3.frozen 0
          have k3c1:=k3.cell 1
          have k3f1:=k3.frozen 1
          have k3c2:=k3.cell 2
          have k3f2:=k3.frozen 2
          have k3c3:=k3.cell 3
          have k3f3:=k3.frozen 3
          have k3z:=k3.lt
          have k5c0:=k5.cell 0
          have k5f0:=k5.frozen 0
          have k5c1:=k5.cell 1
          have k5f1:=k5.frozen 1
          have k5c2:=k5.cell 2
          have k5f2:=k5.frozen 2
          have k5c3:=k5.cell 3
          have k5f3:=k5.frozen 3
          have k5c4:=k5.cell 4
          have k5f4:=k5.frozen 4
          have k5c5:=k5.cell 5
          have k5f5:=k5.frozen 5
          have k5c6:=k5.cell 6
          have k5f6:=k5.frozen 6
          have k5c7:=k5.cell 7
          have k5f7:=k5.frozen 7
          have k5c8:=k5.cell 8
          have k5f8:=k5.frozen 8
          have k5c9:=k5.cell 9
          have k5f9:=k5.frozen 9
          have k5z:=k5.lt
          have k6c0:=k6.cell 0
          have k6f0:=k6.frozen 0
          have k6c1:=k6.cell 1
          have k6f1:=k6.frozen 1
          have k6c2:=k6.cell 2
          have k6f2:=k6.frozen 2
          have k6c3:=k6.cell 3
          have k6f3:=k6.frozen 3
          have k6z:=k6.lt
          have k7c0:=k7.cell 0
          have k7f0:=k7.frozen 0
          have k7c1:=k7.cell 1
          have k7f1:=k7.frozen 1
          have k7c2:=k7.cell 2
          have k7f2:=k7.frozen 2
          have k7c3:=k7.cell 3
          have k7f3:=k7.frozen 3
          have k7z:=k7.lt
          simp only[geCells] at k2c0 k2c1 k2c2 k3c0 k3c1 k3c2 k3c3 k5c0 k5c1 k5c2 k5c3 k5c4 k5c5 k5c6 k5c7 k5c8 k5c9 k6c0 k6c1 k6c2 k6c3 k7c0 k7c1 k7c2 k7c3
          go_wp2
          go_roundw
          case rel=>exact⟨n+1,rfl,by omega,by omega,by rw[show 18-(n+1)=17-n by omega];exact HS2.out,k2,k3,hb0⟩
          case measure=>first|(simp[intOf];done)|(simp[intOf];omega)
        · rename_i KA aA QQ KB aB KC aC KD aD
          have hQQ:∀(a:Act) (w':World),bodyPost Tryz.prog Tryz.f8 (Says w (digV ng RES)) Exit.ret a w'→QQ Exit.ret a w':=fun a w' h=>h
          clear_value QQ
          have HQ:=Lib.hid hQQ
          clear hQQ
          have hstep:=HS.out
          rw[if_pos ⟨hC,hF⟩,if_neg hFC] at hstep
          have hg:decide ((F1:Int)<(C1:Int))=false:=by simp;omega
          have hg2:decide (F1<C1)=false:=by simp;omega
          rw[decide_eq_true hC,decide_eq_true hF]
          have HS2:=Lib.hid hstep
          clear HS hC hF hFC hstep
          have k2c0:=k2.cell 0
          have k2f0:=k2.frozen 0
          have k2c1:=k2.cell 1
          have k2f1:=k2.frozen 1
          have k2c2:=k2.cell 2
          have k2f2:=k2.frozen 2
          have k2z:=k2.lt
          have k3c0:=k3.cell 0
          have k3f0:=k3.frozen 0
          have k3c1:=k3.cell 1
          have k3f1:=k3.frozen 1
          have k3c2:=k3.cell 2
          have k3f2:=k3.frozen 2
          have k3c3:=k3.cell 3
          have k3f3:=k3.frozen 3
          have k3z:=k3.lt
          have k5c0:=k5.cell 0
          have k5f0:=k5.frozen 0
          have k5c1:=k5.cell 1
          have k5f1:=k5.frozen 1
          have k5c2:=k5.cell 2
          have k5f2:=k5.frozen 2
          have k5c3:=k5.cell 3
          have k5f3:=k5.frozen 3
          have k5c4:=k5.cell 4
          have k5f4:=k5.frozen 4
          have k5c5:=k5.cell 5
          have k5f5:=k5.frozen 5
          have k5c6:=k5.cell 6
          have k5f6:=k5.frozen 6
          have k5c7:=k5.cell 7
          have k5f7:=k5.frozen 7
          have k5c8:=k5.cell 8
          have k5f8:=k5.frozen 8
          have k5c9:=k5.cell 9
          have k5f9:=k5.frozen 9
          have k5z:=k5.lt
          have k6c0:=k6.cell 0
          have k6f0:=k6.frozen 0
          have k6c1:=k6.cell 1
          have k6f1:=k6.frozen 1
          have k6c2:=k6.cell 2
          have k6f2:=k6.frozen 2
          have k6c3:=k6.cell 3
          have k6f3:=k6.frozen 3
          have k6z:=k6.lt
          have k7c0:=k7.cell 0
          have k7f0:=k7.frozen 0
          have k7c1:=k7.cell 1
          have k7f1:=k7.frozen 1
          have k7c2:=k7.cell 2
          have k7f2:=k7.frozen 2
          have k7c3:=k7.cell 3
          have k7f3:=k7.frozen 3
          have k7z:=k7.lt
          simp only[geCells] at k2c0 k2c1 k2c2 k3c0 k3c1 k3c2 k3c3 k5c0 k5c1 k5c2 k5c3 k5c4 k5c5 k5c6 k5c7 k5c8 k5c9 k6c0 k6c1 k6c2 k6c3 k7c0 k7c1 k7c2 k7c3
          go_wp2_with fail
          clear k2c0 k2f0 k2c1 k2f1 k2c2 k2f2 k2z k3c0 k3f0 k3c1 k3f1 k3c2 k3f2 k3c3 k3f3 k3z k5c0 k5f0 k5c1 k5f1 k5c2 k5f2 k5c3 k5f3 k5c4 k5f4 k5c5 k5f5 k5c6 k5f6 k5c7 k5f7 k5c8 k5f8 k5c9 k5f9 k5z k6c0 k6f0 k6c1 k6f1 k6c2 k6f2 k6c3 k6f3 k6z k7c0 k7f0 k7c1 k7f1 k7c2 k7f2 k7c3 k7f3 k7z
          refine(hSdc _).mono ?_
          rintro e w8 ⟨rfl,hb8⟩
          replace k2:=k2.below hb8 k2.lt
          replace k3:=k3.below hb8 k3.lt
          replace hb0:=hb0.trans (hb8.mono hb0.size)
          replace k5:=k5.below hb8 k5.lt
          replace k6:=k6.below hb8 k6.lt
          replace k7:=k7.below hb8 k7.lt
          clear hb8
          have k2c0:=k2.cell 0
          have k2f0:=k2.frozen 0
          have k2c1:=k2.cell 1
          have k2f1:=k2.frozen 1
          have k2c2:=k2.cell 2
          have k2f2:=k2.frozen 2
          have k2z:=k2.lt
          have k3c0:=k3.cell 0
          have k3f0:=k3.frozen 0
          have k3c1:=k3.cell 1
          have k3f1:=k3.frozen 1
          have k3c2:=k3.cell 2
          have k3f2:=k3.frozen 2
          have k3c3:=k3.cell 3
          have k3f3:=k3.frozen 3
          have k3z:=k3.lt
          have k5c0:=k5.cell 0
          have k5f0:=k5.frozen 0
          have k5c1:=k5.cell 1
          have k5f1:=k5.frozen 1
          have k5c2:=k5.cell 2
          have k5f2:=k5.frozen 2
          have k5c3:=k5.cell 3
          have k5f3:=k5.frozen 3
          have k5c4:=k5.cell 4
          have k5f4:=k5.frozen 4
          have k5c5:=k5.cell 5
          have k5f5:=k5.frozen 5
          have k5c6:=k5.cell 6
          have k5f6:=k5.frozen 6
          have k5c7:=k5.cell 7
          have k5f7:=k5.frozen 7
          have k5c8:=k5.cell 8
          have k5f8:=k5.frozen 8
          have k5c9:=k5.cell 9
          have k5f9:=k5.frozen 9
          have k5z:=k5.lt
          have k6c0:=k6.cell 0
          have k6f0:=k6.frozen 0
          have k6c1:=k6.cell 1
          have k6f1:=k6.frozen 1
          have k6c2:=k6.cell 2
          have k6f2:=k6.frozen 2
          have k6c3:=k6.cell 3
          have k6f3:=k6.frozen 3
          have k6z:=k6.lt
          have k7c0:=k7.cell 0
          have k7f0:=k7.frozen 0
          have k7c1:=k7.cell 1
          have k7f1:=k7.frozen 1
          have k7c2:=k7.cell 2
          have k7f2:=k7.frozen 2
          have k7c3:=k7.cell 3
          have k7f3:=k7.frozen 3
          have k7z:=k7.lt
          simp only[geCells] at k2c0 k2c1 k2c2 k3c0 k3c1 k3c2 k3c3 k5c0 k5c1 k5c2 k5c3 k5c4 k5c5 k5c6 k5c7 k5c8 k5c9 k6c0 k6c1 k6c2 k6c3 k7c0 k7c1 k7c2 k7c3
          go_upto_region 25 with fail
          clear k2c0 k2f0 k2c1 k2f1 k2c2 k2f2 k2z k3c0 k3f0 k3c1 k3f1 k3c2 k3f2 k3c3 k3f3 k3z k5c0 k5f0 k5c1 k5f1 k5c2 k5f2 k5c3 k5f3 k5c4 k5f4 k5c5 k5f5 k5c6 k5f6 k5c7 k5f7 k5c8 k5f8 k5c9 k5f9 k5z k6c0 k6f0 k6c1 k6f1 k6c2 k6f2 k6c3 k6f3 k6z k7c0 k7f0 k7c1 k7f1 k7c2 k7f2 k7c3 k7f3 k7z
          refine(fun (HH:∀W,Blk W (w.heap.size+1) 26 #[.bool false,.string ⟨#[]⟩,.int .i64 0]∧Blk W (w2.heap.size) 37 #[.bool ng,.int .u64 (m:Int),.int .i64 q,.bool false]∧Blk W (w1.heap.size) 45 #[.int .u64 (x0:Int),.int .u64 (x1:Int),.int .u64 (x2:Int),.int .u64 (x3:Int),.int .u64 (y0:Int),.int .u64 (y1:Int),.int .u64 (y2:Int),.int .u64 (y3:Int),.int .i64 X,.int .i64 (P+1-n)]∧Blk W (w3.heap.size) 43 #[.int .u64 (cp0:Int),.int .u64 (cp1:Int),.int .u64 (cp2:Int),.int .u64 (cp3:Int)]∧Blk W (w3.heap.size+1) 43 #[.int .u64 (cr0:Int),.int .u64 (cr1:Int),.int .u64 (cr2:Int),.int .u64 (cr3:Int)]∧Below w.heap.size w W→Code.wp _ _ _ _ W)=>HH _ ⟨by exact((((((((k2.far (p:=⟨w3.heap.size,0,none⟩) (by show w.heap.size+1≠w3.heap.size;omega) _).far (p:=⟨w3.heap.size,1,none⟩) (by show w.heap.size+1≠w3.heap.size;omega) _).far (p:=⟨w3.heap.size,2,none⟩) (by show w.heap.size+1≠w3.heap.size;omega) _).far (p:=⟨w3.heap.size,3,none⟩) (by show w.heap.size+1≠w3.heap.size;omega) _).far (p:=⟨w3.heap.size+1,0,none⟩) (by show w.heap.size+1≠w3.heap.size+1;omega) _).far (p:=⟨w3.heap.size+1,1,none⟩) (by show w.heap.size+1≠w3.heap.size+1;omega) _).far (p:=⟨w3.heap.size+1,2,none⟩) (by show w.heap.size+1≠w3.heap.size+1;omega) _).far (p:=⟨w3.heap.size+1,3,none⟩) (by show w.heap.size+1≠w3.heap.size+1;omega) _),by exact((((((((k3.far (p:=⟨w3.heap.size,0,none⟩) (by show w2.heap.size≠w3.heap.size;omega) _).far (p:=⟨w3.heap.size,1,none⟩) (by show w2.heap.size≠w3.heap.size;omega) _).far (p:=⟨w3.heap.size,2,none⟩) (by show w2.heap.size≠w3.heap.size;omega) _).far (p:=⟨w3.heap.size,3,none⟩) (by show w2.heap.size≠w3.heap.size;omega) _).far (p:=⟨w3.heap.size+1,0,none⟩) (by show w2.heap.size≠w3.heap.size+1;omega) _).far (p:=⟨w3.heap.size+1,1,none⟩) (by show w2.heap.size≠w3.heap.size+1;omega) _).far (p:=⟨w3.heap.size+1,2,none⟩) (by show w2.heap.size≠w3.heap.size+1;omega) _).far (p:=⟨w3.heap.size+1,3,none⟩) (by show w2.heap.size≠w3.heap.size+1;omega) _),by exact((((((((k5.far (p:=⟨w3.heap.size,0,none⟩) (by show w1.heap.size≠w3.heap.size;omega) _).far (p:=⟨w3.heap.size,1,none⟩) (by show w1.heap.size≠w3.heap.size;omega) _).far (p:=⟨w3.heap.size,2,none⟩) (by show w1.heap.size≠w3.heap.size;omega) _).far (p:=⟨w3.heap.size,3,none⟩) (by show w1.heap.size≠w3.heap.size;omega) _).far (p:=⟨w3.heap.size+1,0,none⟩) (by show w1.heap.size≠w3.heap.size+1;omega) _).far (p:=⟨w3.heap.size+1,1,none⟩) (by show w1.heap.size≠w3.heap.size+1;omega) _).far (p:=⟨w3.heap.size+1,2,none⟩) (by show w1.heap.size≠w3.heap.size+1;omega) _).far (p:=⟨w3.heap.size+1,3,none⟩) (by show w1.heap.size≠w3.heap.size+1;omega) _),by exact((((((((k6.set_ 0 _).set_ 1 _).set_ 2 _).set_ 3 _).far (p:=⟨w3.heap.size+1,0,none⟩) (by show w3.heap.size≠w3.heap.size+1;omega) _).far (p:=⟨w3.heap.size+1,1,none⟩) (by show w3.heap.size≠w3.heap.size+1;omega) _).far (p:=⟨w3.heap.size+1,2,none⟩) (by show w3.heap.size≠w3.heap.size+1;omega) _).far (p:=⟨w3.heap.size+1,3,none⟩) (by show w3.heap.size≠w3.heap.size+1;omega) _),by exact((((((((k7.far (p:=⟨w3.heap.size,0,none⟩) (by show w3.heap.size+1≠w3.heap.size;omega) _).far (p:=⟨w3.heap.size,1,none⟩) (by show w3.heap.size+1≠w3.heap.size;omega) _).far (p:=⟨w3.heap.size,2,none⟩) (by show w3.heap.size+1≠w3.heap.size;omega) _).far (p:=⟨w3.heap.size,3,none⟩) (by show w3.heap.size+1≠w3.heap.size;omega) _).set_ 0 _).set_ 1 _).set_ 2 _).set_ 3 _),by exact((((((((hb0.setCell (p:=⟨w3.heap.size,0,none⟩) (by show w.heap.size≤w3.heap.size;omega) _).setCell (p:=⟨w3.heap.size,1,none⟩) (by show w.heap.size≤w3.heap.size;omega) _).setCell (p:=⟨w3.heap.size,2,none⟩) (by show w.heap.size≤w3.heap.size;omega) _).setCell (p:=⟨w3.heap.size,3,none⟩) (by show w.heap.size≤w3.heap.size;omega) _).setCell (p:=⟨w3.heap.size+1,0,none⟩) (by show w.heap.size≤w3.heap.size+1;omega) _).setCell (p:=⟨w3.heap.size+1,1,none⟩) (by show w.heap.size≤w3.heap.size+1;omega) _).setCell (p:=⟨w3.heap.size+1,2,none⟩) (by show w.heap.size≤w3.heap.size+1;omega) _).setCell (p:=⟨w3.heap.size+1,3,none⟩) (by show w.heap.size≤w3.heap.size+1;omega) _)⟩) ?_
          clear k2 k3 k5 k6 k7 hb0
          rintro u2 ⟨k2,k3,k5,k6,k7,hb0⟩
          have k2c0:=k2.cell 0
          have k2f0:=k2.frozen 0
          have k2c1:=k2.cell 1
          have k2f1:=k2.frozen 1
          have k2c2:=k2.cell 2
          have k2f2:=k2.frozen 2
          have k2z:=k2.lt
          have k3c0:=k3.cell 0
          have k3f0:=k3.frozen 0
          have k3c1:=k3.cell 1
          have k3f1:=k3.frozen 1
          have k3c2:=k3.cell 2
          have k3f2:=k3.frozen 2
          have k3c3:=k3.cell 3
          have k3f3:=k3.frozen 3
          have k3z:=k3.lt
          have k5c0:=k5.cell 0
          have k5f0:=k5.frozen 0
          have k5c1:=k5.cell 1
          have k5f1:=k5.frozen 1
          have k5c2:=k5.cell 2
          have k5f2:=k5.frozen 2
          have k5c3:=k5.cell 3
          have k5f3:=k5.frozen 3
          have k5c4:=k5.cell 4
          have k5f4:=k5.frozen 4
          have k5c5:=k5.cell 5
          have k5f5:=k5.frozen 5
          have k5c6:=k5.cell 6
          have k5f6:=k5.frozen 6
          have k5c7:=k5.cell 7
          have k5f7:=k5.frozen 7
          have k5c8:=k5.cell 8
          have k5f8:=k5.frozen 8
          have k5c9:=k5.cell 9
          have k5f9:=k5.frozen 9
          have k5z:=k5.lt
          have k6c0:=k6.cell 0
          have k6f0:=k6.frozen 0
          have k6c1:=k6.cell 1
          have k6f1:=k6.frozen 1
          have k6c2:=k6.cell 2
          have k6f2:=k6.frozen 2
          have k6c3:=k6.cell 3
          have k6f3:=k6.frozen 3
          have k6z:=k6.lt
          have k7c0:=k7.cell 0
          have k7f0:=k7.frozen 0
          have k7c1:=k7.cell 1
          have k7f1:=k7.frozen 1
          have k7c2:=k7.cell 2
          have k7f2:=k7.frozen 2
          have k7c3:=k7.cell 3
          have k7f3:=k7.frozen 3
          have k7z:=k7.lt
          simp only[geCells] at k2c0 k2c1 k2c2 k3c0 k3c1 k3c2 k3c3 k5c0 k5c1 k5c2 k5c3 k5c4 k5c5 k5c6 k5c7 k5c8 k5c9 k6c0 k6c1 k6c2 k6c3 k7c0 k7c1 k7c2 k7c3
          go_wp2_with fail
          clear k2c0 k2f0 k2c1 k2f1 k2c2 k2f2 k2z k3c0 k3f0 k3c1 k3f1 k3c2 k3f2 k3c3 k3f3 k3z k5c0 k5f0 k5c1 k5f1 k5c2 k5f2 k5c3 k5f3 k5c4 k5f4 k5c5 k5f5 k5c6 k5f6 k5c7 k5f7 k5c8 k5f8 k5c9 k5f9 k5z k6c0 k6f0 k6c1 k6f1 k6c2 k6f2 k6c3 k6f3 k6z k7c0 k7f0 k7c1 k7f1 k7c2 k7f2 k7c3 k7f3 k7z
          refine(hNr _).mono ?_
          rintro e w9 ⟨rfl,hb9⟩
          replace k2:=k2.below hb9 k2.lt
          replace k3:=k3.below hb9 k3.lt
          replace hb0:=hb0.trans (hb9.mono hb0.size)
          replace k5:=k5.below hb9 k5.lt
          replace k6:=k6.below hb9 k6.lt
          replace k7:=k7.below hb9 k7.lt
          clear hb9
          by_cases hR:R1=R2
          · have hstep:=HS2.out
            rw[if_pos hR] at hstep
            have hstep2:some (max C1 (min F1 R1),P+1-(n:Int))=RES:=hstep
            obtain⟨MX,hMX⟩:∃MX,MX=max C1 (min F1 R1):=⟨_,rfl⟩
            have hmm:max (C1:Int) (min (F1:Int) (R1:Int))=(MX:Int):=by rw[hMX];omega
            rw[←hMX] at hstep2 hDc
            clear hMX hstep HS2
            subst hstep2
            rw[decide_eq_true hR]
            clear hR
            have hU:=hU0.below hb0
            clear hAt hSda hSdb hSdc hL hG hNr
            go_upto_region 28 with fail
            rename_i KE aE
            have hE:∀(a:Act) (w':World),QQ Exit.ret a w'→KE a w':=fun a w' h=>aE a w' (wp_ret h)
            have HE:=Lib.hid hE
            clear aE hE
            go_light
            try generalize (Value.agg #[.int .u64 (ap0:Int),.int .u64 (ap1:Int),.int .u64 (ap2:Int),.int .u64 (ap3:Int)])=V0
            try generalize (Value.agg #[.int .u64 (ar0:Int),.int .u64 (ar1:Int),.int .u64 (ar2:Int),.int .u64 (ar3:Int)])=V1
            try generalize (Value.agg #[.int .u64 (bp0:Int),.int .u64 (bp1:Int),.int .u64 (bp2:Int),.int .u64 (bp3:Int)])=V2
            try generalize (Value.agg #[.int .u64 (br0:Int),.int .u64 (br1:Int),.int .u64 (br2:Int),.int .u64 (br3:Int)])=V3
            try generalize (Value.agg #[.int .u64 (cp0:Int),.int .u64 (cp1:Int),.int .u64 (cp2:Int),.int .u64 (cp3:Int)])=V4
            try generalize (Value.agg #[.int .u64 (cr0:Int),.int .u64 (cr1:Int),.int .u64 (cr2:Int),.int .u64 (cr3:Int)])=V5
            try generalize (Value.agg #[.int .u64 (x0:Int),.int .u64 (x1:Int),.int .u64 (x2:Int),.int .u64 (x3:Int),.int .u64 (y0:Int),.int .u64 (y1:Int),.int .u64 (y2:Int),.int .u64 (y3:Int),.int .i64 X,.int .i64 (P+1-n)])=V6
            clear k6 k7
            have k2c0:=k2.cell 0
            have k2f0:=k2.frozen 0
            have k2c1:=k2.cell 1
            have k2f1:=k2.frozen 1
            have k2c2:=k2.cell 2
            have k2f2:=k2.frozen 2
            have k2z:=k2.lt
            have k3c0:=k3.cell 0
            have k3f0:=k3.frozen 0
            have k3c1:=k3.cell 1
            have k3f1:=k3.frozen 1
            have k3c2:=k3.cell 2
            have k3f2:=k3.frozen 2
            have k3c3:=k3.cell 3
            have k3f3:=k3.frozen 3
            have k3z:=k3.lt
            have k5c0:=k5.cell 0
            have k5f0:=k5.frozen 0
            have k5c1:=k5.cell 1
            have k5f1:=k5.frozen 1
            have k5c2:=k5.cell 2
            have k5f2:=k5.frozen 2
            have k5c3:=k5.cell 3
            have k5f3:=k5.frozen 3
            have k5c4:=k5.cell 4
            have k5f4:=k5.frozen 4
            have k5c5:=k5.cell 5
            have k5f5:=k5.frozen 5
            have k5c6:=k5.cell 6
            have k5f6:=k5.frozen 6
            have k5c7:=k5.cell 7
            have k5f7:=k5.frozen 7
            have k5c8:=k5.cell 8
            have k5f8:=k5.frozen 8
            have k5c9:=k5.cell 9
            have k5f9:=k5.frozen 9
            have k5z:=k5.lt
            simp only[geCells] at k2c0 k2c1 k2c2 k3c0 k3c1 k3c2 k3c3 k5c0 k5c1 k5c2 k5c3 k5c4 k5c5 k5c6 k5c7 k5c8 k5c9
            go_wp2_with fail
            clear k2c0 k2f0 k2c1 k2f1 k2c2 k2f2 k2z k3c0 k3f0 k3c1 k3f1 k3c2 k3f2 k3c3 k3f3 k3z k5c0 k5f0 k5c1 k5f1 k5c2 k5f2 k5c3 k5f3 k5c4 k5f4 k5c5 k5f5 k5c6 k5f6 k5c7 k5f7 k5c8 k5f8 k5c9 k5f9 k5z
            refine(hDc _ hU).mono ?_
            rintro e w10 ⟨rfl,hb10⟩
            replace k2:=k2.below hb10 k2.lt
            replace k3:=k3.below hb10 k3.lt
            replace hb0:=hb0.trans (hb10.mono hb0.size)
            replace k5:=k5.below hb10 k5.lt
            replace hU:=hU.below hb10
            clear hb10
            clear k3 k5 hDc hU
            obtain⟨k2c0,k2c1,k2c2,k2z,k2f0,k2f1,k2f2⟩:=k2.b3
            go_wp2
            refine HE.out _ _ (HQ.out _ _ ?_)
            refine bodyPost_ret (v:=.tuple #[.agg #[.bool ng,.string ⟨(mkD (Lib.decDigits MX) (P+1-(n:Int))).1.toArray⟩,.int .i64 (mkD (Lib.decDigits MX) (P+1-(n:Int))).2],.bool true,.int .i64 0]) ?_ rfl ⟨rfl,(bel3 hb0 (w.heap.size+1) (by simp))⟩
            refine results_cell_tmp2 rfl _ _ (w.heap.size+1) _ _ _ _ _ _ ?_ ?_ ?_ (((k2.set_ 0 _).set_ 1 _).set_ 2 _) Tryz.underlying26 rfl (by kernel_rfl)
            · rfl
            · rfl
            · rfl
          · have hstep:=HS2.out
            rw[if_neg hR] at hstep
            subst hstep
            clear HS2
            rw[decide_eq_false hR]
            clear hR
            clear hAt hSda hSdb hSdc hL hG hNr hDc
            go_upto_region 27 with fail
            rename_i KE aE
            have hE:∀(a:Act) (w':World),QQ Exit.ret a w'→KE a w':=fun a w' h=>aE a w' (wp_ret h)
            have HE:=Lib.hid hE
            clear aE hE
            go_light
            try generalize (Value.agg #[.int .u64 (ap0:Int),.int .u64 (ap1:Int),.int .u64 (ap2:Int),.int .u64 (ap3:Int)])=V0
            try generalize (Value.agg #[.int .u64 (ar0:Int),.int .u64 (ar1:Int),.int .u64 (ar2:Int),.int .u64 (ar3:Int)])=V1
            try generalize (Value.agg #[.int .u64 (bp0:Int),.int .u64 (bp1:Int),.int .u64 (bp2:Int),.int .u64 (bp3:Int)])=V2
            try generalize (Value.agg #[.int .u64 (br0:Int),.int .u64 (br1:Int),.int .u64 (br2:Int),.int .u64 (br3:Int)])=V3
            try generalize (Value.agg #[.int .u64 (cp0:Int),.int .u64 (cp1:Int),.int .u64 (cp2:Int),.int .u64 (cp3:Int)])=V4
            try generalize (Value.agg #[.int .u64 (cr0:Int),.int .u64 (cr1:Int),.int .u64 (cr2:Int),.int .u64 (cr3:Int)])=V5
            try generalize (Value.agg #[.int .u64 (x0:Int),.int .u64 (x1:Int),.int .u64 (x2:Int),.int .u64 (x3:Int),.int .u64 (y0:Int),.int .u64 (y1:Int),.int .u64 (y2:Int),.int .u64 (y3:Int),.int .i64 X,.int .i64 (P+1-n)])=V6
            try generalize (Value.agg #[.bool ng,.int .u64 (m:Int),.int .i64 q,.bool false])=V7
            clear k3 k5 k6 k7
            obtain⟨k2c0,k2c1,k2c2,k2z,k2f0,k2f1,k2f2⟩:=k2.b3
            go_wp2
            refine HE.out _ _ (HQ.out _ _ ?_)
            refine bodyPost_ret (v:=.tuple #[.agg #[.bool false,.string ⟨#[]⟩,.int .i64 0],.bool false,.int .i64 0]) ?_ rfl ⟨rfl,(bel3 hb0 (w.heap.size+1) (by simp))⟩
            refine results_cell_tmp2 rfl _ _ (w.heap.size+1) _ _ _ _ _ _ ?_ ?_ ?_ (((k2.set_ 0 _).set_ 1 _).set_ 2 _) Tryz.underlying26 rfl (by kernel_rfl)
            · rfl
            · rfl
            · rfl
      · rename_i KA aA QQ KB aB KC aC KD aD
        have hQQ:∀(a:Act) (w':World),bodyPost Tryz.prog Tryz.f8 (Says w (digV ng RES)) Exit.ret a w'→QQ Exit.ret a w':=fun a w' h=>h
        clear_value QQ
        have HQ:=Lib.hid hQQ
        clear hQQ
        have hstep:=HS.out
        rw[if_neg (fun h=>hF h.2)] at hstep
        subst hstep
        clear HS
        rw[decide_eq_true hC,decide_eq_false hF]
        clear hC hF
        clear hAt hSda hSdb hSdc hL hG hNr hDc
        go_upto_region 22 with fail
        rename_i KE aE
        have hE:∀(a:Act) (w':World),QQ Exit.ret a w'→KE a w':=fun a w' h=>aE a w' (wp_ret h)
        have HE:=Lib.hid hE
        clear aE hE
        go_light
        try generalize (Value.agg #[.int .u64 (ap0:Int),.int .u64 (ap1:Int),.int .u64 (ap2:Int),.int .u64 (ap3:Int)])=V0
        try generalize (Value.agg #[.int .u64 (ar0:Int),.int .u64 (ar1:Int),.int .u64 (ar2:Int),.int .u64 (ar3:Int)])=V1
        try generalize (Value.agg #[.int .u64 (bp0:Int),.int .u64 (bp1:Int),.int .u64 (bp2:Int),.int .u64 (bp3:Int)])=V2
        try generalize (Value.agg #[.int .u64 (br0:Int),.int .u64 (br1:Int),.int .u64 (br2:Int),.int .u64 (br3:Int)])=V3
        try generalize (Value.agg #[.int .u64 (cp0:Int),.int .u64 (cp1:Int),.int .u64 (cp2:Int),.int .u64 (cp3:Int)])=V4
        try generalize (Value.agg #[.int .u64 (cr0:Int),.int .u64 (cr1:Int),.int .u64 (cr2:Int),.int .u64 (cr3:Int)])=V5
        try generalize (Value.agg #[.int .u64 (x0:Int),.int .u64 (x1:Int),.int .u64 (x2:Int),.int .u64 (x3:Int),.int .u64 (y0:Int),.int .u64 (y1:Int),.int .u64 (y2:Int),.int .u64 (y3:Int),.int .i64 X,.int .i64 (P+1-n)])=V6
        try generalize (Value.agg #[.bool ng,.int .u64 (m:Int),.int .i64 q,.bool false])=V7
        clear k3 k5 k6 k7
        obtain⟨k2c0,k2c1,k2c2,k2z,k2f0,k2f1,k2f2⟩:=k2.b3
        go_wp2
        refine HE.out _ _ (HQ.out _ _ ?_)
        refine bodyPost_ret (v:=.tuple #[.agg #[.bool false,.string ⟨#[]⟩,.int .i64 0],.bool false,.int .i64 0]) ?_ rfl ⟨rfl,(bel3 hb0 (w.heap.size+1) (by simp))⟩
        refine results_cell_tmp2 rfl _ _ (w.heap.size+1) _ _ _ _ _ _ ?_ ?_ ?_ (((k2.set_ 0 _).set_ 1 _).set_ 2 _) Tryz.underlying26 rfl (by kernel_rfl)
        · rfl
        · rfl
        · rfl
    · rename_i KA aA QQ KB aB KC aC KD aD
      have hQQ:∀(a:Act) (w':World),bodyPost Tryz.prog Tryz.f8 (Says w (digV ng RES)) Exit.ret a w'→QQ Exit.ret a w':=fun a w' h=>h
      clear_value QQ
      have HQ:=Lib.hid hQQ
      clear hQQ
      have hstep:=HS.out
      rw[if_neg (fun h=>hC h.1)] at hstep
      subst hstep
      clear HS
      rw[decide_eq_false hC]
      clear hC
      clear hAt hSda hSdb hSdc hL hG hNr hDc
      go_upto_region 22 with fail
      rename_i KE aE
      have hE:∀(a:Act) (w':World),QQ Exit.ret a w'→KE a w':=fun a w' h=>aE a w' (wp_ret h)
      have HE:=Lib.hid hE
      clear aE hE
      go_light
      try generalize (Value.agg #[.int .u64 (ap0:Int),.int .u64 (ap1:Int),.int .u64 (ap2:Int),.int .u64 (ap3:Int)])=V0
      try generalize (Value.agg #[.int .u64 (ar0:Int),.int .u64 (ar1:Int),.int .u64 (ar2:Int),.int .u64 (ar3:Int)])=V1
      try generalize (Value.agg #[.int .u64 (bp0:Int),.int .u64 (bp1:Int),.int .u64 (bp2:Int),.int .u64 (bp3:Int)])=V2
      try generalize (Value.agg #[.int .u64 (br0:Int),.int .u64 (br1:Int),.int .u64 (br2:Int),.int .u64 (br3:Int)])=V3
      try generalize (Value.agg #[.int .u64 (cp0:Int),.int .u64 (cp1:Int),.int .u64 (cp2:Int),.int .u64 (cp3:Int)])=V4
      try generalize (Value.agg #[.int .u64 (cr0:Int),.int .u64 (cr1:Int),.int .u64 (cr2:Int),.int .u64 (cr3:Int)])=V5
      try generalize (Value.agg #[.int .u64 (x0:Int),.int .u64 (x1:Int),.int .u64 (x2:Int),.int .u64 (x3:Int),.int .u64 (y0:Int),.int .u64 (y1:Int),.int .u64 (y2:Int),.int .u64 (y3:Int),.int .i64 X,.int .i64 (P+1-n)])=V6
      try generalize (Value.agg #[.bool ng,.int .u64 (m:Int),.int .i64 q,.bool false])=V7
      clear k3 k5 k6 k7
      obtain⟨k2c0,k2c1,k2c2,k2z,k2f0,k2f1,k2f2⟩:=k2.b3
      go_wp2
      refine HE.out _ _ (HQ.out _ _ ?_)
      refine bodyPost_ret (v:=.tuple #[.agg #[.bool false,.string ⟨#[]⟩,.int .i64 0],.bool false,.int .i64 0]) ?_ rfl ⟨rfl,(bel3 hb0 (w.heap.size+1) (by simp))⟩
      refine results_cell_tmp2 rfl _ _ (w.heap.size+1) _ _ _ _ _ _ ?_ ?_ ?_ (((k2.set_ 0 _).set_ 1 _).set_ 2 _) Tryz.underlying26 rfl (by kernel_rfl)
      · rfl
      · rfl
      · rfl
  · obtain rfl:n=18:=by omega
    have hr:RES=none:=hdg.symm
    subst hr
    clear hdg
    obtain⟨k2c0,k2c1,k2c2,k2z,k2f0,k2f1,k2f2⟩:=k2.b3
    obtain⟨k3c0,k3c1,k3c2,k3c3,k3z,k3f0,k3f1,k3f2,k3f3⟩:=k3.b4
    go_wp2
    refine bodyPost_ret (v:=.tuple #[.agg #[.bool false,.string ⟨#[]⟩,.int .i64 0],.bool false,.int .i64 0]) ?_ rfl ⟨rfl,(bel3 hb0 (w.heap.size+1) (by simp))⟩
    refine results_cell_tmp2 rfl _ _ (w.heap.size+1) _ _ _ _ _ _ ?_ ?_ ?_ (((k2.set_ 0 _).set_ 1 _).set_ 2 _) Tryz.underlying26 rfl (by kernel_rfl)
    · rfl
    · rfl
    · rfl

theorem sure_digits_a (e f:Int) (b:Nat) (ng:Bool) (m:Nat) (q P:Int)
 (hO:∀W,Calls Tryz.prog 10 #[.agg #[.int .i64 e,.int .i64 f],.int .u64 (b:Int)] W (Says W (.tuple #[.agg #[.bool ng,.int .u64 (m:Int),.int .i64 q,.bool true],.bool true,.agg #[.bool false,.string ⟨#[]⟩,.int .i64 0],.int .i64 0])))
 (h0:m≠0) (hm:m<9007199254740992) (hq1: -1074≤q) (hq2:q≤1022) (hP:IsFirst m q P) (hP1: -350≤P) (hP2:P<350) (w:World) (hT:Tab5 w) (hU:TabU w):
 Calls Tryz.prog 8 #[.agg #[.int .i64 e,.int .i64 f],.int .u64 (b:Int)] w (Says w (digV ng (digS m q P (decide (m%2=0)) (4*m-1) 17 1))):=by
 have hFi:=fun W hT=>sure_first ng true m q P h0 hm hq1 hq2 hP hP1 hP2 W hT
 have hand:=and1n m (by omega)
 have hT0:=hT
 have hU0:=hU
 obtain⟨mp,hmp⟩:∃mp,mp=m%2:=⟨_,rfl⟩
 rw[←hmp] at hand
 have hin:((mp:Int)==0)=decide (m%2=0):=by rw[int_eq0,hmp]
 obtain⟨inn,hinn⟩:∃inn,inn=decide (m%2=0):=⟨_,rfl⟩
 rw[←hinn] at hin ⊢
 obtain⟨RES,hRES⟩:∃RES,RES=digS m q P inn (4*m-1) 17 1:=⟨_,rfl⟩
 rw[←hRES]
 have HRES:=Lib.hid hRES
 have HP:=Lib.hid hP
 have H0:=Lib.hid h0
 clear hRES hP h0 hmp hinn
 have hb0:Below w.heap.size w w:=Below.refl _ _
 go_enter Tryz.func8,Tryz.ntmps8
 go_upto_region 1 with fail
 obtain⟨v1,E_,hv1,k1,k2⟩:=Blk.a2 w 23 #[.int .i64 e,.int .i64 f] 26 #[.bool false,.string ⟨#[]⟩,.int .i64 0]
 replace hb0:=hb0.trans (hv1.mono hb0.size)
 replace hT:=hT.below hv1
 replace hU:=hU.below hv1
 rw[E_]
 clear hv1 E_
 obtain⟨k1c0,k1c1,k1z,k1f0,k1f1⟩:=k1.b2
 obtain⟨k2c0,k2c1,k2c2,k2z,k2f0,k2f1,k2f2⟩:=k2.b3
 go_wp2_with fail
 clear k1c0 k1f0 k1c1 k1f1 k1z k2c0 k2f0 k2c1 k2f1 k2c2 k2f2 k2z
 refine(hO _).mono ?_
 rintro e w2 ⟨rfl,hb2⟩
 replace hb0:=hb0.trans (hb2.mono hb0.size)
 replace hT:=hT.below hb2
 replace hU:=hU.below hb2
 replace k1:=k1.below hb2 k1.lt
 replace k2:=k2.below hb2 k2.lt
 clear hb2
 go_upto_region 2 with fail
 have l3:w.heap.size+1<w2.heap.size:=k2.lt
 obtain⟨v3,E_,hv3,k3,k4⟩:=Blk.a2 w2 37 #[.bool ng,.int .u64 (m:Int),.int .i64 q,.bool true] 26 #[.bool false,.string ⟨#[]⟩,.int .i64 0]
 replace hb0:=hb0.trans (hv3.mono hb0.size)
 replace hT:=hT.below hv3
 replace hU:=hU.below hv3
 replace k1:=k1.below hv3 k1.lt
 replace k2:=k2.below hv3 k2.lt
 rw[E_]
 clear hv3 E_
 obtain⟨k1c0,k1c1,k1z,k1f0,k1f1⟩:=k1.b2
 obtain⟨k2c0,k2c1,k2c2,k2z,k2f0,k2f1,k2f2⟩:=k2.b3
 obtain⟨k3c0,k3c1,k3c2,k3c3,k3z,k3f0,k3f1,k3f2,k3f3⟩:=k3.b4
 obtain⟨k4c0,k4c1,k4c2,k4z,k4f0,k4f1,k4f2⟩:=k4.b3
 go_wp2_with fail
 clear k1c0 k1f0 k1c1 k1f1 k1z k2c0 k2f0 k2c1 k2f1 k2c2 k2f2 k2z k3c0 k3f0 k3c1 k3f1 k3c2 k3f2 k3c3 k3f3 k3z k4c0 k4f0 k4c1 k4f1 k4c2 k4f2 k4z
 refine(hFi _ hT).mono ?_
 rintro e w4 ⟨rfl,hb4⟩
 replace hb0:=hb0.trans (hb4.mono hb0.size)
 replace hT:=hT.below hb4
 replace hU:=hU.below hb4
 replace k1:=k1.below hb4 k1.lt
 replace k2:=k2.below hb4 k2.lt
 replace k3:=k3.below hb4 k3.lt
 replace k4:=k4.below hb4 k4.lt
 clear hb4
 obtain⟨k1c0,k1c1,k1z,k1f0,k1f1⟩:=k1.b2
 obtain⟨k2c0,k2c1,k2c2,k2z,k2f0,k2f1,k2f2⟩:=k2.b3
 obtain⟨k3c0,k3c1,k3c2,k3c3,k3z,k3f0,k3f1,k3f2,k3f3⟩:=k3.b4
 obtain⟨k4c0,k4c1,k4c2,k4z,k4f0,k4f1,k4f2⟩:=k4.b3
 go_wp2
 clear k1c0 k1f0 k1c1 k1f1 k1z k2c0 k2f0 k2c1 k2f1 k2c2 k2f2 k2z k3c0 k3f0 k3c1 k3f1 k3c2 k3f2 k3c3 k3f3 k3z k4c0 k4f0 k4c1 k4f1 k4c2 k4f2 k4z
 clear hand hin hFi
 go_loopw [14] (fun v14 wr=>∃n:Nat,v14=.int .i64 (n:Int)∧1≤n∧n≤18∧digS m q P inn (4*m-1) (18-n) n=RES∧Blk wr (w.heap.size+1) 26 #[.bool false,.string ⟨#[]⟩,.int .i64 0]∧Blk wr (w2.heap.size) 37 #[.bool ng,.int .u64 (m:Int),.int .i64 q,.bool true]∧Below w.heap.size w wr) (fun v14 _=>19-(intOf v14).toNat)
 case atStart=>exact⟨1,rfl,by omega,by omega,HRES.out.symm,k2,k3,hb0⟩
 case round=>
  clear k1 k2 k3 k4 hb0 hT hU
  obtain⟨n,rfl,hn1,hn18,hdg,k2,k3,hb0⟩:=hrel
  by_cases hn2:n≤17
  · have hg17:decide ((n:Int)≤17)=true:=by simp;omega
    have hT:=hT0.below hb0
    have hU:=hU0.below hb0
    have h0:=H0.out
    have hP:=HP.out
    have hm0:0<m:=Nat.pos_of_ne_zero h0
    have hstep:(match roundS m q P inn (4*m-1) n with|none=>digS m q P inn (4*m-1) (17-n) (n+1)|some none=>none|some (some x)=>some (x,P+1-n))=RES:=by
     rw[show 18-n=17-n+1 by omega] at hdg
     exact hdg
    clear hdg
    have hf:farB (kS P n)=false:=by unfold kS;simp only[farB,Bool.or_eq_false_iff,decide_eq_false_iff_not];omega
    have hks: -(P+1-(n:Int))=kS P n:=by unfold kS;omega
    have hAt:=fun W hT=>sure_at P n (P+1-n) (by omega) (by omega) (by omega) (by omega) rfl (by rw[hks];exact hf) W hT
    rw[hks] at hAt
    have hXb: -2000≤tenE (kS P n)∧tenE (kS P n)≤2000:=by
     have:=tS_le hf
     unfold tenE
     simp only[farB,Bool.or_eq_false_iff,decide_eq_false_iff_not] at hf
     split <;> omega
    obtain⟨N,hN,n1,n2,hall⟩:=scale_ok h0 hm hP hn1 hn2 (k:=kS P n) rfl hf
    have hNS:NS q P n=N:=by unfold NS;rw[hN,Int.toNat_natCast]
    have e256:(2:Nat)^192≤2^256:=Nat.pow_le_pow_right (by decide) (by decide)
    have hT1:tenN (kS P n)<2^256:=Nat.lt_of_lt_of_le (tenN_bd hf).2 (Nat.pow_le_pow_right (by decide) (by decide))
    have hT2:kB (kS P n)<2^256:=by
     have h1:=(tenN_bd hf).2
     have h2:kB (kS P n)≤tenN (kS P n)+1:=by unfold kB;split <;> omega
     have h3:(2:Nat)^128<2^256:=Nat.pow_lt_pow_right (by decide) (by decide)
     omega
    obtain⟨a1,a2,a3,a4,a5,a6⟩:=hall (4*m-1) (by omega) (by omega)
    have hSda:=fun W=>sure_side ng true m (4*m-1) (tenN (kS P n)) (kB (kS P n)) q (tenE (kS P n)) (P+1-n) (-1) (by omega) (by omega) (by omega) (by omega) (by omega) (by omega) (by omega) hT1 hT2 (Nat.lt_of_lt_of_le a1 e256) (Nat.lt_of_lt_of_le a2 e256) W
    rw[hN] at hSda
    obtain⟨b1,b2,b3,b4,b5,b6⟩:=hall (4*m+2) (by omega) (by omega)
    have hSdb:=fun W=>sure_side ng true m (4*m+2) (tenN (kS P n)) (kB (kS P n)) q (tenE (kS P n)) (P+1-n) 2 (by omega) (by omega) (by omega) (by omega) (by omega) (by omega) (by omega) hT1 hT2 (Nat.lt_of_lt_of_le b1 e256) (Nat.lt_of_lt_of_le b2 e256) W
    rw[hN] at hSdb
    obtain⟨c1,c2,c3,c4,c5,c6⟩:=hall (4*m) (by omega) (by omega)
    have hSdc:=fun W=>sure_side ng true m (4*m) (tenN (kS P n)) (kB (kS P n)) q (tenE (kS P n)) (P+1-n) 0 (by omega) (by omega) (by omega) (by omega) (by omega) (by omega) (by omega) hT1 hT2 (Nat.lt_of_lt_of_le c1 e256) (Nat.lt_of_lt_of_le c2 e256) W
    rw[hN] at hSdc
    have hq60:(2:Nat)^60=1152921504606846976:=rfl
    have hcl:=ceil_lt inn a3
    have hfl:=floor_lt inn b3
    have hnl:=near_lt c3
    have hL:=fun W=>sure_least (tenN (kS P n)*(4*m-1)) (kB (kS P n)*(4*m-1)) N a1 a2 n1 n2 (by rw[hq60] at a3;omega) (by rw[hq60] at a4;omega) inn W
    have hG:=fun W=>sure_greatest (tenN (kS P n)*(4*m+2)) (kB (kS P n)*(4*m+2)) N b1 b2 n1 n2 (by rw[hq60] at b3;omega) (by rw[hq60] at b4;omega) inn b5 b6 W
    have hNr:=fun W=>sure_nearest (tenN (kS P n)*(4*m)) (kB (kS P n)*(4*m)) N c1 c2 n1 n2 (by rw[hq60] at c3;omega) (by rw[hq60] at c4;omega) W
    unfold roundS someS loE hiE at hstep
    rw[hNS] at hstep
    generalize ceilS inn (tenN (kS P n)*(4*m-1)) N=C1 at hL hstep hcl
    generalize ceilS inn (kB (kS P n)*(4*m-1)) N=C2 at hL hstep
    generalize floorS inn (tenN (kS P n)*(4*m+2)) N=F1 at hG hstep hfl
    generalize floorS inn (kB (kS P n)*(4*m+2)) N=F2 at hG hstep
    generalize nearS (tenN (kS P n)*(4*m)) N=R1 at hNr hstep hnl
    generalize nearS (kB (kS P n)*(4*m)) N=R2 at hNr hstep
    have hDc:=fun W hU=>sure_decimal ng true m (max C1 (min F1 R1)) q (P+1-n) (by omega) (by omega) (by omega) W hU
    obtain⟨x0,x1,x2,x3,hx⟩:∃a b c d:Nat,W4 (tenN (kS P n))=#[.int .u64 (a:Int),.int .u64 (b:Int),.int .u64 (c:Int),.int .u64 (d:Int)]:=⟨_,_,_,_,rfl⟩
    obtain⟨y0,y1,y2,y3,hy⟩:∃a b c d:Nat,W4 (kB (kS P n))=#[.int .u64 (a:Int),.int .u64 (b:Int),.int .u64 (c:Int),.int .u64 (d:Int)]:=⟨_,_,_,_,rfl⟩
    obtain⟨ap0,ap1,ap2,ap3,hap⟩:∃a b c d:Nat,W4 (tenN (kS P n)*(4*m-1))=#[.int .u64 (a:Int),.int .u64 (b:Int),.int .u64 (c:Int),.int .u64 (d:Int)]:=⟨_,_,_,_,rfl⟩
    obtain⟨ar0,ar1,ar2,ar3,har⟩:∃a b c d:Nat,W4 (kB (kS P n)*(4*m-1))=#[.int .u64 (a:Int),.int .u64 (b:Int),.int .u64 (c:Int),.int .u64 (d:Int)]:=⟨_,_,_,_,rfl⟩
    obtain⟨bp0,bp1,bp2,bp3,hbp⟩:∃a b c d:Nat,W4 (tenN (kS P n)*(4*m+2))=#[.int .u64 (a:Int),.int .u64 (b:Int),.int .u64 (c:Int),.int .u64 (d:Int)]:=⟨_,_,_,_,rfl⟩
    obtain⟨br0,br1,br2,br3,hbr⟩:∃a b c d:Nat,W4 (kB (kS P n)*(4*m+2))=#[.int .u64 (a:Int),.int .u64 (b:Int),.int .u64 (c:Int),.int .u64 (d:Int)]:=⟨_,_,_,_,rfl⟩
    obtain⟨cp0,cp1,cp2,cp3,hcp⟩:∃a b c d:Nat,W4 (tenN (kS P n)*(4*m))=#[.int .u64 (a:Int),.int .u64 (b:Int),.int .u64 (c:Int),.int .u64 (d:Int)]:=⟨_,_,_,_,rfl⟩
    obtain⟨cr0,cr1,cr2,cr3,hcr⟩:∃a b c d:Nat,W4 (kB (kS P n)*(4*m))=#[.int .u64 (a:Int),.int .u64 (b:Int),.int .u64 (c:Int),.int .u64 (d:Int)]:=⟨_,_,_,_,rfl⟩
    rw[hx,hy] at hAt hSda hSdb hSdc
    rw[hap,har] at hSda hL
    rw[hbp,hbr] at hSdb hG
    rw[hcp,hcr] at hSdc hNr
    clear hx hy hap har hbp hbr hcp hcr hN hNS hall hT1 hT2 e256 a1 a2 a3 a4 a5 a6 b1 b2 b3 b4 b5 b6 c1 c2 c3 c4 c5 c6 hf hks hq60 n1 n2 h0 hP hcl hfl hnl
    generalize tenE (kS P n)=X at*
    clear hXb
    replace hAt:∀(W:World),Tab5 W→Calls Tryz.prog 12 #[.int .i64 P,.int .i64 (n:Int)] W (Says W (.tuple #[.agg #[.int .u64 (x0:Int),.int .u64 (x1:Int),.int .u64 (x2:Int),.int .u64 (x3:Int),.int .u64 (y0:Int),.int .u64 (y1:Int),.int .u64 (y2:Int),.int .u64 (y3:Int),.int .i64 X,.int .i64 (P+1-n)],.int .i64 0])):=hAt
    replace hSda:∀(W:World),Calls Tryz.prog 13 #[.agg #[.bool ng,.int .u64 (m:Int),.int .i64 q,.bool true],.agg #[.int .u64 (x0:Int),.int .u64 (x1:Int),.int .u64 (x2:Int),.int .u64 (x3:Int),.int .u64 (y0:Int),.int .u64 (y1:Int),.int .u64 (y2:Int),.int .u64 (y3:Int),.int .i64 X,.int .i64 (P+1-n)],.int .i64 (-1)] W (Says W (.tuple #[.agg #[.int .u64 (ap0:Int),.int .u64 (ap1:Int),.int .u64 (ap2:Int),.int .u64 (ap3:Int)],.agg #[.int .u64 (ar0:Int),.int .u64 (ar1:Int),.int .u64 (ar2:Int),.int .u64 (ar3:Int)],.int .i64 (N:Int)])):=hSda
    replace hSdb:∀(W:World),Calls Tryz.prog 13 #[.agg #[.bool ng,.int .u64 (m:Int),.int .i64 q,.bool true],.agg #[.int .u64 (x0:Int),.int .u64 (x1:Int),.int .u64 (x2:Int),.int .u64 (x3:Int),.int .u64 (y0:Int),.int .u64 (y1:Int),.int .u64 (y2:Int),.int .u64 (y3:Int),.int .i64 X,.int .i64 (P+1-n)],.int .i64 2] W (Says W (.tuple #[.agg #[.int .u64 (bp0:Int),.int .u64 (bp1:Int),.int .u64 (bp2:Int),.int .u64 (bp3:Int)],.agg #[.int .u64 (br0:Int),.int .u64 (br1:Int),.int .u64 (br2:Int),.int .u64 (br3:Int)],.int .i64 (N:Int)])):=hSdb
    replace hSdc:∀(W:World),Calls Tryz.prog 13 #[.agg #[.bool ng,.int .u64 (m:Int),.int .i64 q,.bool true],.agg #[.int .u64 (x0:Int),.int .u64 (x1:Int),.int .u64 (x2:Int),.int .u64 (x3:Int),.int .u64 (y0:Int),.int .u64 (y1:Int),.int .u64 (y2:Int),.int .u64 (y3:Int),.int .i64 X,.int .i64 (P+1-n)],.int .i64 0] W (Says W (.tuple #[.agg #[.int .u64 (cp0:Int),.int .u64 (cp1:Int),.int .u64 (cp2:Int),.int .u64 (cp3:Int)],.agg #[.int .u64 (cr0:Int),.int .u64 (cr1:Int),.int .u64 (cr2:Int),.int .u64 (cr3:Int)],.int .i64 (N:Int)])):=hSdc
    have HS:=Lib.hid hstep
    clear hstep
    obtain⟨k2c0,k2c1,k2c2,k2z,k2f0,k2f1,k2f2⟩:=k2.b3
    obtain⟨k3c0,k3c1,k3c2,k3c3,k3z,k3f0,k3f1,k3f2,k3f3⟩:=k3.b4
    go_wp2_with fail
    clear k2c0 k2f0 k2c1 k2f1 k2c2 k2f2 k2z k3c0 k3f0 k3c1 k3f1 k3c2 k3f2 k3c3 k3f3 k3z
    refine(hAt _ hT).mono ?_
    rintro e w1 ⟨rfl,hb1⟩
    replace k2:=k2.below hb1 k2.lt
    replace k3:=k3.below hb1 k3.lt
    replace hb0:=hb0.trans (hb1.mono hb0.size)
    replace hT:=hT.below hb1
    replace hU:=hU.below hb1
    clear hb1
    go_upto_region 15 with fail
    have l5:w2.heap.size<w1.heap.size:=k3.lt
    obtain⟨v2,E_,hv2,k5⟩:=Blk.a1 w1 45 #[.int .u64 (x0:Int),.int .u64 (x1:Int),.int .u64 (x2:Int),.int .u64 (x3:Int),.int .u64 (y0:Int),.int .u64 (y1:Int),.int .u64 (y2:Int),.int .u64 (y3:Int),.int .i64 X,.int .i64 (P+1-n)]
    replace k2:=k2.below hv2 k2.lt
    replace k3:=k3.below hv2 k3.lt
    replace hb0:=hb0.trans (hv2.mono hb0.size)
    replace hT:=hT.below hv2
    replace hU:=hU.below hv2
    rw[E_]
    clear hv2 E_
    have k2c0:=k2.cell 0
    have k2f0:=k2.frozen 0
    have k2c1:=k2.cell 1
    have k2f1:=k2.frozen 1
    have k2c2:=k2.cell 2
    have k2f2:=k2.frozen 2
    have k2z:=k2.lt
    have k3c0:=k3.cell 0
    have k3f0:=k3.frozen 0
    have k3c1:=k3.cell 1
    have k3f1:=k3.frozen 1
    have k3c2:=k3.cell 2
    have k3f2:=k3.frozen 2
    have k3c3:=k3.cell 3
    have k3f3:=k3.frozen 3
    have k3z:=k3.lt
    have k5c0:=k5.cell 0
    have k5f0:=k5.frozen 0
    have k5c1:=k5.cell 1
    have k5f1:=k5.frozen 1
    have k5c2:=k5.cell 2
    have k5f2:=k5.frozen 2
    have k5c3:=k5.cell 3
    have k5f3:=k5.frozen 3
    have k5c4:=k5.cell 4
    have k5f4:=k5.frozen 4
    have k5c5:=k5.cell 5
    have k5f5:=k5.frozen 5
    have k5c6:=k5.cell 6
    have k5f6:=k5.frozen 6
    have k5c7:=k5.cell 7
    have k5f7:=k5.frozen 7
    have k5c8:=k5.cell 8
    have k5f8:=k5.frozen 8
    have k5c9:=k5.cell 9
    have k5f9:=k5.frozen 9
    have k5z:=k5.lt
    simp only[geCells] at k2c0 k2c1 k2c2 k3c0 k3c1 k3c2 k3c3 k5c0 k5c1 k5c2 k5c3 k5c4 k5c5 k5c6 k5c7 k5c8 k5c9
    go_wp2_with fail
    clear k2c0 k2f0 k2c1 k2f1 k2c2 k2f2 k2z k3c0 k3f0 k3c1 k3f1 k3c2 k3f2 k3c3 k3f3 k3z k5c0 k5f0 k5c1 k5f1 k5c2 k5f2 k5c3 k5f3 k5c4 k5f4 k5c5 k5f5 k5c6 k5f6 k5c7 k5f7 k5c8 k5f8 k5c9 k5f9 k5z
    refine(hSda _).mono ?_
    rintro e w3 ⟨rfl,hb3⟩
    replace k2:=k2.below hb3 k2.lt
    replace k3:=k3.below hb3 k3.lt
    replace hb0:=hb0.trans (hb3.mono hb0.size)
    replace hT:=hT.below hb3
    replace hU:=hU.below hb3
    replace k5:=k5.below hb3 k5.lt
    clear hb3
    go_upto_region 18 with fail
    have l6:w1.heap.size<w3.heap.size:=k5.lt
    obtain⟨v4,E_,hv4,k6,k7⟩:=Blk.a2 w3 43 #[.int .u64 (ap0:Int),.int .u64 (ap1:Int),.int .u64 (ap2:Int),.int .u64 (ap3:Int)] 43 #[.int .u64 (ar0:Int),.int .u64 (ar1:Int),.int .u64 (ar2:Int),.int .u64 (ar3:Int)]
    replace k2:=k2.below hv4 k2.lt
    replace k3:=k3.below hv4 k3.lt
    replace hb0:=hb0.trans (hv4.mono hb0.size)
    replace hT:=hT.below hv4
    replace hU:=hU.below hv4
    replace k5:=k5.below hv4 k5.lt
    rw[E_]
    clear hv4 E_
    have k2c0:=k2.cell 0
    have k2f0:=k2.frozen 0
    have k2c1:=k2.cell 1
    have k2f1:=k2.frozen 1
    have k2c2:=k2.cell 2
    have k2f2:=k2.frozen 2
    have k2z:=k2.lt
    have k3c0:=k3.cell 0
    have k3f0:=k3.frozen 0
    have k3c1:=k3.cell 1
    have k3f1:=k3.frozen 1
    have k3c2:=k3.cell 2
    have k3f2:=k3.frozen 2
    have k3c3:=k3.cell 3
    have k3f3:=k3.frozen 3
    have k3z:=k3.lt
    have k5c0:=k5.cell 0
    have k5f0:=k5.frozen 0
    have k5c1:=k5.cell 1
    have k5f1:=k5.frozen 1
    have k5c2:=k5.cell 2
    have k5f2:=k5.frozen 2
    have k5c3:=k5.cell 3
    have k5f3:=k5.frozen 3
    have k5c4:=k5.cell 4
    have k5f4:=k5.frozen 4
    have k5c5:=k5.cell 5
    have k5f5:=k5.frozen 5
    have k5c6:=k5.cell 6
    have k5f6:=k5.frozen 6
    have k5c7:=k5.cell 7
    have k5f7:=k5.frozen 7
    have k5c8:=k5.cell 8
    have k5f8:=k5.frozen 8
    have k5c9:=k5.cell 9
    have k5f9:=k5.frozen 9
    have k5z:=k5.lt
    have k6c0:=k6.cell 0
    have k6f0:=k6.frozen 0
    have k6c1:=k6.cell 1
    have k6f1:=k6.frozen 1
    have k6c2:=k6.cell 2
    have k6f2:=k6.frozen 2
    have k6c3:=k6.cell 3
    have k6f3:=k6.frozen 3
    have k6z:=k6.lt
    have k7c0:=k7.cell 0
    have k7f0:=k7.frozen 0
    have k7c1:=k7.cell 1
    have k7f1:=k7.frozen 1
    have k7c2:=k7.cell 2
    have k7f2:=k7.frozen 2
    have k7c3:=k7.cell 3
    have k7f3:=k7.frozen 3
    have k7z:=k7.lt
    simp only[geCells] at k2c0 k2c1 k2c2 k3c0 k3c1 k3c2 k3c3 k5c0 k5c1 k5c2 k5c3 k5c4 k5c5 k5c6 k5c7 k5c8 k5c9 k6c0 k6c1 k6c2 k6c3 k7c0 k7c1 k7c2 k7c3
    go_wp2_with fail
    clear k2c0 k2f0 k2c1 k2f1 k2c2 k2f2 k2z k3c0 k3f0 k3c1 k3f1 k3c2 k3f2 k3c3 k3f3 k3z k5c0 k5f0 k5c1 k5f1 k5c2 k5f2 k5c3 k5f3 k5c4 k5f4 k5c5 k5f5 k5c6 k5f6 k5c7 k5f7 k5c8 k5f8 k5c9 k5f9 k5z k6c0 k6f0 k6c1 k6f1 k6c2 k6f2 k6c3 k6f3 k6z k7c0 k7f0 k7c1 k7f1 k7c2 k7f2 k7c3 k7f3 k7z
    refine(hL _).mono ?_
    rintro e w5 ⟨rfl,hb5⟩
    replace k2:=k2.below hb5 k2.lt
    replace k3:=k3.below hb5 k3.lt
    replace hb0:=hb0.trans (hb5.mono hb0.size)
    replace hT:=hT.below hb5
    replace hU:=hU.below hb5
    replace k5:=k5.below hb5 k5.lt
    replace k6:=k6.below hb5 k6.lt
    replace k7:=k7.below hb5 k7.lt
    clear hb5
    have k2c0:=k2.cell 0
    have k2f0:=k2.frozen 0
    have k2c1:=k2.cell 1
    have k2f1:=k2.frozen 1
    have k2c2:=k2.cell 2
    have k2f2:=k2.frozen 2
    have k2z:=k2.lt
    have k3c0:=k3.cell 0
    have k3f0:=k3.frozen 0
    have k3c1:=k3.cell 1
    have k3f1:=k3.frozen 1
    have k3c2:=k3.cell 2
    have k3f2:=k3.frozen 2
    have k3c3:=k3.cell 3
    have k3f3:=k3.frozen 3
    have k3z:=k3.lt
    have k5c0:=k5.cell 0
    have k5f0:=k5.frozen 0
    have k5c1:=k5.cell 1
    have k5f1:=k5.frozen 1
    have k5c2:=k5.cell 2
    have k5f2:=k5.frozen 2
    have k5c3:=k5.cell 3
    have k5f3:=k5.frozen 3
    have k5c4:=k5.cell 4
    have k5f4:=k5.frozen 4
    have k5c5:=k5.cell 5
    have k5f5:=k5.frozen 5
    have k5c6:=k5.cell 6
    have k5f6:=k5.frozen 6
    have k5c7:=k5.cell 7
    have k5f7:=k5.frozen 7
    have k5c8:=k5.cell 8
    have k5f8:=k5.frozen 8
    have k5c9:=k5.cell 9
    have k5f9:=k5.frozen 9
    have k5z:=k5.lt
    have k6c0:=k6.cell 0
    have k6f0:=k6.frozen 0
    have k6c1:=k6.cell 1
    have k6f1:=k6.frozen 1
    have k6c2:=k6.cell 2
    have k6f2:=k6.frozen 2
    have k6c3:=k6.cell 3
    have k6f3:=k6.frozen 3
    have k6z:=k6.lt
    have k7c0:=k7.cell 0
    have k7f0:=k7.frozen 0
    have k7c1:=k7.cell 1
    have k7f1:=k7.frozen 1
    have k7c2:=k7.cell 2
    have k7f2:=k7.frozen 2
    have k7c3:=k7.cell 3
    have k7f3:=k7.frozen 3
    have k7z:=k7.lt
    simp only[geCells] at k2c0 k2c1 k2c2 k3c0 k3c1 k3c2 k3c3 k5c0 k5c1 k5c2 k5c3 k5c4 k5c5 k5c6 k5c7 k5c8 k5c9 k6c0 k6c1 k6c2 k6c3 k7c0 k7c1 k7c2 k7c3
    go_wp2_with fail
    clear k2c0 k2f0 k2c1 k2f1 k2c2 k2f2 k2z k3c0 k3f0 k3c1 k3f1 k3c2 k3f2 k3c3 k3f3 k3z k5c0 k5f0 k5c1 k5f1 k5c2 k5f2 k5c3 k5f3 k5c4 k5f4 k5c5 k5f5 k5c6 k5f6 k5c7 k5f7 k5c8 k5f8 k5c9 k5f9 k5z k6c0 k6f0 k6c1 k6f1 k6c2 k6f2 k6c3 k6f3 k6z k7c0 k7f0 k7c1 k7f1 k7c2 k7f2 k7c3 k7f3 k7z
    refine(hSdb _).mono ?_
    rintro e w6 ⟨rfl,hb6⟩
    replace k2:=k2.below hb6 k2.lt
    replace k3:=k3.below hb6 k3.lt
    replace hb0:=hb0.trans (hb6.mono hb0.size)
    replace hT:=hT.below hb6
    replace hU:=hU.below hb6
    replace k5:=k5.below hb6 k5.lt
    replace k6:=k6.below hb6 k6.lt
    replace k7:=k7.below hb6 k7.lt
    clear hb6
    have k2c0:=k2.cell 0
    have k2f0:=k2.frozen 0
    have k2c1:=k2.cell 1
    have k2f1:=k2.frozen 1
    have k2c2:=k2.cell 2
    have k2f2:=k2.frozen 2
    have k2z:=k2.lt
    have k3c0:=k3.cell 0
    have k3f0:=k3.frozen 0
    have k3c1:=k3.cell 1
    have k3f1:=k3.frozen 1
    have k3c2:=k3.cell 2
    have k3f2:=k3.frozen 2
    have k3c3:=k3.cell 3
    have k3f3:=k3.frozen 3
    have k3z:=k3.lt
    have k5c0:=k5.cell 0
    have k5f0:=k5.frozen 0
    have k5c1:=k5.cell 1
    have k5f1:=k5.frozen 1
    have k5c2:=k5.cell 2
    have k5f2:=k5.frozen 2
    have k5c3:=k5.cell 3
    have k5f3:=k5.frozen 3
    have k5c4:=k5.cell 4
    have k5f4:=k5.frozen 4
    have k5c5:=k5.cell 5
    have k5f5:=k5.frozen 5
    have k5c6:=k5.cell 6
    have k5f6:=k5.frozen 6
    have k5c7:=k5.cell 7
    have k5f7:=k5.frozen 7
    have k5c8:=k5.cell 8
    have k5f8:=k5.frozen 8
    have k5c9:=k5.cell 9
    have k5f9:=k5.frozen 9
    have k5z:=k5.lt
    have k6c0:=k6.cell 0
    have k6f0:=k6.frozen 0
    have k6c1:=k6.cell 1
    have k6f1:=k6.frozen 1
    have k6c2:=k6.cell 2
    have k6f2:=k6.frozen 2
    have k6c3:=k6.cell 3
    have k6f3:=k6.frozen 3
    have k6z:=k6.lt
    have k7c0:=k7.cell 0
    have k7f0:=k7.frozen 0
    have k7c1:=k7.cell 1
    have k7f1:=k7.frozen 1
    have k7c2:=k7.cell 2
    have k7f2:=k7.frozen 2
    have k7c3:=k7.cell 3
    have k7f3:=k7.frozen 3
    have k7z:=k7.lt
    simp only[geCells] at k2c0 k2c1 k2c2 k3c0 k3c1 k3c2 k3c3 k5c0 k5c1 k5c2 k5c3 k5c4 k5c5 k5c6 k5c7 k5c8 k5c9 k6c0 k6c1 k6c2 k6c3 k7c0 k7c1 k7c2 k7c3
    go_upto_region 20 with fail
    clear k2c0 k2f0 k2c1 k2f1 k2c2 k2f2 k2z k3c0 k3f0 k3c1 k3f1 k3c2 k3f2 k3c3 k3f3 k3z k5c0 k5f0 k5c1 k5f1 k5c2 k5f2 k5c3 k5f3 k5c4 k5f4 k5c5 k5f5 k5c6 k5f6 k5c7 k5f7 k5c8 k5f8 k5c9 k5f9 k5z k6c0 k6f0 k6c1 k6f1 k6c2 k6f2 k6c3 k6f3 k6z k7c0 k7f0 k7c1 k7f1 k7c2 k7f2 k7c3 k7f3 k7z
    clear hT hU
    refine(fun (HH:∀W,Blk W (w.heap.size+1) 26 #[.bool false,.string ⟨#[]⟩,.int .i64 0]∧Blk W (w2.heap.size) 37 #[.bool ng,.int .u64 (m:Int),.int .i64 q,.bool true]∧Blk W (w1.heap.size) 45 #[.int .u64 (x0:Int),.int .u64 (x1:Int),.int .u64 (x2:Int),.int .u64 (x3:Int),.int .u64 (y0:Int),.int .u64 (y1:Int),.int .u64 (y2:Int),.int .u64 (y3:Int),.int .i64 X,.int .i64 (P+1-n)]∧Blk W (w3.heap.size) 43 #[.int .u64 (bp0:Int),.int .u64 (bp1:Int),.int .u64 (bp2:Int),.int .u64 (bp3:Int)]∧Blk W (w3.heap.size+1) 43 #[.int .u64 (br0:Int),.int .u64 (br1:Int),.int .u64 (br2:Int),.int .u64 (br3:Int)]∧Below w.heap.size w W→Code.wp _ _ _ _ W)=>HH _ ⟨by exact((((((((k2.far (p:=⟨w3.heap.size,0,none⟩) (by show w.heap.size+1≠w3.heap.size;omega) _).far (p:=⟨w3.heap.size,1,none⟩) (by show w.heap.size+1≠w3.heap.size;omega) _).far (p:=⟨w3.heap.size,2,none⟩) (by show w.heap.size+1≠w3.heap.size;omega) _).far (p:=⟨w3.heap.size,3,none⟩) (by show w.heap.size+1≠w3.heap.size;omega) _).far (p:=⟨w3.heap.size+1,0,none⟩) (by show w.heap.size+1≠w3.heap.size+1;omega) _).far (p:=⟨w3.heap.size+1,1,none⟩) (by show w.heap.size+1≠w3.heap.size+1;omega) _).far (p:=⟨w3.heap.size+1,2,none⟩) (by show w.heap.size+1≠w3.heap.size+1;omega) _).far (p:=⟨w3.heap.size+1,3,none⟩) (by show w.heap.size+1≠w3.heap.size+1;omega) _),by exact((((((((k3.far (p:=⟨w3.heap.size,0,none⟩) (by show w2.heap.size≠w3.heap.size;omega) _).far (p:=⟨w3.heap.size,1,none⟩) (by show w2.heap.size≠w3.heap.size;omega) _).far (p:=⟨w3.heap.size,2,none⟩) (by show w2.heap.size≠w3.heap.size;omega) _).far (p:=⟨w3.heap.size,3,none⟩) (by show w2.heap.size≠w3.heap.size;omega) _).far (p:=⟨w3.heap.size+1,0,none⟩) (by show w2.heap.size≠w3.heap.size+1;omega) _).far (p:=⟨w3.heap.size+1,1,none⟩) (by show w2.heap.size≠w3.heap.size+1;omega) _).far (p:=⟨w3.heap.size+1,2,none⟩) (by show w2.heap.size≠w3.heap.size+1;omega) _).far (p:=⟨w3.heap.size+1,3,none⟩) (by show w2.heap.size≠w3.heap.size+1;omega) _),by exact((((((((k5.far (p:=⟨w3.heap.size,0,none⟩) (by show w1.heap.size≠w3.heap.size;omega) _).far (p:=⟨w3.heap.size,1,none⟩) (by show w1.heap.size≠w3.heap.size;omega) _).far (p:=⟨w3.heap.size,2,none⟩) (by show w1.heap.size≠w3.heap.size;omega) _).far (p:=⟨w3.heap.size,3,none⟩) (by show w1.heap.size≠w3.heap.size;omega) _).far (p:=⟨w3.heap.size+1,0,none⟩) (by show w1.heap.size≠w3.heap.size+1;omega) _).far (p:=⟨w3.heap.size+1,1,none⟩) (by show w1.heap.size≠w3.heap.size+1;omega) _).far (p:=⟨w3.heap.size+1,2,none⟩) (by show w1.heap.size≠w3.heap.size+1;omega) _).far (p:=⟨w3.heap.size+1,3,none⟩) (by show w1.heap.size≠w3.heap.size+1;omega) _),by exact((((((((k6.set_ 0 _).set_ 1 _).set_ 2 _).set_ 3 _).far (p:=⟨w3.heap.size+1,0,none⟩) (by show w3.heap.size≠w3.heap.size+1;omega) _).far (p:=⟨w3.heap.size+1,1,none⟩) (by show w3.heap.size≠w3.heap.size+1;omega) _).far (p:=⟨w3.heap.size+1,2,none⟩) (by show w3.heap.size≠w3.heap.size+1;omega) _).far (p:=⟨w3.heap.size+1,3,none⟩) (by show w3.heap.size≠w3.heap.size+1;omega) _),by exact((((((((k7.far (p:=⟨w3.heap.size,0,none⟩) (by show w3.heap.size+1≠w3.heap.size;omega) _).far (p:=⟨w3.heap.size,1,none⟩) (by show w3.heap.size+1≠w3.heap.size;omega) _).far (p:=⟨w3.heap.size,2,none⟩) (by show w3.heap.size+1≠w3.heap.size;omega) _).far (p:=⟨w3.heap.size,3,none⟩) (by show w3.heap.size+1≠w3.heap.size;omega) _).set_ 0 _).set_ 1 _).set_ 2 _).set_ 3 _),by exact((((((((hb0.setCell (p:=⟨w3.heap.size,0,none⟩) (by show w.heap.size≤w3.heap.size;omega) _).setCell (p:=⟨w3.heap.size,1,none⟩) (by show w.heap.size≤w3.heap.size;omega) _).setCell (p:=⟨w3.heap.size,2,none⟩) (by show w.heap.size≤w3.heap.size;omega) _).setCell (p:=⟨w3.heap.size,3,none⟩) (by show w.heap.size≤w3.heap.size;omega) _).setCell (p:=⟨w3.heap.size+1,0,none⟩) (by show w.heap.size≤w3.heap.size+1;omega) _).setCell (p:=⟨w3.heap.size+1,1,none⟩) (by show w.heap.size≤w3.heap.size+1;omega) _).setCell (p:=⟨w3.heap.size+1,2,none⟩) (by show w.heap.size≤w3.heap.size+1;omega) _).setCell (p:=⟨w3.heap.size+1,3,none⟩) (by show w.heap.size≤w3.heap.size+1;omega) _)⟩) ?_
    clear k2 k3 k5 k6 k7 hb0
    rintro u1 ⟨k2,k3,k5,k6,k7,hb0⟩
    have k2c0:=k2.cell 0
    have k2f0:=k2.frozen 0
    have k2c1:=k2.cell 1
    have k2f1:=k2.frozen 1
    have k2c2:=k2.cell 2
    have k2f2:=k2.frozen 2
    have k2z:=k2.lt
    have k3c0:=k3.cell 0
    have k3f0:=k3.frozen 0
    have k3c1:=k3.cell 1
    have k3f1:=k3.frozen 1
    have k3c2:=k3.cell 2
    have k3f2:=k3.frozen 2
    have k3c3:=k3.cell 3
    have k3f3:=k3.frozen 3
    have k3z:=k3.lt
    have k5c0:=k5.cell 0
    have k5f0:=k5.frozen 0
    have k5c1:=k5.cell 1
    have k5f1:=k5.frozen 1
    have k5c2:=k5.cell 2
    have k5f2:=k5.frozen 2
    have k5c3:=k5.cell 3
    have k5f3:=k5.frozen 3
    have k5c4:=k5.cell 4
    have k5f4:=k5.frozen 4
    have k5c5:=k5.cell 5
    have k5f5:=k5.frozen 5
    have k5c6:=k5.cell 6
    have k5f6:=k5.frozen 6
    have k5c7:=k5.cell 7
    have k5f7:=k5.frozen 7
    have k5c8:=k5.cell 8
    have k5f8:=k5.frozen 8
    have k5c9:=k5.cell 9
    have k5f9:=k5.frozen 9
    have k5z:=k5.lt
    have k6c0:=k6.cell 0
    have k6f0:=k6.frozen 0
    have k6c1:=k6.cell 1
    have k6f1:=k6.frozen 1
    have k6c2:=k6.cell 2
    have k6f2:=k6.frozen 2
    have k6c3:=k6.cell 3
    have k6f3:=k6.frozen 3
    have k6z:=k6.lt
    have k7c0:=k7.cell 0
    have k7f0:=k7.frozen 0
    have k7c1:=k7.cell 1
    have k7f1:=k7.frozen 1
    have k7c2:=k7.cell 2
    have k7f2:=k7.frozen 2
    have k7c3:=k7.cell 3
    have k7f3:=k7.frozen 3
    have k7z:=k7.lt
    simp only[geCells] at k2c0 k2c1 k2c2 k3c0 k3c1 k3c2 k3c3 k5c0 k5c1 k5c2 k5c3 k5c4 k5c5 k5c6 k5c7 k5c8 k5c9 k6c0 k6c1 k6c2 k6c3 k7c0 k7c1 k7c2 k7c3
    go_wp2_with fail
    clear k2c0 k2f0 k2c1 k2f1 k2c2 k2f2 k2z k3c0 k3f0 k3c1 k3f1 k3c2 k3f2 k3c3 k3f3 k3z k5c0 k5f0 k5c1 k5f1 k5c2 k5f2 k5c3 k5f3 k5c4 k5f4 k5c5 k5f5 k5c6 k5f6 k5c7 k5f7 k5c8 k5f8 k5c9 k5f9 k5z k6c0 k6f0 k6c1 k6f1 k6c2 k6f2 k6c3 k6f3 k6z k7c0 k7f0 k7c1 k7f1 k7c2 k7f2 k7c3 k7f3 k7z
    refine(hG _).mono ?_
    rintro e w7 ⟨rfl,hb7⟩
    replace k2:=k2.below hb7 k2.lt
    replace k3:=k3.below hb7 k3.lt
    replace hb0:=hb0.trans (hb7.mono hb0.size)
    replace k5:=k5.below hb7 k5.lt
    replace k6:=k6.below hb7 k6.lt
    replace k7:=k7.below hb7 k7.lt
    clear hb7
    by_cases hC:C1=C2
    · by_cases hF:F1=F2
      · by_cases hFC:F1<C1
        · have hstep:=HS.out
          rw[if_pos ⟨hC,hF⟩,if_pos hFC] at hstep
          have hg:decide ((F1:Int)<(C1:Int))=true:=by simp;omega
          have hg2:decide (F1<C1)=true:=by simp;omega
          rw[decide_eq_true hC,decide_eq_true hF]
          have HS2:=Lib.hid hstep
          clear HS hC hF hFC hstep
          have k2c0:=k2.cell 0
          have k2f0:=k2.frozen 0
          have k2c1:=k2.cell 1
          have k2f1:=k2.frozen 1
          have k2c2:=k2.cell 2
          have k2f2:=k2.frozen 2
          have k2z:=k2.lt
          have k3c0:=k3.cell 0
          have k3f0:=k3.frozen 0
          have k3c1:=k3.cell 1
          have k3f1:=k3.frozen 1
          have k3c2:=k3.cell 2
          have k3f2:=k3.frozen 2
          have k3c3:=k3.cell 3
          have k3f3:=k3.frozen 3
          have k3z:=k3.lt
          have k5c0:=k5.cell 0
          have k5f0:=k5.frozen 0
          have k5c1:=k5.cell 1
          have k5f1:=k5.frozen 1
          have k5c2:=k5.cell 2
          have k5f2:=k5.frozen 2
          have k5c3:=k5.cell 3
          have k5f3:=k5.frozen 3
          have k5c4:=k5.cell 4
          have k5f4:=k5.frozen 4
          have k5c5:=k5.cell 5
          have k5f5:=k5.frozen 5
          have k5c6:=k5.cell 6
          have k5f6:=k5.frozen 6
          have k5c7:=k5.cell 7
          have k5f7:=k5.frozen 7
          have k5c8:=k5.cell 8
          have k5f8:=k5.frozen 8
          have k5c9:=k5.cell 9
          have k5f9:=k5.frozen 9
          have k5z:=k5.lt
          have k6c0:=k6.cell 0
          have k6f0:=k6.frozen 0
          have k6c1:=k6.cell 1
          have k6f1:=k6.frozen 1
          have k6c2:=k6.cell 2
          have k6f2:=k6.frozen 2
          have k6c3:=k6.cell 3
          have k6f3:=k6.frozen 3
          have k6z:=k6.lt
          have k7c0:=k7.cell 0
          have k7f0:=k7.frozen 0
          have k7c1:=k7.cell 1
          have k7f1:=k7.frozen 1
          have k7c2:=k7.cell 2
          have k7f2:=k7.frozen 2
          have k7c3:=k7.cell 3
          have k7f3:=k7.frozen 3
          have k7z:=k7.lt
          simp only[geCells] at k2c0 k2c1 k2c2 k3c0 k3c1 k3c2 k3c3 k5c0 k5c1 k5c2 k5c3 k5c4 k5c5 k5c6 k5c7 k5c8 k5c9 k6c0 k6c1 k6c2 k6c3 k7c0 k7c1 k7c2 k7c3
          go_wp2
          go_roundw
          case rel=>exact⟨n+1,rfl,by omega,by omega,by rw[show 18-(n+1)=17-n by omega];exact HS2.out,k2,k3,hb0⟩
          case measure=>first|(simp[intOf];done)|(simp[intOf];omega)
        · rename_i KA aA QQ KB aB KC aC KD aD
          have hQQ:∀(a:Act) (w':World),bodyPost Tryz.prog Tryz.f8 (Says w (digV ng RES)) Exit.ret a w'→QQ Exit.ret a w':=fun a w' h=>h
          clear_value QQ
          have HQ:=Lib.hid hQQ
          clear hQQ
          have hstep:=HS.out
          rw[if_pos ⟨hC,hF⟩,if_neg hFC] at hstep
          have hg:decide ((F1:Int)<(C1:Int))=false:=by simp;omega
          have hg2:decide (F1<C1)=false:=by simp;omega
          rw[decide_eq_true hC,decide_eq_true hF]
          have HS2:=Lib.hid hstep
          clear HS hC hF hFC hstep
          have k2c0:=k2.cell 0
          have k2f0:=k2.frozen 0
          have k2c1:=k2.cell 1
          have k2f1:=k2.frozen 1
          have k2c2:=k2.cell 2
          have k2f2:=k2.frozen 2
          have k2z:=k2.lt
          have k3c0:=k3.cell 0
          have k3f0:=k3.frozen 0
          have k3c1:=k3.cell 1
          have k3f1:=k3.frozen 1
          have k3c2:=k3.cell 2
          have k3f2:=k3.frozen 2
          have k3c3:=k3.cell 3
          have k3f3:=k3.frozen 3
          have k3z:=k3.lt
          have k5c0:=k5.cell 0
          have k5f0:=k5.frozen 0
          have k5c1:=k5.cell 1
          have k5f1:=k5.frozen 1
          have k5c2:=k5.cell 2
          have k5f2:=k5.frozen 2
          have k5c3:=k5.cell 3
          have k5f3:=k5.frozen 3
          have k5c4:=k5.cell 4
          have k5f4:=k5.frozen 4
          have k5c5:=k5.cell 5
          have k5f5:=k5.frozen 5
          have k5c6:=k5.cell 6
          have k5f6:=k5.frozen 6
          have k5c7:=k5.cell 7
          have k5f7:=k5.frozen 7
          have k5c8:=k5.cell 8
          have k5f8:=k5.frozen 8
          have k5c9:=k5.cell 9
          have k5f9:=k5.frozen 9
          have k5z:=k5.lt
          have k6c0:=k6.cell 0
          have k6f0:=k6.frozen 0
          have k6c1:=k6.cell 1
          have k6f1:=k6.frozen 1
          have k6c2:=k6.cell 2
          have k6f2:=k6.frozen 2
          have k6c3:=k6.cell 3
          have k6f3:=k6.frozen 3
          have k6z:=k6.lt
          have k7c0:=k7.cell 0
          have k7f0:=k7.frozen 0
          have k7c1:=k7.cell 1
          have k7f1:=k7.frozen 1
          have k7c2:=k7.cell 2
          have k7f2:=k7.frozen 2
          have k7c3:=k7.cell 3
          have k7f3:=k7.frozen 3
          have k7z:=k7.lt
          simp only[geCells] at k2c0 k2c1 k2c2 k3c0 k3c1 k3c2 k3c3 k5c0 k5c1 k5c2 k5c3 k5c4 k5c5 k5c6 k5c7 k5c8 k5c9 k6c0 k6c1 k6c2 k6c3 k7c0 k7c1 k7c2 k7c3
          go_wp2_with fail
          clear k2c0 k2f0 k2c1 k2f1 k2c2 k2f2 k2z k3c0 k3f0 k3c1 k3f1 k3c2 k3f2 k3c3 k3f3 k3z k5c0 k5f0 k5c1 k5f1 k5c2 k5f2 k5c3 k5f3 k5c4 k5f4 k5c5 k5f5 k5c6 k5f6 k5c7 k5f7 k5c8 k5f8 k5c9 k5f9 k5z k6c0 k6f0 k6c1 k6f1 k6c2 k6f2 k6c3 k6f3 k6z k7c0 k7f0 k7c1 k7f1 k7c2 k7f2 k7c3 k7f3 k7z
          refine(hSdc _).mono ?_
          rintro e w8 ⟨rfl,hb8⟩
          replace k2:=k2.below hb8 k2.lt
          replace k3:=k3.below hb8 k3.lt
          replace hb0:=hb0.trans (hb8.mono hb0.size)
          replace k5:=k5.below hb8 k5.lt
          replace k6:=k6.below hb8 k6.lt
          replace k7:=k7.below hb8 k7.lt
          clear hb8
          have k2c0:=k2.cell 0
          have k2f0:=k2.frozen 0
          have k2c1:=k2.cell 1
          have k2f1:=k2.frozen 1
          have k2c2:=k2.cell 2
          have k2f2:=k2.frozen 2
          have k2z:=k2.lt
          have k3c0:=k3.cell 0
          have k3f0:=k3.frozen 0
          have k3c1:=k3.cell 1
          have k3f1:=k3.frozen 1
          have k3c2:=k3.cell 2
          have k3f2:=k3.frozen 2
          have k3c3:=k3.cell 3
          have k3f3:=k3.frozen 3
          have k3z:=k3.lt
          have k5c0:=k5.cell 0
          have k5f0:=k5.frozen 0
          have k5c1:=k5.cell 1
          have k5f1:=k5.frozen 1
          have k5c2:=k5.cell 2
          have k5f2:=k5.frozen 2
          have k5c3:=k5.cell 3
          have k5f3:=k5.frozen 3
          have k5c4:=k5.cell 4
          have k5f4:=k5.frozen 4
          have k5c5:=k5.cell 5
          have k5f5:=k5.frozen 5
          have k5c6:=k5.cell 6
          have k5f6:=k5.frozen 6
          have k5c7:=k5.cell 7
          have k5f7:=k5.frozen 7
          have k5c8:=k5.cell 8
          have k5f8:=k5.frozen 8
          have k5c9:=k5.cell 9
          have k5f9:=k5.frozen 9
          have k5z:=k5.lt
          have k6c0:=k6.cell 0
          have k6f0:=k6.frozen 0
          have k6c1:=k6.cell 1
          have k6f1:=k6.frozen 1
          have k6c2:=k6.cell 2
          have k6f2:=k6.frozen 2
          have k6c3:=k6.cell 3
          have k6f3:=k6.frozen 3
          have k6z:=k6.lt
          have k7c0:=k7.cell 0
          have k7f0:=k7.frozen 0
          have k7c1:=k7.cell 1
          have k7f1:=k7.frozen 1
          have k7c2:=k7.cell 2
          have k7f2:=k7.frozen 2
          have k7c3:=k7.cell 3
          have k7f3:=k7.frozen 3
          have k7z:=k7.lt
          simp only[geCells] at k2c0 k2c1 k2c2 k3c0 k3c1 k3c2 k3c3 k5c0 k5c1 k5c2 k5c3 k5c4 k5c5 k5c6 k5c7 k5c8 k5c9 k6c0 k6c1 k6c2 k6c3 k7c0 k7c1 k7c2 k7c3
          go_upto_region 25 with fail
          clear k2c0 k2f0 k2c1 k2f1 k2c2 k2f2 k2z k3c0 k3f0 k3c1 k3f1 k3c2 k3f2 k3c3 k3f3 k3z k5c0 k5f0 k5c1 k5f1 k5c2 k5f2 k5c3 k5f3 k5c4 k5f4 k5c5 k5f5 k5c6 k5f6 k5c7 k5f7 k5c8 k5f8 k5c9 k5f9 k5z k6c0 k6f0 k6c1 k6f1 k6c2 k6f2 k6c3 k6f3 k6z k7c0 k7f0 k7c1 k7f1 k7c2 k7f2 k7c3 k7f3 k7z
          refine(fun (HH:∀W,Blk W (w.heap.size+1) 26 #[.bool false,.string ⟨#[]⟩,.int .i64 0]∧Blk W (w2.heap.size) 37 #[.bool ng,.int .u64 (m:Int),.int .i64 q,.bool true]∧Blk W (w1.heap.size) 45 #[.int .u64 (x0:Int),.int .u64 (x1:Int),.int .u64 (x2:Int),.int .u64 (x3:Int),.int .u64 (y0:Int),.int .u64 (y1:Int),.int .u64 (y2:Int),.int .u64 (y3:Int),.int .i64 X,.int .i64 (P+1-n)]∧Blk W (w3.heap.size) 43 #[.int .u64 (cp0:Int),.int .u64 (cp1:Int),.int .u64 (cp2:Int),.int .u64 (cp3:Int)]∧Blk W (w3.heap.size+1) 43 #[.int .u64 (cr0:Int),.int .u64 (cr1:Int),.int .u64 (cr2:Int),.int .u64 (cr3:Int)]∧Below w.heap.size w W→Code.wp _ _ _ _ W)=>HH _ ⟨by exact((((((((k2.far (p:=⟨w3.heap.size,0,none⟩) (by show w.heap.size+1≠w3.heap.size;omega) _).far (p:=⟨w3.heap.size,1,none⟩) (by show w.heap.size+1≠w3.heap.size;omega) _).far (p:=⟨w3.heap.size,2,none⟩) (by show w.heap.size+1≠w3.heap.size;omega) _).far (p:=⟨w3.heap.size,3,none⟩) (by show w.heap.size+1≠w3.heap.size;omega) _).far (p:=⟨w3.heap.size+1,0,none⟩) (by show w.heap.size+1≠w3.heap.size+1;omega) _).far (p:=⟨w3.heap.size+1,1,none⟩) (by show w.heap.size+1≠w3.heap.size+1;omega) _).far (p:=⟨w3.heap.size+1,2,none⟩) (by show w.heap.size+1≠w3.heap.size+1;omega) _).far (p:=⟨w3.heap.size+1,3,none⟩) (by show w.heap.size+1≠w3.heap.size+1;omega) _),by exact((((((((k3.far (p:=⟨w3.heap.size,0,none⟩) (by show w2.heap.size≠w3.heap.size;omega) _).far (p:=⟨w3.heap.size,1,none⟩) (by show w2.heap.size≠w3.heap.size;omega) _).far (p:=⟨w3.heap.size,2,none⟩) (by show w2.heap.size≠w3.heap.size;omega) _).far (p:=⟨w3.heap.size,3,none⟩) (by show w2.heap.size≠w3.heap.size;omega) _).far (p:=⟨w3.heap.size+1,0,none⟩) (by show w2.heap.size≠w3.heap.size+1;omega) _).far (p:=⟨w3.heap.size+1,1,none⟩) (by show w2.heap.size≠w3.heap.size+1;omega) _).far (p:=⟨w3.heap.size+1,2,none⟩) (by show w2.heap.size≠w3.heap.size+1;omega) _).far (p:=⟨w3.heap.size+1,3,none⟩) (by show w2.heap.size≠w3.heap.size+1;omega) _),by exact((((((((k5.far (p:=⟨w3.heap.size,0,none⟩) (by show w1.heap.size≠w3.heap.size;omega) _).far (p:=⟨w3.heap.size,1,none⟩) (by show w1.heap.size≠w3.heap.size;omega) _).far (p:=⟨w3.heap.size,2,none⟩) (by show w1.heap.size≠w3.heap.size;omega) _).far (p:=⟨w3.heap.size,3,none⟩) (by show w1.heap.size≠w3.heap.size;omega) _).far (p:=⟨w3.heap.size+1,0,none⟩) (by show w1.heap.size≠w3.heap.size+1;omega) _).far (p:=⟨w3.heap.size+1,1,none⟩) (by show w1.heap.size≠w3.heap.size+1;omega) _).far (p:=⟨w3.heap.size+1,2,none⟩) (by show w1.heap.size≠w3.heap.size+1;omega) _).far (p:=⟨w3.heap.size+1,3,none⟩) (by show w1.heap.size≠w3.heap.size+1;omega) _),by exact((((((((k6.set_ 0 _).set_ 1 _).set_ 2 _).set_ 3 _).far (p:=⟨w3.heap.size+1,0,none⟩) (by show w3.heap.size≠w3.heap.size+1;omega) _).far (p:=⟨w3.heap.size+1,1,none⟩) (by show w3.heap.size≠w3.heap.size+1;omega) _).far (p:=⟨w3.heap.size+1,2,none⟩) (by show w3.heap.size≠w3.heap.size+1;omega) _).far (p:=⟨w3.heap.size+1,3,none⟩) (by show w3.heap.size≠w3.heap.size+1;omega) _),by exact((((((((k7.far (p:=⟨w3.heap.size,0,none⟩) (by show w3.heap.size+1≠w3.heap.size;omega) _).far (p:=⟨w3.heap.size,1,none⟩) (by show w3.heap.size+1≠w3.heap.size;omega) _).far (p:=⟨w3.heap.size,2,none⟩) (by show w3.heap.size+1≠w3.heap.size;omega) _).far (p:=⟨w3.heap.size,3,none⟩) (by show w3.heap.size+1≠w3.heap.size;omega) _).set_ 0 _).set_ 1 _).set_ 2 _).set_ 3 _),by exact((((((((hb0.setCell (p:=⟨w3.heap.size,0,none⟩) (by show w.heap.size≤w3.heap.size;omega) _).setCell (p:=⟨w3.heap.size,1,none⟩) (by show w.heap.size≤w3.heap.size;omega) _).setCell (p:=⟨w3.heap.size,2,none⟩) (by show w.heap.size≤w3.heap.size;omega) _).setCell (p:=⟨w3.heap.size,3,none⟩) (by show w.heap.size≤w3.heap.size;omega) _).setCell (p:=⟨w3.heap.size+1,0,none⟩) (by show w.heap.size≤w3.heap.size+1;omega) _).setCell (p:=⟨w3.heap.size+1,1,none⟩) (by show w.heap.size≤w3.heap.size+1;omega) _).setCell (p:=⟨w3.heap.size+1,2,none⟩) (by show w.heap.size≤w3.heap.size+1;omega) _).setCell (p:=⟨w3.heap.size+1,3,none⟩) (by show w.heap.size≤w3.heap.size+1;omega) _)⟩) ?_
          clear k2 k3 k5 k6 k7 hb0
          rintro u2 ⟨k2,k3,k5,k6,k7,hb0⟩
          have k2c0:=k2.cell 0
          have k2f0:=k2.frozen 0
          have k2c1:=k2.cell 1
          have k2f1:=k2.frozen 1
          have k2c2:=k2.cell 2
          have k2f2:=k2.frozen 2
          have k2z:=k2.lt
          have k3c0:=k3.cell 0
          have k3f0:=k3.frozen 0
          have k3c1:=k3.cell 1
          have k3f1:=k3.frozen 1
          have k3c2:=k3.cell 2
          have k3f2:=k3.frozen 2
          have k3c3:=k3.cell 3
          have k3f3:=k3.frozen 3
          have k3z:=k3.lt
          have k5c0:=k5.cell 0
          have k5f0:=k5.frozen 0
          have k5c1:=k5.cell 1
          have k5f1:=k5.frozen 1
          have k5c2:=k5.cell 2
          have k5f2:=k5.frozen 2
          have k5c3:=k5.cell 3
          have k5f3:=k5.frozen 3
          have k5c4:=k5.cell 4
          have k5f4:=k5.frozen 4
          have k5c5:=k5.cell 5
          have k5f5:=k5.frozen 5
          have k5c6:=k5.cell 6
          have k5f6:=k5.frozen 6
          have k5c7:=k5.cell 7
          have k5f7:=k5.frozen 7
          have k5c8:=k5.cell 8
          have k5f8:=k5.frozen 8
          have k5c9:=k5.cell 9
          have k5f9:=k5.frozen 9
          have k5z:=k5.lt
          have k6c0:=k6.cell 0
          have k6f0:=k6.frozen 0
          have k6c1:=k6.cell 1
          have k6f1:=k6.frozen 1
          have k6c2:=k6.cell 2
          have k6f2:=k6.frozen 2
          have k6c3:=k6.cell 3
          have k6f3:=k6.frozen 3
          have k6z:=k6.lt
          have k7c0:=k7.cell 0
          have k7f0:=k7.frozen 0
          have k7c1:=k7.cell 1
          have k7f1:=k7.frozen 1
          have k7c2:=k7.cell 2
          have k7f2:=k7.frozen 2
          have k7c3:=k7.cell 3
          have k7f3:=k7.frozen 3
          have k7z:=k7.lt
          simp only[geCells] at k2c0 k2c1 k2c2 k3c0 k3c1 k3c2 k3c3 k5c0 k5c1 k5c2 k5c3 k5c4 k5c5 k5c6 k5c7 k5c8 k5c9 k6c0 k6c1 k6c2 k6c3 k7c0 k7c1 k7c2 k7c3
          go_wp2_with fail
          clear k2c0 k2f0 k2c1 k2f1 k2c2 k2f2 k2z k3c0 k3f0 k3c1 k3f1 k3c2 k3f2 k3c3 k3f3 k3z k5c0 k5f0 k5c1 k5f1 k5c2 k5f2 k5c3 k5f3 k5c4 k5f4 k5c5 k5f5 k5c6 k5f6 k5c7 k5f7 k5c8 k5f8 k5c9 k5f9 k5z k6c0 k6f0 k6c1 k6f1 k6c2 k6f2 k6c3 k6f3 k6z k7c0 k7f0 k7c1 k7f1 k7c2 k7f2 k7c3 k7f3 k7z
          refine(hNr _).mono ?_
          rintro e w9 ⟨rfl,hb9⟩
          replace k2:=k2.below hb9 k2.lt
          replace k3:=k3.below hb9 k3.lt
          replace hb0:=hb0.trans (hb9.mono hb0.size)
          replace k5:=k5.below hb9 k5.lt
          replace k6:=k6.below hb9 k6.lt
          replace k7:=k7.below hb9 k7.lt
          clear hb9
          by_cases hR:R1=R2
          · have hstep:=HS2.out
            rw[if_pos hR] at hstep
            have hstep2:some (max C1 (min F1 R1),P+1-(n:Int))=RES:=hstep
            obtain⟨MX,hMX⟩:∃MX,MX=max C1 (min F1 R1):=⟨_,rfl⟩
            have hmm:max (C1:Int) (min (F1:Int) (R1:Int))=(MX:Int):=by rw[hMX];omega
            rw[←hMX] at hstep2 hDc
            clear hMX hstep HS2
            subst hstep2
            rw[decide_eq_true hR]
            clear hR
            have hU:=hU0.below hb0
            clear hAt hSda hSdb hSdc hL hG hNr
            go_upto_region 28 with fail
            rename_i KE aE
            have hE:∀(a:Act) (w':World),QQ Exit.ret a w'→KE a w':=fun a w' h=>aE a w' (wp_ret h)
            have HE:=Lib.hid hE
            clear aE hE
            go_light
            try generalize (Value.agg #[.int .u64 (ap0:Int),.int .u64 (ap1:Int),.int .u64 (ap2:Int),.int .u64 (ap3:Int)])=V0
            try generalize (Value.agg #[.int .u64 (ar0:Int),.int .u64 (ar1:Int),.int .u64 (ar2:Int),.int .u64 (ar3:Int)])=V1
            try generalize (Value.agg #[.int .u64 (bp0:Int),.int .u64 (bp1:Int),.int .u64 (bp2:Int),.int .u64 (bp3:Int)])=V2
            try generalize (Value.agg #[.int .u64 (br0:Int),.int .u64 (br1:Int),.int .u64 (br2:Int),.int .u64 (br3:Int)])=V3
            try generalize (Value.agg #[.int .u64 (cp0:Int),.int .u64 (cp1:Int),.int .u64 (cp2:Int),.int .u64 (cp3:Int)])=V4
            try generalize (Value.agg #[.int .u64 (cr0:Int),.int .u64 (cr1:Int),.int .u64 (cr2:Int),.int .u64 (cr3:Int)])=V5
            try generalize (Value.agg #[.int .u64 (x0:Int),.int .u64 (x1:Int),.int .u64 (x2:Int),.int .u64 (x3:Int),.int .u64 (y0:Int),.int .u64 (y1:Int),.int .u64 (y2:Int),.int .u64 (y3:Int),.int .i64 X,.int .i64 (P+1-n)])=V6
            clear k6 k7
            have k2c0:=k2.cell 0
            have k2f0:=k2.frozen 0
            have k2c1:=k2.cell 1
            have k2f1:=k2.frozen 1
            have k2c2:=k2.cell 2
            have k2f2:=k2.frozen 2
            have k2z:=k2.lt
            have k3c0:=k3.cell 0
            have k3f0:=k3.frozen 0
            have k3c1:=k3.cell 1
            have k3f1:=k3.frozen 1
            have k3c2:=k3.cell 2
            have k3f2:=k3.frozen 2
            have k3c3:=k3.cell 3
            have k3f3:=k3.frozen 3
            have k3z:=k3.lt
            have k5c0:=k5.cell 0
            have k5f0:=k5.frozen 0
            have k5c1:=k5.cell 1
            have k5f1:=k5.frozen 1
            have k5c2:=k5.cell 2
            have k5f2:=k5.frozen 2
            have k5c3:=k5.cell 3
            have k5f3:=k5.frozen 3
            have k5c4:=k5.cell 4
            have k5f4:=k5.frozen 4
            have k5c5:=k5.cell 5
            have k5f5:=k5.frozen 5
            have k5c6:=k5.cell 6
            have k5f6:=k5.frozen 6
            have k5c7:=k5.cell 7
            have k5f7:=k5.frozen 7
            have k5c8:=k5.cell 8
            have k5f8:=k5.frozen 8
            have k5c9:=k5.cell 9
            have k5f9:=k5.frozen 9
            have k5z:=k5.lt
            simp only[geCells] at k2c0 k2c1 k2c2 k3c0 k3c1 k3c2 k3c3 k5c0 k5c1 k5c2 k5c3 k5c4 k5c5 k5c6 k5c7 k5c8 k5c9
            go_wp2_with fail
            clear k2c0 k2f0 k2c1 k2f1 k2c2 k2f2 k2z k3c0 k3f0 k3c1 k3f1 k3c2 k3f2 k3c3 k3f3 k3z k5c0 k5f0 k5c1 k5f1 k5c2 k5f2 k5c3 k5f3 k5c4 k5f4 k5c5 k5f5 k5c6 k5f6 k5c7 k5f7 k5c8 k5f8 k5c9 k5f9 k5z
            refine(hDc _ hU).mono ?_
            rintro e w10 ⟨rfl,hb10⟩
            replace k2:=k2.below hb10 k2.lt
            replace k3:=k3.below hb10 k3.lt
            replace hb0:=hb0.trans (hb10.mono hb0.size)
            replace k5:=k5.below hb10 k5.lt
            replace hU:=hU.below hb10
            clear hb10
            clear k3 k5 hDc hU
            obtain⟨k2c0,k2c1,k2c2,k2z,k2f0,k2f1,k2f2⟩:=k2.b3
            go_wp2
            refine HE.out _ _ (HQ.out _ _ ?_)
            refine bodyPost_ret (v:=.tuple #[.agg #[.bool ng,.string ⟨(mkD (Lib.decDigits MX) (P+1-(n:Int))).1.toArray⟩,.int .i64 (mkD (Lib.decDigits MX) (P+1-(n:Int))).2],.bool true,.int .i64 0]) ?_ rfl ⟨rfl,(bel3 hb0 (w.heap.size+1) (by simp))⟩
            refine results_cell_tmp2 rfl _ _ (w.heap.size+1) _ _ _ _ _ _ ?_ ?_ ?_ (((k2.set_ 0 _).set_ 1 _).set_ 2 _) Tryz.underlying26 rfl (by kernel_rfl)
            · rfl
            · rfl
            · rfl
          · have hstep:=HS2.out
            rw[if_neg hR] at hstep
            subst hstep
            clear HS2
            rw[decide_eq_false hR]
            clear hR
            clear hAt hSda hSdb hSdc hL hG hNr hDc
            go_upto_region 27 with fail
            rename_i KE aE
            have hE:∀(a:Act) (w':World),QQ Exit.ret a w'→KE a w':=fun a w' h=>aE a w' (wp_ret h)
            have HE:=Lib.hid hE
            clear aE hE
            go_light
            try generalize (Value.agg #[.int .u64 (ap0:Int),.int .u64 (ap1:Int),.int .u64 (ap2:Int),.int .u64 (ap3:Int)])=V0
            try generalize (Value.agg #[.int .u64 (ar0:Int),.int .u64 (ar1:Int),.int .u64 (ar2:Int),.int .u64 (ar3:Int)])=V1
            try generalize (Value.agg #[.int .u64 (bp0:Int),.int .u64 (bp1:Int),.int .u64 (bp2:Int),.int .u64 (bp3:Int)])=V2
            try generalize (Value.agg #[.int .u64 (br0:Int),.int .u64 (br1:Int),.int .u64 (br2:Int),.int .u64 (br3:Int)])=V3
            try generalize (Value.agg #[.int .u64 (cp0:Int),.int .u64 (cp1:Int),.int .u64 (cp2:Int),.int .u64 (cp3:Int)])=V4
            try generalize (Value.agg #[.int .u64 (cr0:Int),.int .u64 (cr1:Int),.int .u64 (cr2:Int),.int .u64 (cr3:Int)])=V5
            try generalize (Value.agg #[.int .u64 (x0:Int),.int .u64 (x1:Int),.int .u64 (x2:Int),.int .u64 (x3:Int),.int .u64 (y0:Int),.int .u64 (y1:Int),.int .u64 (y2:Int),.int .u64 (y3:Int),.int .i64 X,.int .i64 (P+1-n)])=V6
            try generalize (Value.agg #[.bool ng,.int .u64 (m:Int),.int .i64 q,.bool true])=V7
            clear k3 k5 k6 k7
            obtain⟨k2c0,k2c1,k2c2,k2z,k2f0,k2f1,k2f2⟩:=k2.b3
            go_wp2
            refine HE.out _ _ (HQ.out _ _ ?_)
            refine bodyPost_ret (v:=.tuple #[.agg #[.bool false,.string ⟨#[]⟩,.int .i64 0],.bool false,.int .i64 0]) ?_ rfl ⟨rfl,(bel3 hb0 (w.heap.size+1) (by simp))⟩
            refine results_cell_tmp2 rfl _ _ (w.heap.size+1) _ _ _ _ _ _ ?_ ?_ ?_ (((k2.set_ 0 _).set_ 1 _).set_ 2 _) Tryz.underlying26 rfl (by kernel_rfl)
            · rfl
            · rfl
            · rfl
      · rename_i KA aA QQ KB aB KC aC KD aD
        have hQQ:∀(a:Act) (w':World),bodyPost Tryz.prog Tryz.f8 (Says w (digV ng RES)) Exit.ret a w'→QQ Exit.ret a w':=fun a w' h=>h
        clear_value QQ
        have HQ:=Lib.hid hQQ
        clear hQQ
        have hstep:=HS.out
        rw[if_neg (fun h=>hF h.2)] at hstep
        subst hstep
        clear HS
        rw[decide_eq_true hC,decide_eq_false hF]
        clear hC hF
        clear hAt hSda hSdb hSdc hL hG hNr hDc
        go_upto_region 22 with fail
        rename_i KE aE
        have hE:∀(a:Act) (w':World),QQ Exit.ret a w'→KE a w':=fun a w' h=>aE a w' (wp_ret h)
        have HE:=Lib.hid hE
        clear aE hE
        go_light
        try generalize (Value.agg #[.int .u64 (ap0:Int),.int .u64 (ap1:Int),.int .u64 (ap2:Int),.int .u64 (ap3:Int)])=V0
        try generalize (Value.agg #[.int .u64 (ar0:Int),.int .u64 (ar1:Int),.int .u64 (ar2:Int),.int .u64 (ar3:Int)])=V1
        try generalize (Value.agg #[.int .u64 (bp0:Int),.int .u64 (bp1:Int),.int .u64 (bp2:Int),.int .u64 (bp3:Int)])=V2
        try generalize (Value.agg #[.int .u64 (br0:Int),.int .u64 (br1:Int),.int .u64 (br2:Int),.int .u64 (br3:Int)])=V3
        try generalize (Value.agg #[.int .u64 (cp0:Int),.int .u64 (cp1:Int),.int .u64 (cp2:Int),.int .u64 (cp3:Int)])=V4
        try generalize (Value.agg #[.int .u64 (cr0:Int),.int .u64 (cr1:Int),.int .u64 (cr2:Int),.int .u64 (cr3:Int)])=V5
        try generalize (Value.agg #[.int .u64 (x0:Int),.int .u64 (x1:Int),.int .u64 (x2:Int),.int .u64 (x3:Int),.int .u64 (y0:Int),.int .u64 (y1:Int),.int .u64 (y2:Int),.int .u64 (y3:Int),.int .i64 X,.int .i64 (P+1-n)])=V6
        try generalize (Value.agg #[.bool ng,.int .u64 (m:Int),.int .i64 q,.bool true])=V7
        clear k3 k5 k6 k7
        obtain⟨k2c0,k2c1,k2c2,k2z,k2f0,k2f1,k2f2⟩:=k2.b3
        go_wp2
        refine HE.out _ _ (HQ.out _ _ ?_)
        refine bodyPost_ret (v:=.tuple #[.agg #[.bool false,.string ⟨#[]⟩,.int .i64 0],.bool false,.int .i64 0]) ?_ rfl ⟨rfl,(bel3 hb0 (w.heap.size+1) (by simp))⟩
        refine results_cell_tmp2 rfl _ _ (w.heap.size+1) _ _ _ _ _ _ ?_ ?_ ?_ (((k2.set_ 0 _).set_ 1 _).set_ 2 _) Tryz.underlying26 rfl (by kernel_rfl)
        · rfl
        · rfl
        · rfl
    · rename_i KA aA QQ KB aB KC aC KD aD
      have hQQ:∀(a:Act) (w':World),bodyPost Tryz.prog Tryz.f8 (Says w (digV ng RES)) Exit.ret a w'→QQ Exit.ret a w':=fun a w' h=>h
      clear_value QQ
      have HQ:=Lib.hid hQQ
      clear hQQ
      have hstep:=HS.out
      rw[if_neg (fun h=>hC h.1)] at hstep
      subst hstep
      clear HS
      rw[decide_eq_false hC]
      clear hC
      clear hAt hSda hSdb hSdc hL hG hNr hDc
      go_upto_region 22 with fail
      rename_i KE aE
      have hE:∀(a:Act) (w':World),QQ Exit.ret a w'→KE a w':=fun a w' h=>aE a w' (wp_ret h)
      have HE:=Lib.hid hE
      clear aE hE
      go_light
      try generalize (Value.agg #[.int .u64 (ap0:Int),.int .u64 (ap1:Int),.int .u64 (ap2:Int),.int .u64 (ap3:Int)])=V0
      try generalize (Value.agg #[.int .u64 (ar0:Int),.int .u64 (ar1:Int),.int .u64 (ar2:Int),.int .u64 (ar3:Int)])=V1
      try generalize (Value.agg #[.int .u64 (bp0:Int),.int .u64 (bp1:Int),.int .u64 (bp2:Int),.int .u64 (bp3:Int)])=V2
      try generalize (Value.agg #[.int .u64 (br0:Int),.int .u64 (br1:Int),.int .u64 (br2:Int),.int .u64 (br3:Int)])=V3
      try generalize (Value.agg #[.int .u64 (cp0:Int),.int .u64 (cp1:Int),.int .u64 (cp2:Int),.int .u64 (cp3:Int)])=V4
      try generalize (Value.agg #[.int .u64 (cr0:Int),.int .u64 (cr1:Int),.int .u64 (cr2:Int),.int .u64 (cr3:Int)])=V5
      try generalize (Value.agg #[.int .u64 (x0:Int),.int .u64 (x1:Int),.int .u64 (x2:Int),.int .u64 (x3:Int),.int .u64 (y0:Int),.int .u64 (y1:Int),.int .u64 (y2:Int),.int .u64 (y3:Int),.int .i64 X,.int .i64 (P+1-n)])=V6
      try generalize (Value.agg #[.bool ng,.int .u64 (m:Int),.int .i64 q,.bool true])=V7
      clear k3 k5 k6 k7
      obtain⟨k2c0,k2c1,k2c2,k2z,k2f0,k2f1,k2f2⟩:=k2.b3
      go_wp2
      refine HE.out _ _ (HQ.out _ _ ?_)
      refine bodyPost_ret (v:=.tuple #[.agg #[.bool false,.string ⟨#[]⟩,.int .i64 0],.bool false,.int .i64 0]) ?_ rfl ⟨rfl,(bel3 hb0 (w.heap.size+1) (by simp))⟩
      refine results_cell_tmp2 rfl _ _ (w.heap.size+1) _ _ _ _ _ _ ?_ ?_ ?_ (((k2.set_ 0 _).set_ 1 _).set_ 2 _) Tryz.underlying26 rfl (by kernel_rfl)
      · rfl
      · rfl
      · rfl
  · obtain rfl:n=18:=by omega
    have hr:RES=none:=hdg.symm
    subst hr
    clear hdg
    obtain⟨k2c0,k2c1,k2c2,k2z,k2f0,k2f1,k2f2⟩:=k2.b3
    obtain⟨k3c0,k3c1,k3c2,k3c3,k3z,k3f0,k3f1,k3f2,k3f3⟩:=k3.b4
    go_wp2
    refine bodyPost_ret (v:=.tuple #[.agg #[.bool false,.string ⟨#[]⟩,.int .i64 0],.bool false,.int .i64 0]) ?_ rfl ⟨rfl,(bel3 hb0 (w.heap.size+1) (by simp))⟩
    refine results_cell_tmp2 rfl _ _ (w.heap.size+1) _ _ _ _ _ _ ?_ ?_ ?_ (((k2.set_ 0 _).set_ 1 _).set_ 2 _) Tryz.underlying26 rfl (by kernel_rfl)
    · rfl
    · rfl
    · rfl

end Go.Proofs.YtenekbfnlbipiaaGreatDoor
