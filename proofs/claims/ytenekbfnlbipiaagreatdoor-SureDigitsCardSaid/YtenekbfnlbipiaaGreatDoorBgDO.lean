/- Walks: layer 6's beyond. -/
import Derived.Test.YtenekbfnlbipiaaGreatDoorBgDH
namespace Go.Proofs.YtenekbfnlbipiaaGreatDoor
open Go.RowKit
set_option linter.unusedVariables false
set_option linter.unusedSimpArgs false
set_option maxHeartbeats 4000000
set_option maxRecDepth 100000
namespace Bg
theorem beyond_core (E F b S:Nat) (K1 KP KR:Nat) (X1 U XP XR:Int) (hS:b<S)
 (hWo:∀W,Calls Tryz.prog 70 #[.agg #[.int .i64 (E:Int),.int .i64 (F:Int)],.int .u64 (b:Int)] W fun e w'=>∃B k,e=.returned (.agg #[.bool false,.slice B (limbs K1).length k,.int .i64 X1])∧Own w' 153 W.heap.size B k (limbs K1)∧Below W.heap.size W w')
 (hHa:∀W,Calls Tryz.prog 69 #[.agg #[.int .i64 (E:Int),.int .i64 (F:Int)]] W (Says W (.int .u64 (S:Int))))
 (hUn:∀W,Calls Tryz.prog 122 #[.agg #[.int .i64 (E:Int),.int .i64 (F:Int)],.int .u64 (b:Int)] W (Says W (.int .i64 U)))
 (hPw:∀W,Calls Tryz.prog 121 #[.bool false,.int .u64 1,.int .i64 U] W fun e w'=>∃B k,e=.returned (.agg #[.bool false,.slice B (limbs KP).length k,.int .i64 XP])∧Own w' 153 W.heap.size B k (limbs KP)∧Below W.heap.size W w')
 (hAd:∀A B c d W,Rd W A (limbs K1)→Rd W B (limbs KP)→Calls Tryz.prog 120 #[.agg #[.bool false,.slice A (limbs K1).length c,.int .i64 X1],.agg #[.bool false,.slice B (limbs KP).length d,.int .i64 XP]] W fun e w'=>∃B k,e=.returned (.tuple #[.agg #[.bool false,.slice B (limbs KR).length k,.int .i64 XR],.int .i64 0])∧Own w' 153 W.heap.size B k (limbs KR)∧Below W.heap.size W w')
 (w:World):
 Calls Tryz.prog 71 #[.agg #[.int .i64 (E:Int),.int .i64 (F:Int)],.int .u64 (b:Int)] w fun e w'=>∃B k,e=.returned (.agg #[.bool false,.slice B (limbs KR).length k,.int .i64 XR])∧Own w' 153 w.heap.size B k (limbs KR)∧Below w.heap.size w w':=by
 have hge:decide (S≤b)=false:=by rw[decide_eq_false_iff_not];omega
 clear hS
 obtain⟨v0,hv0,ha0,k1⟩:=Blk.al w 23 #[.int .i64 (E:Int),.int .i64 (F:Int)]
 have hs0:v0.heap.size=w.heap.size+1:=by rw[hv0];simp
 have hb0:=ha0
 obtain⟨v1,hv1,ha1,k2⟩:=Blk.al v0 117 #[.bool false,.slice none 0 0,.int .i64 0]
 have hs1:v1.heap.size=v0.heap.size+1:=by rw[hv1];simp
 replace k1:=k1.below ha1 k1.lt
 replace hb0:=hb0.trans (ha1.mono hb0.size)
 rw[hs0] at k2
 go_enter Tryz.func71,Tryz.ntmps71
 go_upto_region 1 with fail
 rw[←hv0, ←hv1]
 clear hv0 hs0 ha0 hv1 hs1 ha1
 obtain⟨v,hvv⟩:∃zz:World,zz=v1:=⟨_,rfl⟩
 rw[←hvv] at k1 k2 hb0 ⊢
 clear hvv
 obtain⟨s0,s1,s0z, -⟩:=k1.b2
 go_cut [5,6] (fun v5 v6 wx=>∃(gp:Nat) (B:Option Addr) (k:Nat),v5=.pointer (some ⟨gp,0,none⟩)∧v6=.int .i64 0∧v.heap.size≤gp∧Blk wx gp 117 #[.bool false,.slice B (limbs KR).length k,.int .i64 XR]∧Own wx 153 v.heap.size B k (limbs KR)∧Below v.heap.size v wx)
 case first=>
  have nz:v.heap.size<(v.drew.alloc (.cells #[.bool false,.slice none 0 0,.int .i64 0] 117)).heap.size:=by simp
  have kz:Blk (v.drew.alloc (.cells #[.bool false,.slice none 0 0,.int .i64 0] 117)) v.heap.size 117 #[.bool false,.slice none 0 0,.int .i64 0]:=Blk.new v.drew _ _
  have bz:Below v.heap.size v (v.drew.alloc (.cells #[.bool false,.slice none 0 0,.int .i64 0] 117)):=(Below.drew (Below.refl _ _)).alloc nrf _
  go_region_held3 (fun w'=>w'.cell? ⟨w.heap.size,0,none⟩=some (.int .i64 (E:Int))∧w'.cell? ⟨w.heap.size,1,none⟩=some (.int .i64 (F:Int)))
   (first|with_reducible exact⟨s0,s1⟩|with_reducible exact⟨cell_keep bz s0,cell_keep bz s1⟩|with_reducible exact⟨e10,e11⟩|with_reducible exact⟨(World.cell?_alloc_lt _ _ _ y1).trans e10,(World.cell?_alloc_lt _ _ _ y1).trans e11⟩|with_reducible exact⟨e20,e21⟩|with_reducible exact⟨(World.cell?_alloc_lt _ _ _ y2).trans e20,(World.cell?_alloc_lt _ _ _ y2).trans e21⟩|with_reducible exact⟨e30,e31⟩|with_reducible exact⟨(World.cell?_alloc_lt _ _ _ y3).trans e30,(World.cell?_alloc_lt _ _ _ y3).trans e31⟩|with_reducible exact⟨e40,e41⟩|with_reducible exact⟨(World.cell?_alloc_lt _ _ _ y4).trans e40,(World.cell?_alloc_lt _ _ _ y4).trans e41⟩|with_reducible exact⟨e50,e51⟩|with_reducible exact⟨(World.cell?_alloc_lt _ _ _ y5).trans e50,(World.cell?_alloc_lt _ _ _ y5).trans e51⟩|with_reducible exact⟨set_keep (set_keep (set_keep e50 y1) y1) y1,set_keep (set_keep (set_keep e51 y1) y1) y1⟩|with_reducible exact⟨set_keep (set_keep (set_keep e50 y2) y2) y2,set_keep (set_keep (set_keep e51 y2) y2) y2⟩|with_reducible exact⟨set_keep (set_keep (set_keep e50 y3) y3) y3,set_keep (set_keep (set_keep e51 y3) y3) y3⟩|with_reducible exact⟨set_keep (set_keep (set_keep e50 y4) y4) y4,set_keep (set_keep (set_keep e51 y4) y4) y4⟩|with_reducible exact⟨set_keep (set_keep (set_keep e50 s0z) s0z) s0z,set_keep (set_keep (set_keep e51 s0z) s0z) s0z⟩|go_keep)
   (first
   |(go_at_call 70
     (with_reducible refine(hWo _).mono ?_)
     rintro r w1 ⟨A1,c1,rfl,o1,hb1⟩
     have hw1:Below v.heap.size v w1:=by first|with_reducible exact bz.trans (hb1.mono (Nat.le_of_lt nz))|exact(Below.refl _ _).drew.trans hb1|exact bz.trans (hb1.mono (Nat.le_of_lt nz))
     have e10:=cell_keep hw1 s0
     have e11:=cell_keep hw1 s1
     have y1:=cell_lt e10
     have g1:v.heap.size≤w1.heap.size:=hw1.size
     have hv1:Below v.heap.size v w1:=hw1
     have own1:Own w1 153 v.heap.size A1 c1 (limbs K1):=by first|with_reducible exact o1.mono (Nat.le_of_lt nz)|exact o1|exact o1.mono (Nat.le_of_lt nz)|exact o1.mono (by simp)
     try (have kp1:Blk w1 v.heap.size 117 #[.bool false,.slice none 0 0,.int .i64 0]:=kz.below hb1 nz;have gk:=Nat.le_refl v.heap.size))
   |(go_at_call 69
     (with_reducible refine(hHa _).mono ?_)
     rintro r w2 ⟨rfl,hb2⟩
     have hw2:Below w1.heap.size w1 w2:=by first|with_reducible exact hb2|exact((Below.refl _ _).alloc nrf _).trans (hb2.mono (by simp))
     have e20:=cell_keep hw2 e10
     have e21:=cell_keep hw2 e11
     have y2:=cell_lt e20
     have g2:v.heap.size≤w2.heap.size:=Nat.le_trans g1 hw2.size
     have hv2:Below v.heap.size v w2:=hv1.trans (hw2.mono g1)
     have own2:=own1.below hw2 nrf
     first
      |(have kp2:Blk w2 _ 117 #[.bool false,.slice none 0 0,.int .i64 0]:=kp1.below hw2 kp1.lt)
      |(have kp2:Blk w2 w1.heap.size 117 #[.bool false,.slice none 0 0,.int .i64 0]:=(Blk.new w1 _ _).below hb2 (by simp);have gk:=g1)
      |skip)
   |(go_at_call 122
     (with_reducible refine(hUn _).mono ?_)
     rintro r w3 ⟨rfl,hb3⟩
     have hw3:Below w2.heap.size w2 w3:=by first|with_reducible exact hb3|exact((Below.refl _ _).alloc nrf _).trans (hb3.mono (by simp))
     have e30:=cell_keep hw3 e20
     have e31:=cell_keep hw3 e21
     have y3:=cell_lt e30
     have g3:v.heap.size≤w3.heap.size:=Nat.le_trans g2 hw3.size
     have hv3:Below v.heap.size v w3:=hv2.trans (hw3.mono g2)
     have own3:=own2.below hw3 nrf
     first
      |(have kp3:Blk w3 _ 117 #[.bool false,.slice none 0 0,.int .i64 0]:=kp2.below hw3 kp2.lt)
      |(have kp3:Blk w3 w2.heap.size 117 #[.bool false,.slice none 0 0,.int .i64 0]:=(Blk.new w2 _ _).below hb3 (by simp);have gk:=g2)
      |skip)
   |(go_at_call 121
     first|(with_reducible refine(hPw _).mono ?_)|(rw[hge];with_reducible refine(hPw _).mono ?_)
     rintro r w4 ⟨A2,c2,rfl,o2,hb4⟩
     have hw4:Below w3.heap.size w3 w4:=by first|with_reducible exact hb4|exact((Below.refl _ _).alloc nrf _).trans (hb4.mono (by simp))
     have e40:=cell_keep hw4 e30
     have e41:=cell_keep hw4 e31
     have y4:=cell_lt e40
     have g4:v.heap.size≤w4.heap.size:=Nat.le_trans g3 hw4.size
     have hv4:Below v.heap.size v w4:=hv3.trans (hw4.mono g3)
     have own4:=own3.below hw4 nrf
     have ownp:Own w4 153 w3.heap.size A2 c2 (limbs KP):=by first|with_reducible exact o2|exact o2.mono (by simp)
     first
      |(have kp4:Blk w4 _ 117 #[.bool false,.slice none 0 0,.int .i64 0]:=kp3.below hw4 kp3.lt)
      |(have kp4:Blk w4 w3.heap.size 117 #[.bool false,.slice none 0 0,.int .i64 0]:=(Blk.new w3 _ _).below hb4 (by simp);have gk:=g3)
      |skip)
   |(go_at_call 120
     (with_reducible refine(hAd A1 A2 c1 c2 _ own4.rd ownp.rd).mono ?_)
     rintro r w5 ⟨B,k,rfl,o3,hb5⟩
     have hw5:Below w4.heap.size w4 w5:=by first|with_reducible exact hb5|exact((Below.refl _ _).alloc nrf _).trans (hb5.mono (by simp))
     have e50:=cell_keep hw5 e40
     have e51:=cell_keep hw5 e41
     have y5:=cell_lt e50
     have g5:v.heap.size≤w5.heap.size:=Nat.le_trans g4 hw5.size
     have hv5:Below v.heap.size v w5:=hv4.trans (hw5.mono g4)
     have ownr:Own w5 153 w4.heap.size B k (limbs KR):=by first|with_reducible exact o3|exact o3.mono (by simp)
     first
      |(have kp5:Blk w5 _ 117 #[.bool false,.slice none 0 0,.int .i64 0]:=kp4.below hw5 kp4.lt
        have zkp:=kp4.lt
        have ownk:=ownr)
      |(have kp5:Blk w5 w4.heap.size 117 #[.bool false,.slice none 0 0,.int .i64 0]:=(Blk.new w4 _ _).below hb5 (by simp)
        have zkp:w4.heap.size<w4.heap.size+1:=Nat.lt_succ_self _
        have ownk:Own w5 153 (w4.heap.size+1) B k (limbs KR):=o3.mono (by simp)
        have gk:=g4)
      |skip
     try (have p50:w5.cell? ⟨_,0,none⟩=some (.bool false):=kp5.cell 0
          have p51:w5.cell? ⟨_,1,none⟩=some (.slice none 0 0):=kp5.cell 1
          have p52:w5.cell? ⟨_,2,none⟩=some (.int .i64 0):=kp5.cell 2
          have p50f:=kp5.frozen 0
          have p51f:=kp5.frozen 1
          have p52f:=kp5.frozen 2
          have p5z:=kp5.lt))
   |(go_at_call 120
     (with_reducible refine(hAd A1 A2 c1 c2 _ (own4.alloc _).rd (ownp.alloc _).rd).mono ?_)
     rintro r w5 ⟨B,k,rfl,o3,hb5⟩
     have hw5:Below w4.heap.size w4 w5:=by first|with_reducible exact hb5|exact((Below.refl _ _).alloc nrf _).trans (hb5.mono (by simp))
     have e50:=cell_keep hw5 e40
     have e51:=cell_keep hw5 e41
     have y5:=cell_lt e50
     have g5:v.heap.size≤w5.heap.size:=Nat.le_trans g4 hw5.size
     have hv5:Below v.heap.size v w5:=hv4.trans (hw5.mono g4)
     have ownr:Own w5 153 w4.heap.size B k (limbs KR):=by first|with_reducible exact o3|exact o3.mono (by simp)
     first
      |(have kp5:Blk w5 _ 117 #[.bool false,.slice none 0 0,.int .i64 0]:=kp4.below hw5 kp4.lt
        have zkp:=kp4.lt
        have ownk:=ownr)
      |(have kp5:Blk w5 w4.heap.size 117 #[.bool false,.slice none 0 0,.int .i64 0]:=(Blk.new w4 _ _).below hb5 (by simp)
        have zkp:w4.heap.size<w4.heap.size+1:=Nat.lt_succ_self _
        have ownk:Own w5 153 (w4.heap.size+1) B k (limbs KR):=o3.mono (by simp)
        have gk:=g4)
      |skip
     try (have p50:w5.cell? ⟨_,0,none⟩=some (.bool false):=kp5.cell 0
          have p51:w5.cell? ⟨_,1,none⟩=some (.slice none 0 0):=kp5.cell 1
          have p52:w5.cell? ⟨_,2,none⟩=some (.int .i64 0):=kp5.cell 2
          have p50f:=kp5.frozen 0
          have p51f:=kp5.frozen 1
          have p52f:=kp5.frozen 2
          have p5z:=kp5.lt))
   |fail)
  all_goals (go_wp2_with fail;go_meet)
  all_goals (first
   |with_reducible exact⟨_,_,_,rfl,rfl,hv5.size,Blk.new _ _ _,(ownr.alloc _).mono g4,hv5.alloc hv5.size _⟩
   |exact⟨_,_,_,rfl,rfl,gk,((kp5.set_ 0 _).set_ 1 _).set_ 2 _,(((ownk.setCell zkp _).setCell zkp _).setCell zkp _).mono (by omega),((hv5.setCell gk _).setCell gk _).setCell gk _⟩)
 case rest=>
  obtain⟨gp,B,k,rfl,rfl,hgp,k6,own2,hbc⟩:=hcut
  have hgp2:w.heap.size+1≠gp:=by have:=k2.lt;omega
  have z4:=k2.lt
  replace hb0:=hb0.trans (hbc.mono hb0.size)
  replace k2:=k2.below hbc k2.lt
  clear hbc s0 s1 s0z k1
  obtain⟨k2c0,k2c1,k2c2,k2z,k2f0,k2f1,k2f2⟩:=k2.b3
  obtain⟨k6c0,k6c1,k6c2,k6z,k6f0,k6f1,k6f2⟩:=k6.b3
  go_wp2
  refine bodyPost_ret (v:=.agg #[.bool false,.slice B (limbs KR).length k,.int .i64 XR]) ?_ rfl ⟨B,k,rfl,(((own2.setCell z4 _).setCell z4 _).setCell z4 _).mono (by omega),(bel3 hb0 (w.heap.size+1) (by simp))⟩
  refine results_cell_row rfl _ _ (w.heap.size+1) _ _ _ _ ?_ (((k2.set_ 0 _).set_ 1 _).set_ 2 _) Tryz.underlying117 rfl (by kernel_rfl)
  rfl
end Bg
namespace Bg
theorem unit_core (E F b X Y M:Nat) (ng:Bool) (R:Int) (hM:M≤1024) (hF:F≤52) (hR:IntKind.i64.wrap (IntKind.i64.wrap (max (X:Int) 1-(M:Int))-(F:Int))=R)
 (hSp:∀W,Calls Tryz.prog 162 #[.agg #[.int .i64 (E:Int),.int .i64 (F:Int)],.int .u64 (b:Int)] W (Says W (.tuple #[.agg #[.bool ng,.int .i64 (X:Int),.int .u64 (Y:Int)],.int .i64 0])))
 (hBi:∀W,Calls Tryz.prog 176 #[.agg #[.int .i64 (E:Int),.int .i64 (F:Int)]] W (Says W (.int .i64 (M:Int)))) (w:World):
 Calls Tryz.prog 122 #[.agg #[.int .i64 (E:Int),.int .i64 (F:Int)],.int .u64 (b:Int)] w (Says w (.int .i64 R)):=by
 have HR:=Lib.hid hR
 clear hR
 obtain⟨v0,hv0,ha0,k1⟩:=Blk.al w 23 #[.int .i64 (E:Int),.int .i64 (F:Int)]
 have hs0:v0.heap.size=w.heap.size+1:=by rw[hv0];simp
 have hb0:=ha0
 go_enter Tryz.func122,Tryz.ntmps122
 go_upto_region 1 with fail
 rw[←hv0]
 clear hv0 hs0 ha0
 obtain⟨k1c0,k1c1,k1z,k1f0,k1f1⟩:=k1.b2
 go_wp2_with fail
 clear k1c0 k1f0 k1c1 k1f1 k1z
 refine(hSp _).mono ?_
 rintro e w1 ⟨rfl,hb1⟩
 replace k1:=k1.below hb1 k1.lt
 replace hb0:=hb0.trans (hb1.mono hb0.size)
 clear hb1
 obtain⟨k1c0,k1c1,k1z,k1f0,k1f1⟩:=k1.b2
 go_upto_region 2 with fail
 clear k1c0 k1f0 k1c1 k1f1 k1z
 obtain⟨v,hxx1,hx1,k5⟩:=Blk.al w1 77 #[.bool ng,.int .i64 (X:Int),.int .u64 (Y:Int)]
 rw[←hxx1]
 clear hxx1
 replace k1:=k1.below hx1 k1.lt
 replace hb0:=hb0.trans (hx1.mono hb0.size)
 have c0:=k1.cell 0
 have c1:=k1.cell 1
 have s1:=k5.cell 1
 simp only[geCells] at c0 c1 s1
 go_region_held3 (fun w'=>w'.cell? ⟨w.heap.size,0,none⟩=some (.int .i64 (E:Int))∧w'.cell? ⟨w.heap.size,1,none⟩=some (.int .i64 (F:Int))∧w'.cell? ⟨w1.heap.size,1,none⟩=some (.int .i64 (X:Int)))
  (first|exact⟨c0,c1,s1⟩|exact⟨a0,a1,a2⟩|go_keep)
  (first
   |(go_at_call 176;(with_reducible refine(hBi _).mono ?_);rintro e wa ⟨rfl,ba'⟩;have ba:Below v.heap.size v wa:=(Below.refl v.heap.size v).drew.trans ba';have a0:=cell_keep ba c0;have a1:=cell_keep ba c1;have a2:=cell_keep ba s1)
   |fail)
 all_goals (
  go_wp2
  go_ret
  exact⟨by show Ending.returned (Value.int .i64 (IntKind.i64.wrap (IntKind.i64.wrap (max (X:Int) 1-(M:Int))-(F:Int))))=_;rw[HR.out],hb0.trans (ba.mono hb0.size)⟩)
theorem ref06_unit (E F b X Y:Nat) (hE2:2≤E) (hE:E≤11) (hF1:1≤F) (hF:F≤52) (hb64:b<18446744073709551616) (hfit:Fo.fitS (E:Int) (F:Int) b=0) (ng:Bool) (hs:Fo.splitF E F b=(ng,X,Y)) (w:World):
 Calls Tryz.prog 122 #[.agg #[.int .i64 (E:Int),.int .i64 (F:Int)],.int .u64 (b:Int)] w (Says w (.int .i64 (qF E F X))):=by
 have hSp:=fun W=>Fo.ref_Split (E:Int) (F:Int) (b:Int) b rfl hb64 W
 have e:Fo.splitS (E:Int) (F:Int) b=((ng,X,Y),0):=by
  unfold Fo.splitS;rw[if_pos hfit,Int.toNat_natCast,Int.toNat_natCast,hs]
 rw[e] at hSp
 have hX:X<2^E:=by
  unfold Fo.splitF at hs
  simp only[Prod.mk.injEq] at hs
  rw[←hs.2.1];exact Nat.mod_lt _ (Nat.two_pow_pos E)
 have hEE:2^E≤2048:=Nat.le_trans (Nat.pow_le_pow_right (by decide) hE) (by decide)
 obtain⟨H,hH⟩:∃H,H=2^(E-1):=⟨_,rfl⟩
 have hHle:H≤1024:=by rw[hH];exact Nat.le_trans (Nat.pow_le_pow_right (by decide) (by omega:E-1≤10)) (by decide)
 have hH0:0<H:=by rw[hH];exact Nat.two_pow_pos _
 refine unit_core E F b X Y (H-1) ng _ (by omega) hF ?_ hSp (fun W=>Fo.ref_Bias E F (H-1) hE2 hE (by omega) W) w
 unfold qF
 rw[←hH]
 simp only[IntKind.wrap_i64]
 split <;> omega
end Bg
namespace Bg
theorem mean_core (A1 A2:Option Addr) (K1 K2 c1 c2:Nat) (X1 X2:Int) (K3 KP KR:Nat) (X3 XP XR:Int)
 (hAd:∀W,Rd W A1 (limbs K1)→Rd W A2 (limbs K2)→Calls Tryz.prog 120 #[.agg #[.bool false,.slice A1 (limbs K1).length c1,.int .i64 X1],.agg #[.bool false,.slice A2 (limbs K2).length c2,.int .i64 X2]] W fun e w'=>∃B k,e=.returned (.tuple #[.agg #[.bool false,.slice B (limbs K3).length k,.int .i64 X3],.int .i64 0])∧Own w' 153 W.heap.size B k (limbs K3)∧Below W.heap.size W w')
 (hPw:∀W,Calls Tryz.prog 121 #[.bool false,.int .u64 1,.int .i64 (-1)] W fun e w'=>∃B k,e=.returned (.agg #[.bool false,.slice B (limbs KP).length k,.int .i64 XP])∧Own w' 153 W.heap.size B k (limbs KP)∧Below W.heap.size W w')
 (hMu:∀A B c d W,Rd W A (limbs K3)→Rd W B (limbs KP)→Calls Tryz.prog 123 #[.agg #[.bool false,.slice A (limbs K3).length c,.int .i64 X3],.agg #[.bool false,.slice B (limbs KP).length d,.int .i64 XP]] W fun e w'=>∃B k,e=.returned (.tuple #[.agg #[.bool false,.slice B (limbs KR).length k,.int .i64 XR],.int .i64 0])∧Own w' 153 W.heap.size B k (limbs KR)∧Below W.heap.size W w')
 (w:World) (h1:Rd w A1 (limbs K1)) (h2:Rd w A2 (limbs K2)):
 Calls Tryz.prog 72 #[.agg #[.bool false,.slice A1 (limbs K1).length c1,.int .i64 X1],.agg #[.bool false,.slice A2 (limbs K2).length c2,.int .i64 X2]] w fun e w'=>∃B k,e=.returned (.agg #[.bool false,.slice B (limbs KR).length k,.int .i64 XR])∧Own w' 153 w.heap.size B k (limbs KR)∧Below w.heap.size w w':=by
 obtain⟨v0,hv0,ha0,k1⟩:=Blk.al w 117 #[.bool false,.slice A1 (limbs K1).length c1,.int .i64 X1]
 have hs0:v0.heap.size=w.heap.size+1:=by rw[hv0];simp
 have hb0:=ha0
 obtain⟨v1,hv1,ha1,k2⟩:=Blk.al v0 117 #[.bool false,.slice A2 (limbs K2).length c2,.int .i64 X2]
 have hs1:v1.heap.size=v0.heap.size+1:=by rw[hv1];simp
 replace k1:=k1.below ha1 k1.lt
 replace hb0:=hb0.trans (ha1.mono hb0.size)
 obtain⟨v2,hv2,ha2,k3⟩:=Blk.al v1 117 #[.bool false,.slice none 0 0,.int .i64 0]
 have hs2:v2.heap.size=v1.heap.size+1:=by rw[hv2];simp
 replace k1:=k1.below ha2 k1.lt
 replace k2:=k2.below ha2 k2.lt
 replace hb0:=hb0.trans (ha2.mono hb0.size)
 rw[hs0] at k2
 rw[hs1,hs0] at k3
 simp only[Nat.add_assoc,Nat.reduceAdd] at k3
 go_enter Tryz.func72,Tryz.ntmps72
 go_upto_region 1 with fail
 rw[←hv0, ←hv1, ←hv2]
 clear hv0 hs0 ha0 hv1 hs1 ha1 hv2 hs2 ha2
 replace h1:=h1.below hb0
 replace h2:=h2.below hb0
 obtain⟨k1c0,k1c1,k1c2,k1z,k1f0,k1f1,k1f2⟩:=k1.b3
 obtain⟨k2c0,k2c1,k2c2,k2z,k2f0,k2f1,k2f2⟩:=k2.b3
 obtain⟨k3c0,k3c1,k3c2,k3z,k3f0,k3f1,k3f2⟩:=k3.b3
 go_wp2_with fail
 clear k1c0 k1f0 k1c1 k1f1 k1c2 k1f2 k2c0 k2f0 k2c1 k2f1 k2c2 k2f2 k3c0 k3f0 k3c1 k3f1 k3c2 k3f2 k1z k2z k3z
 refine(hAd _ h1 h2).mono ?_
 rintro e w1 ⟨A3,c3,rfl,own1,hb1⟩
 replace k1:=k1.below hb1 k1.lt
 replace k2:=k2.below hb1 k2.lt
 replace k3:=k3.below hb1 k3.lt
 replace hb0:=hb0.trans (hb1.mono hb0.size)
 replace h1:=h1.below hb1
 replace h2:=h2.below hb1
 clear hb1
 obtain⟨k1c0,k1c1,k1c2,k1z,k1f0,k1f1,k1f2⟩:=k1.b3
 obtain⟨k2c0,k2c1,k2c2,k2z,k2f0,k2f1,k2f2⟩:=k2.b3
 obtain⟨k3c0,k3c1,k3c2,k3z,k3f0,k3f1,k3f2⟩:=k3.b3
 go_upto_region 2 with fail
 clear k1c0 k1f0 k1c1 k1f1 k1c2 k1f2 k2c0 k2f0 k2c1 k2f1 k2c2 k2f2 k3c0 k3f0 k3c1 k3f1 k3c2 k3f2 k1z k2z k3z
 obtain⟨v,hxx1,hx1,k5⟩:=Blk.al w1 117 #[.bool false,.slice A3 (limbs K3).length c3,.int .i64 X3]
 have hg5:=hb0.size
 obtain⟨g,hg⟩:∃g,g=w1.heap.size:=⟨_,rfl⟩
 rw[←hxx1]
 clear hxx1
 replace k1:=k1.below hx1 k1.lt
 replace k2:=k2.below hx1 k2.lt
 replace k3:=k3.below hx1 k3.lt
 replace hb0:=hb0.trans (hx1.mono hb0.size)
 replace own1:=own1.below hx1 nrf
 clear hx1 h1 h2 hg
 obtain⟨s0,s1,s2,s0z, -⟩:=k5.b3
 go_cut [7,8] (fun v7 v8 wx=>∃(gp:Nat) (B:Option Addr) (k:Nat),v7=.pointer (some ⟨gp,0,none⟩)∧v8=.int .i64 0∧v.heap.size≤gp∧Blk wx gp 117 #[.bool false,.slice B (limbs KR).length k,.int .i64 XR]∧Own wx 153 v.heap.size B k (limbs KR)∧Below v.heap.size v wx)
 case first=>
  have nz:v.heap.size<(v.drew.alloc (.cells #[.bool false,.slice none 0 0,.int .i64 0] 117)).heap.size:=by simp
  have kz:Blk (v.drew.alloc (.cells #[.bool false,.slice none 0 0,.int .i64 0] 117)) v.heap.size 117 #[.bool false,.slice none 0 0,.int .i64 0]:=Blk.new v.drew _ _
  have bz:Below v.heap.size v (v.drew.alloc (.cells #[.bool false,.slice none 0 0,.int .i64 0] 117)):=(Below.drew (Below.refl _ _)).alloc nrf _
  have b0:Below v.heap.size v v.drew:=Below.drew (Below.refl _ _)
  go_region_held3 (fun w'=>w'.cell? ⟨w1.heap.size,0,none⟩=some (.bool false)∧w'.cell? ⟨w1.heap.size,1,none⟩=some (.slice A3 (limbs K3).length c3)∧w'.cell? ⟨w1.heap.size,2,none⟩=some (.int .i64 X3))
   (first|exact⟨s0,s1,s2⟩|exact⟨cell_keep bz s0,cell_keep bz s1,cell_keep bz s2⟩|exact⟨e50,e51,e52⟩|exact⟨(World.cell?_alloc_lt _ _ _ z5).trans e50,(World.cell?_alloc_lt _ _ _ z5).trans e51,(World.cell?_alloc_lt _ _ _ z5).trans e52⟩|exact⟨e60,e61,e62⟩|exact⟨(World.cell?_alloc_lt _ _ _ z6).trans e60,(World.cell?_alloc_lt _ _ _ z6).trans e61,(World.cell?_alloc_lt _ _ _ z6).trans e62⟩|exact⟨set_keep (set_keep (set_keep e60 z5) z5) z5,set_keep (set_keep (set_keep e61 z5) z5) z5,set_keep (set_keep (set_keep e62 z5) z5) z5⟩|exact⟨set_keep (set_keep (set_keep e60 s0z) s0z) s0z,set_keep (set_keep (set_keep e61 s0z) s0z) s0z,set_keep (set_keep (set_keep e62 s0z) s0z) s0z⟩|go_keep)
   (first
   |(go_at_call 121
     (with_reducible refine(hPw _).mono ?_)
     rintro r w5 ⟨A2',c2',rfl,own2,hb5⟩
     have hw5:Below v.heap.size v w5:=by first|exact b0.trans hb5|exact bz.trans (hb5.mono (Nat.le_of_lt nz))
     have e50:=cell_keep hw5 s0
     have e51:=cell_keep hw5 s1
     have e52:=cell_keep hw5 s2
     have z5:=cell_lt e50
     have zz5:=hw5.size
     have own15:=own1.below hw5 nrf
     try (have kp5:Blk w5 v.heap.size 117 #[.bool false,.slice none 0 0,.int .i64 0]:=kz.below hb5 nz))
   |(go_at_call 123
     (with_reducible refine(hMu A3 A2' c3 c2' _ own15.rd own2.rd).mono ?_)
     rintro r w6 ⟨B,k,rfl,own3,hb6⟩
     have hw6:Below w5.heap.size w5 w6:=by first|exact hb6|exact((Below.refl _ _).alloc nrf _).trans (hb6.mono (by simp))
     have e60:=cell_keep hw6 e50
     have e61:=cell_keep hw6 e51
     have e62:=cell_keep hw6 e52
     have z6:=cell_lt e60
     have hw06:=hw5.trans (hw6.mono zz5)
     have own4:Own w6 153 w5.heap.size B k (limbs KR):=by first|exact own3|exact own3.mono (by simp)
     first
      |(have kp6:Blk w6 v.heap.size 117 #[.bool false,.slice none 0 0,.int .i64 0]:=kp5.below hw6 kp5.lt
        have zkp:=kp5.lt
        have p60:w6.cell? ⟨v.heap.size,0,none⟩=some (.bool false):=kp6.cell 0
        have p61:w6.cell? ⟨v.heap.size,1,none⟩=some (.slice none 0 0):=kp6.cell 1
        have p62:w6.cell? ⟨v.heap.size,2,none⟩=some (.int .i64 0):=kp6.cell 2
        have p60f:=kp6.frozen 0
        have p61f:=kp6.frozen 1
        have p62f:=kp6.frozen 2
        have p6z:=kp6.lt)
      |(have kp6:Blk w6 w5.heap.size 117 #[.bool false,.slice none 0 0,.int .i64 0]:=(Blk.new w5 _ _).below hb6 (by simp)
        have own5:Own w6 153 (w5.heap.size+1) B k (limbs KR):=own3.mono (by simp)
        have p60:w6.cell? ⟨w5.heap.size,0,none⟩=some (.bool false):=kp6.cell 0
        have p61:w6.cell? ⟨w5.heap.size,1,none⟩=some (.slice none 0 0):=kp6.cell 1
        have p62:w6.cell? ⟨w5.heap.size,2,none⟩=some (.int .i64 0):=kp6.cell 2
        have p60f:=kp6.frozen 0
        have p61f:=kp6.frozen 1
        have p62f:=kp6.frozen 2
        have p6z:=kp6.lt)
      |skip)
   |(go_at_call 123
     (with_reducible refine(hMu A3 A2' c3 c2' _ (own15.alloc _).rd (own2.alloc _).rd).mono ?_)
     rintro r w6 ⟨B,k,rfl,own3,hb6⟩
     have hw6:Below w5.heap.size w5 w6:=by first|exact hb6|exact((Below.refl _ _).alloc nrf _).trans (hb6.mono (by simp))
     have e60:=cell_keep hw6 e50
     have e61:=cell_keep hw6 e51
     have e62:=cell_keep hw6 e52
     have z6:=cell_lt e60
     have hw06:=hw5.trans (hw6.mono zz5)
     have own4:Own w6 153 w5.heap.size B k (limbs KR):=by first|exact own3|exact own3.mono (by simp)
     first
      |(have kp6:Blk w6 v.heap.size 117 #[.bool false,.slice none 0 0,.int .i64 0]:=kp5.below hw6 kp5.lt
        have zkp:=kp5.lt
        have p60:w6.cell? ⟨v.heap.size,0,none⟩=some (.bool false):=kp6.cell 0
        have p61:w6.cell? ⟨v.heap.size,1,none⟩=some (.slice none 0 0):=kp6.cell 1
        have p62:w6.cell? ⟨v.heap.size,2,none⟩=some (.int .i64 0):=kp6.cell 2
        have p60f:=kp6.frozen 0
        have p61f:=kp6.frozen 1
        have p62f:=kp6.frozen 2
        have p6z:=kp6.lt)
      |(have kp6:Blk w6 w5.heap.size 117 #[.bool false,.slice none 0 0,.int .i64 0]:=(Blk.new w5 _ _).below hb6 (by simp)
        have own5:Own w6 153 (w5.heap.size+1) B k (limbs KR):=own3.mono (by simp)
        have p60:w6.cell? ⟨w5.heap.size,0,none⟩=some (.bool false):=kp6.cell 0
        have p61:w6.cell? ⟨w5.heap.size,1,none⟩=some (.slice none 0 0):=kp6.cell 1
        have p62:w6.cell? ⟨w5.heap.size,2,none⟩=some (.int .i64 0):=kp6.cell 2
        have p60f:=kp6.frozen 0
        have p61f:=kp6.frozen 1
        have p62f:=kp6.frozen 2
        have p6z:=kp6.lt)
      |skip)
   |fail)
  all_goals (go_wp2_with fail;go_meet)
  all_goals (first
   |exact⟨_,_,_,rfl,rfl,hw06.size,Blk.new _ _ _,(own4.alloc _).mono zz5,hw06.alloc hw06.size _⟩
   |exact⟨_,_,_,rfl,rfl,zz5,((kp6.set_ 0 _).set_ 1 _).set_ 2 _,(((own5.setCell (by simp) _).setCell (by simp) _).setCell (by simp) _).mono (by omega),((hw06.setCell zz5 _).setCell zz5 _).setCell zz5 _⟩
   |exact⟨_,_,_,rfl,rfl,Nat.le_refl _,((kp6.set_ 0 _).set_ 1 _).set_ 2 _,(((own4.setCell zkp _).setCell zkp _).setCell zkp _).mono zz5,((hw06.setCell nrf _).setCell nrf _).setCell nrf _⟩)
 case rest=>
  obtain⟨gp,B,k,rfl,rfl,hgp,k6,own2,hbc⟩:=hcut
  have hgp2:w.heap.size+2≠gp:=by have:=k3.lt;omega
  have z4:=k3.lt
  replace hb0:=hb0.trans (hbc.mono hb0.size)
  replace k3:=k3.below hbc k3.lt
  clear hbc s0 s1 s2 s0z k1 k2 k5 own1
  obtain⟨k3c0,k3c1,k3c2,k3z,k3f0,k3f1,k3f2⟩:=k3.b3
  obtain⟨k6c0,k6c1,k6c2,k6z,k6f0,k6f1,k6f2⟩:=k6.b3
  go_wp2
  refine bodyPost_ret (v:=.agg #[.bool false,.slice B (limbs KR).length k,.int .i64 XR]) ?_ rfl ⟨B,k,rfl,(((own2.setCell z4 _).setCell z4 _).setCell z4 _).mono (by omega),(bel3 hb0 (w.heap.size+2) (by simp))⟩
  refine results_cell_row rfl _ _ (w.heap.size+2) _ _ _ _ ?_ (((k3.set_ 0 _).set_ 1 _).set_ 2 _) Tryz.underlying117 rfl (by kernel_rfl)
  rfl
theorem ref06_mean (A1 A2:Option Addr) (v1 v2 c1 c2:Nat) (q:Int) (hl1:(limbs v1).length≤30) (hl2:(limbs v2).length≤30) (hq: -9000≤q∧q≤9000) (hv2:v2≠0) (w:World) (h1:Rd w A1 (limbs (dyK v1))) (h2:Rd w A2 (limbs (dyK v2))):
 Calls Tryz.prog 72 #[.agg #[.bool false,.slice A1 (limbs (dyK v1)).length c1,.int .i64 (dyE v1 q)],.agg #[.bool false,.slice A2 (limbs (dyK v2)).length c2,.int .i64 (dyE v2 q)]] w (DyO w (v1+v2) (q-1)):=by
 have ls:(limbs (v1+v2)).length≤100:=by
  have h1:=(length_limbs_le v1 30).1 hl1
  have h2:=(length_limbs_le v2 30).1 hl2
  refine Nat.le_trans ((length_limbs_le (v1+v2) 31).2 ?_) (by decide)
  rw[Nat.pow_succ]
  have:=pow_pos' 30
  generalize 4294967296^30=P at*
  omega
 refine mean_core A1 A2 (dyK v1) (dyK v2) c1 c2 (dyE v1 q) (dyE v2 q) (dyK (v1+v2)) (dyK 1) (dyK (v1+v2)) (dyE (v1+v2) q) (dyE 1 (-1)) (dyE (v1+v2) (q-1)) ?_ ?_ ?_ w h1 h2
 · intro W ha hb
   exact ref04_Add A1 A2 v1 v2 c1 c2 q (by omega) (by omega) (by omega) hv2 W ha hb
 · intro W
   exact ref06_power 1 (-1) (by decide) (by decide) (by decide) W
 · intro A B c d W ha hb
   have:=ref04_Mul A B (v1+v2) 1 c d q (-1) ls (by decide) (by omega) (by decide) (by omega) (by decide) W ha hb
   rw[Nat.mul_one] at this
   exact this
end Bg
namespace Bg
theorem ref06_beyond (E F b X Y:Nat) (hE2:2≤E) (hE:E≤11) (hF1:1≤F) (hF:F≤52) (hb64:b<18446744073709551616) (hb:b<2^(E+F)) (hX:X=b/2^F%2^E) (hY:Y=b%2^F) (hXm:X+1≠2^E) (hfit:Fo.fitS (E:Int) (F:Int) b=0) (ng:Bool) (hs:Fo.splitF E F b=(ng,X,Y)) (w:World):
 Calls Tryz.prog 71 #[.agg #[.int .i64 (E:Int),.int .i64 (F:Int)],.int .u64 (b:Int)] w (DyO w (mF F X Y+1) (qF E F X)):=by
 have hXl:X<2^E:=by rw[hX];exact Nat.mod_lt _ (Nat.two_pow_pos _)
 have hEE:2^E≤2048:=Nat.le_trans (Nat.pow_le_pow_right (by decide) hE) (by decide)
 have hH:2^(E-1)≤1024:=Nat.le_trans (Nat.pow_le_pow_right (by decide) (by omega:E-1≤10)) (by decide)
 have hFF:2^F≤4503599627370496:=Nat.le_trans (Nat.pow_le_pow_right (by decide) hF) (by decide)
 have hYl:Y<2^F:=by rw[hY];exact Nat.mod_lt _ (Nat.two_pow_pos _)
 have hm:mF F X Y<9007199254740992:=by
  unfold mF
  generalize 2^F=P at*
  split <;> omega
 have hq: -3000≤qF E F X∧qF E F X≤3000:=by
  unfold qF
  generalize 2^(E-1)=P at*
  generalize 2^E=P2 at*
  split <;> omega
 have lm:(limbs (mF F X Y)).length≤2:=limbs_two (by omega)
 refine beyond_core E F b (2^(E+F)) (dyK (mF F X Y)) (dyK 1) (dyK (mF F X Y+1)) (dyE (mF F X Y) (qF E F X)) (qF E F X) (dyE 1 (qF E F X)) (dyE (mF F X Y+1) (qF E F X)) hb ?_ ?_ ?_ ?_ ?_ w
 · intro W
   exact ref06_worth E F b hE2 hE hF1 hF hb64 hb X Y hX hY hXm W
 · intro W
   exact ref06_half E F hE hF _ rfl W
 · intro W
   exact ref06_unit E F b X Y hE2 hE hF1 hF hb64 hfit ng hs W
 · intro W
   exact ref06_power 1 (qF E F X) (by decide) (by omega) (by omega) W
 · intro A B c d W ha hb'
   exact ref04_Add A B (mF F X Y) 1 c d (qF E F X) (by omega) (by decide) (by omega) (by decide) W ha hb'
end Bg
namespace Bg
theorem near_facts {E F b X Y:Nat} (hE2:2≤E) (hF1:1≤F) (hb:b<2^(E+F)) (h0:b≠0) (hX:X=b/2^F%2^E) (hY:Y=b%2^F) (hXm:X+1≠2^E):
 (b-1)/2^F%2^E+1≠2^E∧((stF X Y=true∧mF F ((b-1)/2^F%2^E) ((b-1)%2^F)=2*mF F X Y-1∧qF E F ((b-1)/2^F%2^E)=qF E F X-1)∨
   (stF X Y=false∧mF F ((b-1)/2^F%2^E) ((b-1)%2^F)=mF F X Y-1∧qF E F ((b-1)/2^F%2^E)=qF E F X)):=by
 have hP:0<2^F:=Nat.two_pow_pos F
 have hQ:0<2^E:=Nat.two_pow_pos E
 have hd:b/2^F<2^E:=Nat.div_lt_of_lt_mul (by rw[←Nat.pow_add,Nat.add_comm F E];exact hb)
 rw[Nat.mod_eq_of_lt hd] at hX
 have hs:=Nat.div_add_mod b (2^F)
 rw[←hX, ←hY] at hs
 have hYl:Y<2^F:=by rw[hY];exact Nat.mod_lt _ hP
 have hXl:X<2^E:=by rw[hX];exact hd
 clear hd hX hY
 by_cases hy:Y=0
 · subst hy
   obtain⟨Z,rfl⟩:∃Z,X=Z+1:=⟨X-1,by
    have:X≠0:=by rintro rfl;rw[Nat.mul_zero] at hs;omega
    omega⟩
   have hdm:(b-1)/2^F=Z∧(b-1)%2^F=2^F-1:=by
    refine(Nat.div_mod_unique hP).2 ⟨?_,by omega⟩
    rw[Nat.mul_succ] at hs
    omega
   rw[hdm.1,hdm.2,Nat.mod_eq_of_lt (by omega:Z<2^E)]
   refine⟨by omega,?_⟩
   by_cases hz:Z=0
   · subst hz
     refine .inr ⟨rfl,?_,?_⟩
     · unfold mF;rw[if_pos rfl,if_neg (by decide)];omega
     · unfold qF;rw[if_pos rfl,if_neg (by decide)];rfl
   · refine .inl ⟨?_,?_,?_⟩
     · unfold stF;simp;omega
     · unfold mF;rw[if_neg hz,if_neg (by omega)];omega
     · unfold qF;rw[if_neg hz,if_neg (by omega)];push_cast;omega
 · have hdm:(b-1)/2^F=X∧(b-1)%2^F=Y-1:=by
    refine(Nat.div_mod_unique hP).2 ⟨?_,by omega⟩
    omega
   rw[hdm.1,hdm.2,Nat.mod_eq_of_lt hXl]
   refine⟨hXm,.inr ⟨?_,?_,rfl⟩⟩
   · unfold stF;simp[hy]
   · unfold mF;split <;> omega
theorem dyO_up {w:World} {v:Nat} {q:Int} {e:Ending} {w':World} (h0:v≠0) (j:Nat) (h:DyO w v q e w'):DyO w (v*2^j) (q-(j:Int)) e w':=by
 obtain⟨h1,h2⟩:=dy_same (v:=v) (v':=v*2^j) (a:=j) (b:=0) (q:=q) (q':=q-(j:Int)) h0 (by rw[Nat.pow_zero,Nat.mul_one]) (by omega)
 unfold DyO at h ⊢
 rw[←h1, ←h2]
 exact h
theorem dy_up {v:Nat} {q:Int} (h0:v≠0) (j:Nat):dyK v=dyK (v*2^j)∧dyE v q=dyE (v*2^j) (q-(j:Int)):=
 dy_same (a:=j) (b:=0) h0 (by rw[Nat.pow_zero,Nat.mul_one]) (by omega)
theorem Sc.quarter {n d T lo N:Nat} (h:Sc n d (T*(4*lo)) (N+2)):Sc n d (T*lo) N:=by
 refine⟨?_,h.ne,h.ln,h.ld⟩
 have:=h.eq
 refine Nat.eq_of_mul_eq_mul_left (by decide:0<4) ?_
 rw[Nat.pow_add] at this
 calc 4*(n*2^N)=n*(2^N*2^2):=by rw[show(2:Nat)^2=4 from rfl];ac_rfl
  _=T*(4*lo)*d:=this
  _=4*(T*lo*d):=by ac_rfl
end Bg
end Go.Proofs.YtenekbfnlbipiaaGreatDoor
