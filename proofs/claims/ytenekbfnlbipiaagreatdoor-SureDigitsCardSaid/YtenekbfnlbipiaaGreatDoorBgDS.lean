/- Walks: the document's Digits, out of contracts. -/
import Derived.Test.YtenekbfnlbipiaaGreatDoorBgAL
import Derived.Test.YtenekbfnlbipiaaGreatDoorSuDi
import Derived.Deep.Light
namespace Go.Proofs.YtenekbfnlbipiaaGreatDoor
open Go.RowKit
set_option linter.unusedVariables false
set_option linter.unusedSimpArgs false
set_option maxHeartbeats 4000000
set_option maxRecDepth 100000
namespace Bg
theorem cmpV_gt {a b:Nat}:0<cmpV a b↔b<a:=by
 unfold cmpV;split <;> (try split) <;> omega
def digG (R:Nat→Option (Option Nat)) (P:Int):Nat→Nat→Option (Nat × Int)
 |0,_=>none
 |fuel+1,n=>match R n with
  |none=>digG R P fuel (n+1)
  |some none=>none
  |some (some x)=>some (x,P+1-n)
theorem dig_core (E F b bb S:Nat) (ng inn:Bool) (P:Int) (Fr:Nat→Nat→Prop) (N4 D4 N5 D5 nl dl nh dh:Nat) (c1 c2 f1 f2 r1 r2:Nat→Nat) (ROUND:Nat→Option (Option Nat)) (hP1: -350≤P) (hP2:P<350) (hS0:0<S) (hbb:bb=b%S) (h0:bb≠0)
 (hA:∀W,Calls Tryz.prog 16 #[.agg #[.int .i64 (E:Int),.int .i64 (F:Int)],.int .u64 (b:Int)] W (Says W (.int .i64 0)))
 (hSn:∀W,Calls Tryz.prog 17 #[.agg #[.int .i64 (E:Int),.int .i64 (F:Int)],.int .u64 (b:Int)] W (Says W (.bool ng)))
 (hSg:∀W,Calls Tryz.prog 18 #[.agg #[.int .i64 (E:Int),.int .i64 (F:Int)]] W (Says W (.int .u64 (S:Int))))
 (hWo:∀W,Tz W→Calls Tryz.prog 19 #[.agg #[.int .i64 (E:Int),.int .i64 (F:Int)],.int .u64 (bb:Int)] W fun e w'=>∃y nn dd,e=.returned (.pointer (some ⟨y,0,none⟩))∧Rt w' y nn dd∧Fr nn dd∧Below W.heap.size W w')
 (hRe:∀W,Calls Tryz.prog 27 #[.agg #[.int .i64 (E:Int),.int .i64 (F:Int)],.int .u64 (bb:Int),.int .u8 0] W fun e w'=>∃A4 c4 B4 d4 A5 c5 B5 d5,e=.returned (.tuple #[.agg #[.bool false,.slice A4 (limbs N4).length c4,.slice B4 (limbs D4).length d4],.agg #[.bool false,.slice A5 (limbs N5).length c5,.slice B5 (limbs D5).length d5],.bool inn,.bool inn,.int .i64 0])∧Own w' 153 W.heap.size A4 c4 (limbs N4)∧Own w' 153 W.heap.size B4 d4 (limbs D4)∧Own w' 153 W.heap.size A5 c5 (limbs N5)∧Own w' 153 W.heap.size B5 d5 (limbs D5)∧Below W.heap.size W w')
 (hR4:∀A c B d W,Tz W→Rd W A (limbs N4)→Rd W B (limbs D4)→Calls Tryz.prog 28 #[.agg #[.bool false,.slice A (limbs N4).length c,.slice B (limbs D4).length d]] W (RMakes W nl dl))
 (hR5:∀A c B d W,Tz W→Rd W A (limbs N5)→Rd W B (limbs D5)→Calls Tryz.prog 28 #[.agg #[.bool false,.slice A (limbs N5).length c,.slice B (limbs D5).length d]] W (RMakes W nh dh))
 (hFt:∀y nn dd,Fr nn dd→∀W,Tz W→Rt W y nn dd→Calls Tryz.prog 20 #[.pointer (some ⟨y,0,none⟩)] W (Says W (.int .i64 P)))
 (hEl:∀n:Nat,1≤n→n≤17→∀y W,Tz W→Rt W y nl dl→Calls Tryz.prog 21 #[.pointer (some ⟨y,0,none⟩),.int .i64 (P+1-(n:Int))] W fun e w'=>∃z1 z2 n1 d1 n2 d2,e=.returned (.tuple #[.pointer (some ⟨z1,0,none⟩),.pointer (some ⟨z2,0,none⟩)])∧Rt w' z1 n1 d1∧Rt w' z2 n2 d2∧(∀U,Tz U→Rt U z1 n1 d1→Calls Tryz.prog 29 #[.pointer (some ⟨z1,0,none⟩),.bool inn] U (Makes U 95 [] false (c1 n)))∧(∀U,Tz U→Rt U z2 n2 d2→Calls Tryz.prog 29 #[.pointer (some ⟨z2,0,none⟩),.bool inn] U (Makes U 95 [] false (c2 n)))∧Below W.heap.size W w')
 (hEh:∀n:Nat,1≤n→n≤17→∀y W,Tz W→Rt W y nh dh→Calls Tryz.prog 21 #[.pointer (some ⟨y,0,none⟩),.int .i64 (P+1-(n:Int))] W fun e w'=>∃z1 z2 n1 d1 n2 d2,e=.returned (.tuple #[.pointer (some ⟨z1,0,none⟩),.pointer (some ⟨z2,0,none⟩)])∧Rt w' z1 n1 d1∧Rt w' z2 n2 d2∧(∀U,Tz U→Rt U z1 n1 d1→Calls Tryz.prog 30 #[.pointer (some ⟨z1,0,none⟩),.bool inn] U (Makes U 95 [] false (f1 n)))∧(∀U,Tz U→Rt U z2 n2 d2→Calls Tryz.prog 30 #[.pointer (some ⟨z2,0,none⟩),.bool inn] U (Makes U 95 [] false (f2 n)))∧Below W.heap.size W w')
 (hEv:∀y nn dd,Fr nn dd→∀n:Nat,1≤n→n≤17→∀W,Tz W→Rt W y nn dd→Calls Tryz.prog 21 #[.pointer (some ⟨y,0,none⟩),.int .i64 (P+1-(n:Int))] W fun e w'=>∃z1 z2 n1 d1 n2 d2,e=.returned (.tuple #[.pointer (some ⟨z1,0,none⟩),.pointer (some ⟨z2,0,none⟩)])∧Rt w' z1 n1 d1∧Rt w' z2 n2 d2∧(∀U,Tz U→Rt U z1 n1 d1→Calls Tryz.prog 22 #[.pointer (some ⟨z1,0,none⟩)] U (Makes U 95 [] false (r1 n)))∧(∀U,Tz U→Rt U z2 n2 d2→Calls Tryz.prog 22 #[.pointer (some ⟨z2,0,none⟩)] U (Makes U 95 [] false (r2 n)))∧Below W.heap.size W w')
 (hsm:∀n:Nat,1≤n→n≤17→c1 n<18446744073709551616∧f1 n<18446744073709551616∧r1 n<18446744073709551616)
 (hrd:∀n:Nat,1≤n→n≤17→ROUND n=if c1 n=c2 n∧f1 n=f2 n then (if f1 n<c1 n then none else if r1 n=r2 n then some (some (max (c1 n) (min (f1 n) (r1 n)))) else some none) else some none)
 (w:World) (hT:Tz w):
 Calls Tryz.prog 9 #[.agg #[.int .i64 (E:Int),.int .i64 (F:Int)],.int .u64 (b:Int)] w (Says w (digV ng (digG ROUND P 17 1))):=by
 have hSnz:¬S=0:=by omega
 have hSi:((S:Int)==0)=false:=by rw[beq_eq_false_iff_ne];omega
 have hbm:(b:Int)%(S:Int)=(bb:Int):=by rw[hbb];rfl
 have hbn:b%S=bb:=hbb.symm
 have hb01:((bb:Int)==0)=false:=by rw[beq_eq_false_iff_ne];omega
 obtain⟨RES,hRES⟩:∃RES,RES=digG ROUND P 17 1:=⟨_,rfl⟩
 rw[←hRES]
 have HRES:=Lib.hid hRES
 have HWO:=Lib.hid hWo
 have HFT:=Lib.hid hFt
 have HEL:=Lib.hid hEl
 have HEH:=Lib.hid hEh
 have HEV:=Lib.hid hEv
 have HSM:=Lib.hid hsm
 have HRD:=Lib.hid hrd
 have HR4:=Lib.hid hR4
 have HR5:=Lib.hid hR5
 have HT0:=Lib.hid hT
 clear hRES hWo hFt hEl hEh hEv hsm hrd hR4 hR5 hbb h0 hS0
 obtain⟨v0,hvv0,hv0,k1⟩:=Blk.al w 23 #[.int .i64 (E:Int),.int .i64 (F:Int)]
 have hz0:v0.heap.size=w.heap.size+1:=by rw[hvv0];simp
 obtain⟨v1,hvv1,hv1,k2⟩:=Blk.al v0 26 #[.bool false,.string ⟨#[]⟩,.int .i64 0]
 replace k1:=k1.below hv1 k1.lt
 have hb0:=hv0.trans (hv1.mono hv0.size)
 go_enter Tryz.func9,Tryz.ntmps9
 go_upto_region 1 with fail
 rw[←hvv0]
 rw[hz0] at k2
 rw[←hvv1]
 clear hvv0 hvv1 hv0 hv1 hz0
 obtain⟨k1c0,k1c1,k1z, -⟩:=k1.b2
 obtain⟨k2c0,k2c1,k2c2,k2z,k2f0,k2f1,k2f2⟩:=k2.b3
 go_wp2_with fail
 clear k1c0 k1c1 k1z k2c0 k2f0 k2c1 k2f1 k2c2 k2f2 k2z
 refine(hA _).mono ?_
 rintro e w1 ⟨rfl,hb1⟩
 replace k1:=k1.below hb1 k1.lt
 replace k2:=k2.below hb1 k2.lt
 replace hb0:=hb0.trans (hb1.mono hb0.size)
 clear hb1
 obtain⟨k1c0,k1c1,k1z, -⟩:=k1.b2
 obtain⟨k2c0,k2c1,k2c2,k2z,k2f0,k2f1,k2f2⟩:=k2.b3
 go_wp2_with fail
 clear k1c0 k1c1 k1z k2c0 k2f0 k2c1 k2f1 k2c2 k2f2 k2z
 refine(hSn _).mono ?_
 rintro e w2 ⟨rfl,hb2⟩
 replace k1:=k1.below hb2 k1.lt
 replace k2:=k2.below hb2 k2.lt
 replace hb0:=hb0.trans (hb2.mono hb0.size)
 clear hb2
 obtain⟨k1c0,k1c1,k1z, -⟩:=k1.b2
 obtain⟨k2c0,k2c1,k2c2,k2z,k2f0,k2f1,k2f2⟩:=k2.b3
 go_wp2_with fail
 clear k1c0 k1c1 k1z k2c0 k2f0 k2c1 k2f1 k2c2 k2f2 k2z
 refine(hSg _).mono ?_
 rintro e w3 ⟨rfl,hb3⟩
 replace k1:=k1.below hb3 k1.lt
 replace k2:=k2.below hb3 k2.lt
 replace hb0:=hb0.trans (hb3.mono hb0.size)
 clear hb3
 obtain⟨k1c0,k1c1,k1z, -⟩:=k1.b2
 obtain⟨k2c0,k2c1,k2c2,k2z,k2f0,k2f1,k2f2⟩:=k2.b3
 go_wp2_with fail
 clear k1c0 k1c1 k1z k2c0 k2f0 k2c1 k2f1 k2c2 k2f2 k2z
 refine(HWO.out _ (hT.below hb0)).mono ?_
 rintro e w4 ⟨y,nn,dd,rfl,ry,fr,hb4⟩
 replace k1:=k1.below hb4 k1.lt
 replace k2:=k2.below hb4 k2.lt
 replace hb0:=hb0.trans (hb4.mono hb0.size)
 clear hb4
 obtain⟨k1c0,k1c1,k1z, -⟩:=k1.b2
 obtain⟨k2c0,k2c1,k2c2,k2z,k2f0,k2f1,k2f2⟩:=k2.b3
 go_wp2_with fail
 clear k1c0 k1c1 k1z k2c0 k2f0 k2c1 k2f1 k2c2 k2f2 k2z
 refine(hRe _).mono ?_
 rintro e w5 ⟨A4,c4,B4,d4,A5,c5,B5,d5,rfl,own4,own4b,own5,own5b,hb5⟩
 replace k1:=k1.below hb5 k1.lt
 replace k2:=k2.below hb5 k2.lt
 replace hb0:=hb0.trans (hb5.mono hb0.size)
 replace ry:=ry.below hb5
 clear hb5
 obtain⟨k1c0,k1c1,k1z, -⟩:=k1.b2
 obtain⟨k2c0,k2c1,k2c2,k2z,k2f0,k2f1,k2f2⟩:=k2.b3
 go_upto_region 10 with fail
 clear k1c0 k1c1 k1z k2c0 k2f0 k2c1 k2f1 k2c2 k2f2 k2z
 obtain⟨x4,hx4,ha4,k4⟩:=Blk.al w5 69 #[.bool false,.slice A4 (limbs N4).length c4,.slice B4 (limbs D4).length d4]
 rw[←hx4]
 have hz4:x4.heap.size=w5.heap.size+1:=by rw[hx4];simp
 obtain⟨v,hvv,ha5,k5⟩:=Blk.al x4 69 #[.bool false,.slice A5 (limbs N5).length c5,.slice B5 (limbs D5).length d5]
 replace k4:=k4.below ha5 k4.lt
 rw[hz4] at k5
 have hall:=ha4.trans (ha5.mono ha4.size)
 rw[←hvv]
 clear ha4 ha5 hvv hx4 hz4
 replace k1:=k1.below hall k1.lt
 replace k2:=k2.below hall k2.lt
 replace hb0:=hb0.trans (hall.mono hb0.size)
 replace ry:=ry.below hall
 replace own4:=own4.below hall nrf
 replace own4b:=own4b.below hall nrf
 replace own5:=own5.below hall nrf
 replace own5b:=own5b.below hall nrf
 clear hall
 obtain⟨G,hG⟩:∃zz:Nat,zz=w5.heap.size:=⟨_,rfl⟩
 rw[←hG] at k4 k5 ⊢
 clear hG
 have hTv:=hT.below hb0
 obtain⟨s0,s1,s2, -⟩:=k4.b3
 obtain⟨t0,t1,t2, -⟩:=k5.b3
 go_cut [15,16] (fun v15 v16 wx=>∃gl gh:Nat,v15=.pointer (some ⟨gl,0,none⟩)∧v16=.pointer (some ⟨gh,0,none⟩)∧Rt wx gl nl dl∧Rt wx gh nh dh∧Below v.heap.size v wx)
 case first=>
  have bz:Below v.heap.size v v.drew:=Below.drew (Below.refl _ _)
  have hTd:Tz v.drew:=hTv.below bz
  have rd4:Rd v.drew A4 (limbs N4):=own4.rd
  have rd4b:Rd v.drew B4 (limbs D4):=own4b.rd
  have rd5:Rd v.drew A5 (limbs N5):=own5.rd
  have rd5b:Rd v.drew B5 (limbs D5):=own5b.rd
  go_region_held3 (fun w'=>w'.cell? ⟨G,0,none⟩=some (.bool false)∧w'.cell? ⟨G,1,none⟩=some (.slice A4 (limbs N4).length c4)∧w'.cell? ⟨G,2,none⟩=some (.slice B4 (limbs D4).length d4)∧w'.cell? ⟨G+1,0,none⟩=some (.bool false)∧w'.cell? ⟨G+1,1,none⟩=some (.slice A5 (limbs N5).length c5)∧w'.cell? ⟨G+1,2,none⟩=some (.slice B5 (limbs D5).length d5))
   (first|with_reducible exact⟨s0,s1,s2,t0,t1,t2⟩|with_reducible exact⟨cell_keep bz s0,cell_keep bz s1,cell_keep bz s2,cell_keep bz t0,cell_keep bz t1,cell_keep bz t2⟩|with_reducible exact⟨a0,a1,a2,a3,a4,a5⟩|with_reducible exact⟨b0,b1,b2,b3,b4,b5⟩|go_keep)
   (first
   |(go_at_call 28
     (with_reducible refine(HR4.out A4 c4 B4 d4 _ (hTv.below ba) (own4.below ba nrf).rd (own4b.below ba nrf).rd).mono ?_)
     rintro r wb ⟨gl,rfl, -, rl,bc⟩
     have bb2:Below v.heap.size v wb:=ba.trans (bc.mono ba.size)
     replace rh:=rh.below bc
     have b0:=cell_keep bb2 s0
     have b1:=cell_keep bb2 s1
     have b2:=cell_keep bb2 s2
     have b3:=cell_keep bb2 t0
     have b4:=cell_keep bb2 t1
     have b5:=cell_keep bb2 t2)
   |(go_at_call 28
     (with_reducible refine(HR5.out A5 c5 B5 d5 _ (hTv.below ba) (own5.below ba nrf).rd (own5b.below ba nrf).rd).mono ?_)
     rintro r wb ⟨gh,rfl, -, rh,bc⟩
     have bb2:Below v.heap.size v wb:=ba.trans (bc.mono ba.size)
     replace rl:=rl.below bc
     have b0:=cell_keep bb2 s0
     have b1:=cell_keep bb2 s1
     have b2:=cell_keep bb2 s2
     have b3:=cell_keep bb2 t0
     have b4:=cell_keep bb2 t1
     have b5:=cell_keep bb2 t2)
   |(go_at_call 28
     (with_reducible refine(HR4.out A4 c4 B4 d4 _ hTd rd4 rd4b).mono ?_)
     rintro r wa ⟨gl,rfl, -, rl,ba'⟩
     have ba:Below v.heap.size v wa:=bz.trans ba'
     have a0:=cell_keep ba s0
     have a1:=cell_keep ba s1
     have a2:=cell_keep ba s2
     have a3:=cell_keep ba t0
     have a4:=cell_keep ba t1
     have a5:=cell_keep ba t2)
   |(go_at_call 28
     (with_reducible refine(HR5.out A5 c5 B5 d5 _ hTd rd5 rd5b).mono ?_)
     rintro r wa ⟨gh,rfl, -, rh,ba'⟩
     have ba:Below v.heap.size v wa:=bz.trans ba'
     have a0:=cell_keep ba s0
     have a1:=cell_keep ba s1
     have a2:=cell_keep ba s2
     have a3:=cell_keep ba t0
     have a4:=cell_keep ba t1
     have a5:=cell_keep ba t2)
   |fail)
  all_goals (go_wp2_with fail;go_meet)
  all_goals exact⟨gl,gh,rfl,rfl,rl,rh,bb2⟩
 case rest=>
  obtain⟨gl,gh,rfl,rfl,rl,rh,hbc⟩:=hcut
  replace k1:=k1.below hbc k1.lt
  replace k2:=k2.below hbc k2.lt
  replace ry:=ry.below hbc
  replace hb0:=hb0.trans (hbc.mono hb0.size)
  clear hbc s0 s1 s2 t0 t1 t2 k4 k5 own4 own4b own5 own5b hTv HR4 HR5 hA hSn hSg hRe HWO hSnz hSi hbm hbn hb01
  obtain⟨k1c0,k1c1,k1z, -⟩:=k1.b2
  obtain⟨k2c0,k2c1,k2c2,k2z,k2f0,k2f1,k2f2⟩:=k2.b3
  go_wp2_with fail
  clear k1c0 k1c1 k1z k2c0 k2f0 k2c1 k2f1 k2c2 k2f2 k2z
  refine(HFT.out y nn dd fr _ (hT.below hb0) ry).mono ?_
  rintro e w6 ⟨rfl,hb6⟩
  replace k1:=k1.below hb6 k1.lt
  replace k2:=k2.below hb6 k2.lt
  replace hb0:=hb0.trans (hb6.mono hb0.size)
  replace ry:=ry.below hb6
  replace rl:=rl.below hb6
  replace rh:=rh.below hb6
  clear hb6
  obtain⟨k1c0,k1c1,k1z, -⟩:=k1.b2
  obtain⟨k2c0,k2c1,k2c2,k2z,k2f0,k2f1,k2f2⟩:=k2.b3
  go_wp2
  clear k1c0 k1c1 k1z k2c0 k2f0 k2c1 k2f1 k2c2 k2f2 k2z
  go_loopw [18] (fun v18 wr=>∃n:Nat,v18=.int .i64 (n:Int)∧1≤n∧n≤18∧digG ROUND P (18-n) n=RES∧Blk wr (w.heap.size+1) 26 #[.bool false,.string ⟨#[]⟩,.int .i64 0]∧Rt wr y nn dd∧Rt wr gl nl dl∧Rt wr gh nh dh∧Below w.heap.size w wr) (fun v18 _=>19-(intOf v18).toNat)
  case atStart=>exact⟨1,rfl,by omega,by omega,HRES.out.symm,k2,ry,rl,rh,hb0⟩
  case round=>
   clear k1 k2 ry rl rh hb0
   obtain⟨n,rfl,hn1,hn18,hdg,k2,ry,rl,rh,hb0⟩:=hrel
   by_cases hn2:n≤17
   · have hg17:decide ((n:Int)≤17)=true:=by simp;omega
     have hstep:(match ROUND n with|none=>digG ROUND P (17-n) (n+1)|some none=>none|some (some x)=>some (x,P+1-n))=RES:=by
      rw[show 18-n=17-n+1 by omega] at hdg
      exact hdg
     rw[HRD.out n hn1 hn2] at hstep
     obtain⟨m1,m2,m3⟩:=HSM.out n hn1 hn2
     have eL:=HEL.out n hn1 hn2 gl
     have eH:=HEH.out n hn1 hn2 gh
     have eV:=HEV.out y nn dd fr n hn1 hn2
     generalize c1 n=C1 at hstep m1 eL
     generalize c2 n=C2 at hstep eL
     generalize f1 n=F1 at hstep m2 eH
     generalize f2 n=F2 at hstep eH
     generalize r1 n=R1 at hstep m3 eV
     generalize r2 n=R2 at hstep eV
     have HS:=Lib.hid hstep
     clear hdg hstep
     have EL:=Lib.hid eL
     have EH:=Lib.hid eH
     have EV:=Lib.hid eV
     clear eL eH eV
     go_wp2_with fail
     refine(EL.out _ (HT0.out.below hb0) rl).mono ?_
     rintro e w27 ⟨l1,l2,n1,d1,n2,d2,rfl,a1,a2,q1,q2,hb27⟩
     replace k2:=k2.below hb27 k2.lt
     replace hb0:=hb0.trans (hb27.mono hb0.size)
     replace ry:=ry.below hb27
     replace rl:=rl.below hb27
     replace rh:=rh.below hb27
     clear hb27
     have Q1:=Lib.hid q1
     have Q2:=Lib.hid q2
     clear q1 q2 EL
     go_wp2_with fail
     refine(EH.out _ (HT0.out.below hb0) rh).mono ?_
     rintro e w28 ⟨h1,h2,n3,d3,n4,d4,rfl,a3,a4,q3,q4,hb28⟩
     replace k2:=k2.below hb28 k2.lt
     replace hb0:=hb0.trans (hb28.mono hb0.size)
     replace ry:=ry.below hb28
     replace rl:=rl.below hb28
     replace rh:=rh.below hb28
     replace a1:=a1.below hb28
     replace a2:=a2.below hb28
     clear hb28
     have Q3:=Lib.hid q3
     have Q4:=Lib.hid q4
     clear q3 q4 EH
     go_wp2_with fail
     refine(EV.out _ (HT0.out.below hb0) ry).mono ?_
     rintro e w29 ⟨v1,v2,n5,d5,n6,d6,rfl,a5,a6,q5,q6,hb29⟩
     replace k2:=k2.below hb29 k2.lt
     replace hb0:=hb0.trans (hb29.mono hb0.size)
     replace ry:=ry.below hb29
     replace rl:=rl.below hb29
     replace rh:=rh.below hb29
     replace a1:=a1.below hb29
     replace a2:=a2.below hb29
     replace a3:=a3.below hb29
     replace a4:=a4.below hb29
     clear hb29
     have Q5:=Lib.hid q5
     have Q6:=Lib.hid q6
     clear q5 q6 EV
     go_wp2_with fail
     refine(Q1.out _ (HT0.out.below hb0) a1).mono ?_
     rintro e w30 ⟨x1,rfl, -, o1,hb30⟩
     replace k2:=k2.below hb30 k2.lt
     replace hb0:=hb0.trans (hb30.mono hb0.size)
     replace ry:=ry.below hb30
     replace rl:=rl.below hb30
     replace rh:=rh.below hb30
     replace a1:=a1.below hb30
     replace a2:=a2.below hb30
     replace a3:=a3.below hb30
     replace a4:=a4.below hb30
     replace a5:=a5.below hb30
     replace a6:=a6.below hb30
     clear hb30
     go_wp2_with fail
     refine(Q3.out _ (HT0.out.below hb0) a3).mono ?_
     rintro e w31 ⟨y1,rfl, -, p1,hb31⟩
     replace k2:=k2.below hb31 k2.lt
     replace hb0:=hb0.trans (hb31.mono hb0.size)
     replace ry:=ry.below hb31
     replace rl:=rl.below hb31
     replace rh:=rh.below hb31
     replace a1:=a1.below hb31
     replace a2:=a2.below hb31
     replace a3:=a3.below hb31
     replace a4:=a4.below hb31
     replace a5:=a5.below hb31
     replace a6:=a6.below hb31
     replace o1:=o1.below hb31
     clear hb31
     go_wp2_with fail
     refine(Q2.out _ (HT0.out.below hb0) a2).mono ?_
     rintro e w32 ⟨x2,rfl, -, o2,hb32⟩
     replace k2:=k2.below hb32 k2.lt
     replace hb0:=hb0.trans (hb32.mono hb0.size)
     replace ry:=ry.below hb32
     replace rl:=rl.below hb32
     replace rh:=rh.below hb32
     replace a1:=a1.below hb32
     replace a2:=a2.below hb32
     replace a3:=a3.below hb32
     replace a4:=a4.below hb32
     replace a5:=a5.below hb32
     replace a6:=a6.below hb32
     replace o1:=o1.below hb32
     replace p1:=p1.below hb32
     clear hb32
     go_wp2_with fail
     refine(int_Cmp x1 x2 _ _ [] [] C1 C2 _ o1 o2).mono ?_
     rintro e w33 ⟨rfl,hb33⟩
     replace k2:=k2.below hb33 k2.lt
     replace hb0:=hb0.trans (hb33.mono hb0.size)
     replace ry:=ry.below hb33
     replace rl:=rl.below hb33
     replace rh:=rh.below hb33
     replace a1:=a1.below hb33
     replace a2:=a2.below hb33
     replace a3:=a3.below hb33
     replace a4:=a4.below hb33
     replace a5:=a5.below hb33
     replace a6:=a6.below hb33
     replace o1:=o1.below hb33
     replace p1:=p1.below hb33
     replace o2:=o2.below hb33
     clear hb33
     clear Q1 Q2 Q3 a1 a2 a3 o2
     by_cases hC:C1=C2
     · have hc:(cmpV C1 C2 !=0)=false:=by rw[cmpV_eq.2 hC];rfl
       have HC:=Lib.hid hC
       clear hC
       go_wp2_with fail
       refine(Q4.out _ (HT0.out.below hb0) a4).mono ?_
       rintro e w54 ⟨y2,rfl, -, p2,hb54⟩
       replace k2:=k2.below hb54 k2.lt
       replace hb0:=hb0.trans (hb54.mono hb0.size)
       replace ry:=ry.below hb54
       replace rl:=rl.below hb54
       replace rh:=rh.below hb54
       replace a4:=a4.below hb54
       replace a5:=a5.below hb54
       replace a6:=a6.below hb54
       replace o1:=o1.below hb54
       replace p1:=p1.below hb54
       clear hb54
       go_wp2_with fail
       refine(int_Cmp y1 y2 _ _ [] [] F1 F2 _ p1 p2).mono ?_
       rintro e w55 ⟨rfl,hb55⟩
       replace k2:=k2.below hb55 k2.lt
       replace hb0:=hb0.trans (hb55.mono hb0.size)
       replace ry:=ry.below hb55
       replace rl:=rl.below hb55
       replace rh:=rh.below hb55
       replace a4:=a4.below hb55
       replace a5:=a5.below hb55
       replace a6:=a6.below hb55
       replace o1:=o1.below hb55
       replace p1:=p1.below hb55
       replace p2:=p2.below hb55
       clear hb55
       clear Q4 a4 p2 hc
       by_cases hF:F1=F2
       · have hstep:=HS.out
         rw[if_pos ⟨HC.out,hF⟩] at hstep
         have HS2:=Lib.hid hstep
         have hc:(cmpV F1 F2 !=0)=false:=by rw[cmpV_eq.2 hF];rfl
         clear HS hstep hF HC
         go_wp2_with fail
         refine(int_Cmp x1 y1 _ _ [] [] C1 F1 _ o1 p1).mono ?_
         rintro e w76 ⟨rfl,hb76⟩
         replace k2:=k2.below hb76 k2.lt
         replace hb0:=hb0.trans (hb76.mono hb0.size)
         replace ry:=ry.below hb76
         replace rl:=rl.below hb76
         replace rh:=rh.below hb76
         replace a5:=a5.below hb76
         replace a6:=a6.below hb76
         replace o1:=o1.below hb76
         replace p1:=p1.below hb76
         clear hb76
         clear hc
         by_cases hFC:F1<C1
         · have hstep:=HS2.out
           rw[if_pos hFC] at hstep
           have HS3:=Lib.hid hstep
           have hc:decide (0<cmpV C1 F1)=true:=by rw[decide_eq_true_eq];exact cmpV_gt.2 hFC
           clear HS2 hstep hFC
           go_wp2
           go_roundw
           case rel=>exact⟨n+1,rfl,by omega,by omega,by rw[show 18-(n+1)=17-n by omega];exact HS3.out,k2,ry,rl,rh,hb0⟩
           case measure=>first|(simp[intOf];done)|(simp[intOf];omega)
         · have hstep:=HS2.out
           rw[if_neg hFC] at hstep
           have HS3:=Lib.hid hstep
           have hc:decide (0<cmpV C1 F1)=false:=by rw[decide_eq_false_iff_not];exact fun h=>hFC (cmpV_gt.1 h)
           have HFC:=Lib.hid hFC
           clear HS2 hstep hFC
           go_wp2_with fail
           refine(Q5.out _ (HT0.out.below hb0) a5).mono ?_
           rintro e w97 ⟨i1,rfl, -, u1,hb97⟩
           replace k2:=k2.below hb97 k2.lt
           replace hb0:=hb0.trans (hb97.mono hb0.size)
           replace ry:=ry.below hb97
           replace rl:=rl.below hb97
           replace rh:=rh.below hb97
           replace a5:=a5.below hb97
           replace a6:=a6.below hb97
           replace o1:=o1.below hb97
           replace p1:=p1.below hb97
           clear hb97
           clear hc
           go_wp2_with fail
           refine(Q6.out _ (HT0.out.below hb0) a6).mono ?_
           rintro e w98 ⟨i2,rfl, -, u2,hb98⟩
           replace k2:=k2.below hb98 k2.lt
           replace hb0:=hb0.trans (hb98.mono hb0.size)
           replace ry:=ry.below hb98
           replace rl:=rl.below hb98
           replace rh:=rh.below hb98
           replace a5:=a5.below hb98
           replace a6:=a6.below hb98
           replace o1:=o1.below hb98
           replace p1:=p1.below hb98
           replace u1:=u1.below hb98
           clear hb98
           go_wp2_with fail
           refine(int_Cmp i1 i2 _ _ [] [] R1 R2 _ u1 u2).mono ?_
           rintro e w99 ⟨rfl,hb99⟩
           replace k2:=k2.below hb99 k2.lt
           replace hb0:=hb0.trans (hb99.mono hb0.size)
           replace ry:=ry.below hb99
           replace rl:=rl.below hb99
           replace rh:=rh.below hb99
           replace a5:=a5.below hb99
           replace a6:=a6.below hb99
           replace o1:=o1.below hb99
           replace p1:=p1.below hb99
           replace u1:=u1.below hb99
           replace u2:=u2.below hb99
           clear hb99
           clear Q5 Q6 a5 a6 u2 ry rl rh
           by_cases hR:R1=R2
           · rename (Exit→Act→World→Prop)=>QQ
             have hQQ:∀(a:Act) (w':World),bodyPost Tryz.prog Tryz.f9 (Says w (digV ng RES)) Exit.ret a w'→QQ Exit.ret a w':=fun a w' h=>h
             clear_value QQ
             have HQ:=Lib.hid hQQ
             clear hQQ
             have hstep:=HS3.out
             rw[if_pos hR] at hstep
             have HS4:=Lib.hid hstep
             have hc:(cmpV R1 R2 !=0)=false:=by rw[cmpV_eq.2 hR];rfl
             clear HS3 hstep hR
             go_wp2_with fail
             refine(int_Cmp i1 x1 _ _ [] [] R1 C1 _ u1 o1).mono ?_
             rintro e w120 ⟨rfl,hb120⟩
             replace k2:=k2.below hb120 k2.lt
             replace hb0:=hb0.trans (hb120.mono hb0.size)
             replace o1:=o1.below hb120
             replace p1:=p1.below hb120
             replace u1:=u1.below hb120
             clear hb120
             clear hc
             by_cases hL:R1<C1
             · have hc:decide (cmpV R1 C1<0)=true:=by rw[decide_eq_true_eq];exact cmpV_lt.2 hL
               have HL:=Lib.hid hL
               go_wp2_with fail
               refine(int_Cmp x1 y1 _ _ [] [] C1 F1 _ o1 p1).mono ?_
               rintro e w141 ⟨rfl,hb141⟩
               replace k2:=k2.below hb141 k2.lt
               replace hb0:=hb0.trans (hb141.mono hb0.size)
               replace o1:=o1.below hb141
               replace p1:=p1.below hb141
               replace u1:=u1.below hb141
               clear hb141
               have hc2:decide (0<cmpV C1 F1)=false:=by rw[decide_eq_false_iff_not];exact fun h=>HFC.out (cmpV_gt.1 h)
               clear hc
               have hstep:=HS4.out
               have hmx:max C1 (min F1 R1)=C1:=by have:=HFC.out;omega
               rw[hmx] at hstep
               have hr:RES=some (C1,P+1-(n:Int)):=hstep.symm
               subst hr
               clear HS4 hstep hmx HFC hL HL
               go_upto_region 30 with fail
               rename_i KE aE
               have hE:∀(a:Act) (w':World),QQ Exit.ret a w'→KE a w':=fun a w' h=>aE a w' (wp_ret h)
               have HE:=Lib.hid hE
               clear aE hE
               go_light
               go_wp2_with fail
               refine(ref19_decimal ng x1 _ [] C1 (P+1-(n:Int)) (by omega) (by omega) (by omega) _ o1).mono ?_
               rintro e w142 ⟨rfl,hb142⟩
               replace k2:=k2.below hb142 k2.lt
               replace hb0:=hb0.trans (hb142.mono hb0.size)
               replace o1:=o1.below hb142
               replace p1:=p1.below hb142
               replace u1:=u1.below hb142
               clear hb142
               obtain⟨k2c0,k2c1,k2c2,k2z,k2f0,k2f1,k2f2⟩:=k2.b3
               go_wp2
               refine HE.out _ _ (HQ.out _ _ ?_)
               refine bodyPost_ret (v:=.tuple #[.agg #[.bool ng,.string ⟨(mkD (Lib.decDigits C1) (P+1-(n:Int))).1.toArray⟩,.int .i64 (mkD (Lib.decDigits C1) (P+1-(n:Int))).2],.bool true,.int .i64 0]) ?_ rfl ⟨rfl,(bel3 hb0 (w.heap.size+1) (by simp))⟩
               refine results_cell_tmp2 rfl _ _ (w.heap.size+1) _ _ _ _ _ _ ?_ ?_ ?_ (((k2.set_ 0 _).set_ 1 _).set_ 2 _) Tryz.underlying26 rfl (by kernel_rfl)
               · rfl
               · rfl
               · rfl
             · have hc:decide (cmpV R1 C1<0)=false:=by rw[decide_eq_false_iff_not];exact fun h=>hL (cmpV_lt.1 h)
               have HL:=Lib.hid hL
               clear hL
               go_wp2_with fail
               refine(int_Cmp i1 y1 _ _ [] [] R1 F1 _ u1 p1).mono ?_
               rintro e w141 ⟨rfl,hb141⟩
               replace k2:=k2.below hb141 k2.lt
               replace hb0:=hb0.trans (hb141.mono hb0.size)
               replace o1:=o1.below hb141
               replace p1:=p1.below hb141
               replace u1:=u1.below hb141
               clear hb141
               clear hc
               have hL:=HL.out
               by_cases hM:F1<R1
               · have hc:decide (0<cmpV R1 F1)=true:=by rw[decide_eq_true_eq];exact cmpV_gt.2 hM
                 have hstep:=HS4.out
                 have hmx:max C1 (min F1 R1)=F1:=by have:=HFC.out;omega
                 rw[hmx] at hstep
                 have hr:RES=some (F1,P+1-(n:Int)):=hstep.symm
                 subst hr
                 clear HS4 hstep hmx HFC hL HL hM
                 go_upto_region 30 with fail
                 rename_i KE aE
                 have hE:∀(a:Act) (w':World),QQ Exit.ret a w'→KE a w':=fun a w' h=>aE a w' (wp_ret h)
                 have HE:=Lib.hid hE
                 clear aE hE
                 go_light
                 go_wp2_with fail
                 refine(ref19_decimal ng y1 _ [] F1 (P+1-(n:Int)) (by omega) (by omega) (by omega) _ p1).mono ?_
                 rintro e w162 ⟨rfl,hb162⟩
                 replace k2:=k2.below hb162 k2.lt
                 replace hb0:=hb0.trans (hb162.mono hb0.size)
                 replace o1:=o1.below hb162
                 replace p1:=p1.below hb162
                 replace u1:=u1.below hb162
                 clear hb162
                 obtain⟨k2c0,k2c1,k2c2,k2z,k2f0,k2f1,k2f2⟩:=k2.b3
                 go_wp2
                 refine HE.out _ _ (HQ.out _ _ ?_)
                 refine bodyPost_ret (v:=.tuple #[.agg #[.bool ng,.string ⟨(mkD (Lib.decDigits F1) (P+1-(n:Int))).1.toArray⟩,.int .i64 (mkD (Lib.decDigits F1) (P+1-(n:Int))).2],.bool true,.int .i64 0]) ?_ rfl ⟨rfl,(bel3 hb0 (w.heap.size+1) (by simp))⟩
                 refine results_cell_tmp2 rfl _ _ (w.heap.size+1) _ _ _ _ _ _ ?_ ?_ ?_ (((k2.set_ 0 _).set_ 1 _).set_ 2 _) Tryz.underlying26 rfl (by kernel_rfl)
                 · rfl
                 · rfl
                 · rfl
               · have hc:decide (0<cmpV R1 F1)=false:=by rw[decide_eq_false_iff_not];exact fun h=>hM (cmpV_gt.1 h)
                 have hstep:=HS4.out
                 have hmx:max C1 (min F1 R1)=R1:=by have:=HFC.out;omega
                 rw[hmx] at hstep
                 have hr:RES=some (R1,P+1-(n:Int)):=hstep.symm
                 subst hr
                 clear HS4 hstep hmx HFC hL HL hM
                 go_upto_region 30 with fail
                 rename_i KE aE
                 have hE:∀(a:Act) (w':World),QQ Exit.ret a w'→KE a w':=fun a w' h=>aE a w' (wp_ret h)
                 have HE:=Lib.hid hE
                 clear aE hE
                 go_light
                 go_wp2_with fail
                 refine(ref19_decimal ng i1 _ [] R1 (P+1-(n:Int)) (by omega) (by omega) (by omega) _ u1).mono ?_
                 rintro e w162 ⟨rfl,hb162⟩
                 replace k2:=k2.below hb162 k2.lt
                 replace hb0:=hb0.trans (hb162.mono hb0.size)
                 replace o1:=o1.below hb162
                 replace p1:=p1.below hb162
                 replace u1:=u1.below hb162
                 clear hb162
                 obtain⟨k2c0,k2c1,k2c2,k2z,k2f0,k2f1,k2f2⟩:=k2.b3
                 go_wp2
                 refine HE.out _ _ (HQ.out _ _ ?_)
                 refine bodyPost_ret (v:=.tuple #[.agg #[.bool ng,.string ⟨(mkD (Lib.decDigits R1) (P+1-(n:Int))).1.toArray⟩,.int .i64 (mkD (Lib.decDigits R1) (P+1-(n:Int))).2],.bool true,.int .i64 0]) ?_ rfl ⟨rfl,(bel3 hb0 (w.heap.size+1) (by simp))⟩
                 refine results_cell_tmp2 rfl _ _ (w.heap.size+1) _ _ _ _ _ _ ?_ ?_ ?_ (((k2.set_ 0 _).set_ 1 _).set_ 2 _) Tryz.underlying26 rfl (by kernel_rfl)
                 · rfl
                 · rfl
                 · rfl
           · rename (Exit→Act→World→Prop)=>QQ
             have hQQ:∀(a:Act) (w':World),bodyPost Tryz.prog Tryz.f9 (Says w (digV ng RES)) Exit.ret a w'→QQ Exit.ret a w':=fun a w' h=>h
             clear_value QQ
             have HQ:=Lib.hid hQQ
             clear hQQ
             have hstep:=HS3.out
             rw[if_neg hR] at hstep
             have hr:RES=none:=hstep.symm
             subst hr
             have hc:(cmpV R1 R2 !=0)=true:=by rw[bne_iff_ne];exact fun h=>hR (cmpV_eq.1 h)
             clear HS3 hstep hR
             go_upto_region 25 with fail
             rename_i KE aE
             have hE:∀(a:Act) (w':World),QQ Exit.ret a w'→KE a w':=fun a w' h=>aE a w' (wp_ret h)
             have HE:=Lib.hid hE
             clear aE hE
             go_light
             obtain⟨k2c0,k2c1,k2c2,k2z,k2f0,k2f1,k2f2⟩:=k2.b3
             go_wp2
             refine HE.out _ _ (HQ.out _ _ ?_)
             refine bodyPost_ret (v:=.tuple #[.agg #[.bool false,.string ⟨#[]⟩,.int .i64 0],.bool false,.int .i64 0]) ?_ rfl ⟨rfl,(bel3 hb0 (w.heap.size+1) (by simp))⟩
             refine results_cell_tmp2 rfl _ _ (w.heap.size+1) _ _ _ _ _ _ ?_ ?_ ?_ (((k2.set_ 0 _).set_ 1 _).set_ 2 _) Tryz.underlying26 rfl (by kernel_rfl)
             · rfl
             · rfl
             · rfl
       · rename (Exit→Act→World→Prop)=>QQ
         have hQQ:∀(a:Act) (w':World),bodyPost Tryz.prog Tryz.f9 (Says w (digV ng RES)) Exit.ret a w'→QQ Exit.ret a w':=fun a w' h=>h
         clear_value QQ
         have HQ:=Lib.hid hQQ
         clear hQQ
         have hstep:=HS.out
         rw[if_neg (fun h=>hF h.2)] at hstep
         have hr:RES=none:=hstep.symm
         subst hr
         have hc:(cmpV F1 F2 !=0)=true:=by rw[bne_iff_ne];exact fun h=>hF (cmpV_eq.1 h)
         clear HS hstep hF
         go_upto_region 21 with fail
         rename_i KE aE
         have hE:∀(a:Act) (w':World),QQ Exit.ret a w'→KE a w':=fun a w' h=>aE a w' (wp_ret h)
         have HE:=Lib.hid hE
         clear aE hE
         go_light
         obtain⟨k2c0,k2c1,k2c2,k2z,k2f0,k2f1,k2f2⟩:=k2.b3
         go_wp2
         refine HE.out _ _ (HQ.out _ _ ?_)
         refine bodyPost_ret (v:=.tuple #[.agg #[.bool false,.string ⟨#[]⟩,.int .i64 0],.bool false,.int .i64 0]) ?_ rfl ⟨rfl,(bel3 hb0 (w.heap.size+1) (by simp))⟩
         refine results_cell_tmp2 rfl _ _ (w.heap.size+1) _ _ _ _ _ _ ?_ ?_ ?_ (((k2.set_ 0 _).set_ 1 _).set_ 2 _) Tryz.underlying26 rfl (by kernel_rfl)
         · rfl
         · rfl
         · rfl
     · rename (Exit→Act→World→Prop)=>QQ
       have hQQ:∀(a:Act) (w':World),bodyPost Tryz.prog Tryz.f9 (Says w (digV ng RES)) Exit.ret a w'→QQ Exit.ret a w':=fun a w' h=>h
       clear_value QQ
       have HQ:=Lib.hid hQQ
       clear hQQ
       have hstep:=HS.out
       rw[if_neg (fun h=>hC h.1)] at hstep
       have hr:RES=none:=hstep.symm
       subst hr
       have hc:(cmpV C1 C2 !=0)=true:=by rw[bne_iff_ne];exact fun h=>hC (cmpV_eq.1 h)
       clear HS hstep hC
       go_upto_region 21 with fail
       rename_i KE aE
       have hE:∀(a:Act) (w':World),QQ Exit.ret a w'→KE a w':=fun a w' h=>aE a w' (wp_ret h)
       have HE:=Lib.hid hE
       clear aE hE
       go_light
       obtain⟨k2c0,k2c1,k2c2,k2z,k2f0,k2f1,k2f2⟩:=k2.b3
       go_wp2
       refine HE.out _ _ (HQ.out _ _ ?_)
       refine bodyPost_ret (v:=.tuple #[.agg #[.bool false,.string ⟨#[]⟩,.int .i64 0],.bool false,.int .i64 0]) ?_ rfl ⟨rfl,(bel3 hb0 (w.heap.size+1) (by simp))⟩
       refine results_cell_tmp2 rfl _ _ (w.heap.size+1) _ _ _ _ _ _ ?_ ?_ ?_ (((k2.set_ 0 _).set_ 1 _).set_ 2 _) Tryz.underlying26 rfl (by kernel_rfl)
       · rfl
       · rfl
       · rfl
   · obtain rfl:n=18:=by omega
     have hr:RES=none:=hdg.symm
     subst hr
     clear hdg HFT HEL HEH HEV HSM HRD HRES HT0
     go_upto_region 31 with fail
     rename_i KE aE
     have hE:∀(a:Act) (w':World),bodyPost Tryz.prog Tryz.f9 (Says w (digV ng none)) Exit.ret a w'→KE a w':=fun a w' h=>aE a w' (wp_ret h)
     have HE:=Lib.hid hE
     clear aE hE
     go_light
     obtain⟨k2c0,k2c1,k2c2,k2z,k2f0,k2f1,k2f2⟩:=k2.b3
     go_wp2
     refine HE.out _ _ ?_
     refine bodyPost_ret (v:=.tuple #[.agg #[.bool false,.string ⟨#[]⟩,.int .i64 0],.bool false,.int .i64 0]) ?_ rfl ⟨rfl,(bel3 hb0 (w.heap.size+1) (by simp))⟩
     refine results_cell_tmp2 rfl _ _ (w.heap.size+1) _ _ _ _ _ _ ?_ ?_ ?_ (((k2.set_ 0 _).set_ 1 _).set_ 2 _) Tryz.underlying26 rfl (by kernel_rfl)
     · rfl
     · rfl
     · rfl
end Bg
end Go.Proofs.YtenekbfnlbipiaaGreatDoor
