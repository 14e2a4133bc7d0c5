/- Walks: nat.Div, of a divisor of two limbs or more. -/
import Derived.Test.YtenekbfnlbipiaaGreatDoorBgG
import Derived.Test.YtenekbfnlbipiaaGreatDoorBgAB
import Derived.Test.YtenekbfnlbipiaaGreatDoorBgB
import Derived.Test.YtenekbfnlbipiaaGreatDoorUp
import Derived.Deep.DeepCutAuto
import Derived.WalkMore
import Derived.Deep.CutBlock
import Derived.Test.YtenekbfnlbipiaaGreatDoorM
namespace Go.Proofs.YtenekbfnlbipiaaGreatDoor
open Go.RowKit
set_option linter.unusedVariables false
set_option linter.unusedSimpArgs false
set_option maxHeartbeats 4000000
set_option maxRecDepth 100000

def DivAns (w:World) (r:List Nat × List Nat × Int) (e:Ending) (w':World):Prop:=
 ∃A c A' c',e=.returned (.tuple #[.agg #[.slice A r.1.length c],.agg #[.slice A' r.2.1.length c'],.int .i64 r.2.2])∧Own w' 153 w.heap.size A c r.1∧Own w' 153 w.heap.size A' c' r.2.1∧Below w.heap.size w w'
def divS (a b:List Nat):List Nat × List Nat × Int:=if chk2 a b=0 then if val b=0 then ([],[],11) else (limbs (val a/val b),limbs (val a%val b),0) else ([],[],chk2 a b)

theorem trimmed_at (g:Nat) (l:List Nat) (n c:Nat) (B:Nat) (hn:n=l.length) (hc:n≤c) (w:World) (h:Row w 153 g l) (hs:Sm l) (hl:l.length≤1000000) (hB:B≤g) (v:Nat) (hv:val l=v):
 Calls Tryz.prog 182 #[.slice (some ⟨g,0,none⟩) n c] w fun e w'=>∃A c,e=.returned (.agg #[.slice A (limbs v).length c])∧Own w' 153 B A c (limbs v)∧(A=none∨A=some ⟨g,0,none⟩)∧Below w.heap.size w w':=by
 subst hv
 exact nat_trimmed_own g l n c B hn hc w h hs (by omega) hB

def DvRel (w3:World) (gx go n K X0 Y:Nat) (v:Value) (wr:World):Prop:=
 ∃(k:Nat) (xs outs:List Nat),k≤K+1∧v=.int .i64 ((k:Int)-1)∧xs.length=K+n+1∧Sm xs∧outs.length=K+1∧Sm outs∧(∀t,t<k→nth outs t=0)∧
  X0=val xs+4294967296^k*(Y*val (outs.drop k))∧val xs<4294967296^k*Y∧Row wr 153 gx xs∧Row wr 153 go outs∧Below w3.heap.size w3 wr

def DvSub (w3:World) (gx go n K j g:Nat) (xs ys outs:List Nat) (v20 v21 v185:Value) (wr:World):Prop:=
 ∃(i c l:Nat) (x2:List Nat),i≤n∧v20=.int .u64 (c:Int)∧v21=.int .u32 (l:Int)∧v185=.int .i64 (i:Int)∧c<4294967296∧l≤1∧x2.length=K+n+1∧Sm x2∧(∀t,j+n<t→nth x2 t=0)∧
  val x2+4294967296^j*(g*val (ys.take i))=val xs+4294967296^(j+i)*(c+l)∧Row wr 153 gx x2∧Row wr 153 go outs∧Below w3.heap.size w3 wr
def DvAdd (w3:World) (gx go n K j:Nat) (x3 ys outs:List Nat) (v21 v233:Value) (wr:World):Prop:=
 ∃(i c:Nat) (x4:List Nat),i≤n∧v21=.int .u32 (c:Int)∧v233=.int .i64 (i:Int)∧c≤1∧x4.length=K+n+1∧Sm x4∧(∀t,j+n<t→nth x4 t=0)∧
  val x4+4294967296^(j+i)*c=val x3+4294967296^j*val (ys.take i)∧Row wr 153 gx x4∧Row wr 153 go outs∧Below w3.heap.size w3 wr

theorem nat_Div_big (A B:Option Addr) (a b:List Nat) (n m c d K:Nat) (hn:n=b.length) (hm:m=a.length) (hK:m=K+n) (h2:2≤n) (hz:chk2 a b=0) (hge:val b≤val a) (w:World) (ha:Rd w A a) (hb:Rd w B b):
 Calls Tryz.prog 133 #[.agg #[.slice A m c],.agg #[.slice B n d]] w (DivAns w (divS a b)):=by
 have hl1:m≤16384:=by rw[hm];exact(chk_zero (chk2_zero hz).1).1
 have hl2:n≤16384:=by rw[hn];exact(chk_zero (chk2_zero hz).2).1
 have hlast:=(chk_zero (chk2_zero hz).2).2
 have hcmp:decide (cmpL a b<0)=false:=by
  rw[decide_eq_false_iff_not,cmpL_canon ha.sm hb.sm (chk_zero (chk2_zero hz).1).2 hlast]
  unfold cmpV
  rw[if_neg (by omega)]
  split <;> decide
 have htop:nth b (n-1)≠0:=by
  have:=last_nth (l:=b) (by intro e;rw[e] at hn;simp at hn;omega)
  rw[←hn] at this
  rw[this] at hlast
  intro e;rw[e] at hlast;exact hlast rfl
 have hbv:4294967296^(n-1)≤val b:=by
  have:=val_pos_of_last (l:=b) (by intro e;rw[e] at hn;simp at hn;omega) hlast
  rw[←hn] at this;exact this
 have hv0:val b≠0:=by have:=pow_pos' (n-1);omega
 have hans:divS a b=(limbs (val a/val b),limbs (val a%val b),0):=by
  unfold divS;rw[if_pos hz,if_neg hv0]
 rw[hans]
 have hAl:=val_lt ha.sm
 rw[←hm] at hAl
 obtain⟨s,hs⟩:∃s,s=32-bitLen (nth b (n-1)):=⟨_,rfl⟩
 have hbl7:bitLen (nth b (n-1))≤32:=bitLen_le (hb.sm.nth _)
 have hsI:(32-(bitLen (((nth b (n-1):Nat):Int)).toNat:Int))=(s:Int):=by rw[Int.toNat_natCast];omega
 have htb:=hb.sm.nth (n-1)
 have hs32:s<32:=by have:=(bitLen_low htop).2.2;omega
 have hK16:K≤16384:=by omega
 have HS:=Lib.hid hs
 have HSI:=Lib.hid hsI
 have HN:=Lib.hid hn
 have HM:=Lib.hid hm
 have HZ:=Lib.hid hz
 have HK:=Lib.hid hK
 have HTOP:=Lib.hid htop
 have n0:((n:Int)==0)=false:=by rw[beq_eq_false_iff_ne];omega
 have n1:((n:Int)==1)=false:=by rw[beq_eq_false_iff_ne];omega
 have ha2:=((((ha.alloc (Obj.cells #[Value.slice A m c] 67)).alloc (Obj.cells #[Value.slice B n d] 67)).alloc (Obj.cells #[Value.slice none 0 0] 67)).alloc (Obj.cells #[Value.slice none 0 0] 67)).alloc (Obj.cells #[Value.slice A m c,Value.slice B n d] 67)
 have hb2:=((((hb.alloc (Obj.cells #[Value.slice A m c] 67)).alloc (Obj.cells #[Value.slice B n d] 67)).alloc (Obj.cells #[Value.slice none 0 0] 67)).alloc (Obj.cells #[Value.slice none 0 0] 67)).alloc (Obj.cells #[Value.slice A m c,Value.slice B n d] 67)
 clear hs hsI hn hm hz hK htop hlast hans hbl7
 go_enter Tryz.func133,Tryz.ntmps133
 go_wp2_with fail
 go_step3
 go_wp2_with fail
 refine(nat_checks _ A B a b _ _ c d HM.out HN.out _ ha2 hb2 (by simp[go_sem]) (by simp[go_sem])).mono ?_
 rintro e w1 ⟨rfl,hb1⟩
 rw[HZ.out]
 obtain⟨hc1,hf1⟩:=bcell hb1
 have hbw1:Below w.heap.size w w1:=Below.trans (b:=_) bbel (hb1.mono (by go_size))
 have hz1_0:w.heap.size<w1.heap.size:=by have:=hb1.size;simp at this;omega
 have hz1_1:w.heap.size+1<w1.heap.size:=by have:=hb1.size;simp at this;omega
 have hz1_2:w.heap.size+2<w1.heap.size:=by have:=hb1.size;simp at this;omega
 have hz1_3:w.heap.size+3<w1.heap.size:=by have:=hb1.size;simp at this;omega
 have hz1_4:w.heap.size+4<w1.heap.size:=by have:=hb1.size;simp at this;omega
 have ha1:=ha2.below hb1
 have hb1r:=hb2.below hb1
 clear ha2 hb2
 go_wp2_with fail
 refine(nat_cmp A B a b _ _ c d HM.out HN.out _ ha1 hb1r).mono ?_
 rintro e w2 ⟨rfl,hb2⟩
 have hbw2:=hbw1.trans (hb2.mono hbw1.size)
 have hz2:=hb2.size
 have c0:w2.cell? ⟨w.heap.size,0,none⟩=some (Value.slice A m c):=by rw[below_cell hb2 (by omega),hc1 _ _ (by go_size)];simp[go_sem]
 have c1:w2.cell? ⟨w.heap.size+1,0,none⟩=some (Value.slice B n d):=by rw[below_cell hb2 (by omega),hc1 _ _ (by go_size)];simp[go_sem]
 have c2:w2.cell? ⟨w.heap.size+2,0,none⟩=some (Value.slice none 0 0):=by rw[below_cell hb2 (by omega),hc1 _ _ (by go_size)];simp[go_sem]
 have c3:w2.cell? ⟨w.heap.size+3,0,none⟩=some (Value.slice none 0 0):=by rw[below_cell hb2 (by omega),hc1 _ _ (by go_size)];simp[go_sem]
 have f2:w2.frozen? ⟨w.heap.size+2,0,none⟩=false:=by rw[below_frozen hb2 (by omega),hf1 _ _ (by go_size)];simp[go_sem]
 have f3:w2.frozen? ⟨w.heap.size+3,0,none⟩=false:=by rw[below_frozen hb2 (by omega),hf1 _ _ (by go_size)];simp[go_sem]
 have z3:w.heap.size+3<w2.heap.size:=by omega
 have z1:w.heap.size+1<w2.heap.size:=by omega
 have z0:w.heap.size<w2.heap.size:=by omega
 have ha2:=ha1.below hb2
 have hb2r:=hb1r.below hb2
 clear hc1 hf1 hb1 hb2 ha1 hb1r hz1_0 hz1_1 hz1_2 hz1_3 hz1_4 hbw1
 obtain⟨bb,ob,rfl,hcb⟩:=rd_at hb2r (Below.refl _ _) (k:=n-1) (by have:=HN.out;omega)
 go_wp2_with fail
 refine(bits_LeadingZeros32 _ _ (by omega) (by omega)).mono ?_
 rintro e w2' ⟨rfl,rfl⟩
 rw[HSI.out]
 clear hcb
 go_wp2_with fail
 refine(nat_shifted _ b n d HN.out (s:Int) s rfl hs32 (by have:=HN.out;omega) _ hb2r).mono ?_
 rintro e w3 ⟨oy,gy,⟨hly,hvy⟩,hsy,hgy,hry,rfl,hb3⟩
 have hly':oy.length=n+1:=by have:=HN.out;omega
 rw[hly']
 have HLY:=Lib.hid hly'
 have HVY:=Lib.hid hvy
 have ha3:=ha2.below hb3
 have hbw3:=hbw2.trans (hb3.mono hbw2.size)
 have hz3:=hb3.size
 have e0:=cell_keep hb3 c0
 have e2:=cell_keep hb3 c2
 have e3:=cell_keep hb3 c3
 have g2:=(below_frozen hb3 (b:=w.heap.size+2) (o:=0) (by omega)).trans f2
 have g3:=(below_frozen hb3 (b:=w.heap.size+3) (o:=0) (by omega)).trans f3
 have y3:w.heap.size+3<w3.heap.size:=by omega
 have y0:w.heap.size<w3.heap.size:=by omega
 clear hly hly' hvy ha2 hb2r c0 c1 c2 c3 f2 f3 z3 z1 z0 hb3 hz2 hz3 hbw2
 have i1:(n:Int)≤(n:Int)+1:=by omega
 go_wp2_with fail
 refine(nat_shifted A a m c HM.out (s:Int) s rfl hs32 (by have:=HM.out;omega) _ ha3).mono ?_
 rintro e w4 ⟨ox,gx,⟨hlx,hvx⟩,hsx,hgx,hrx,rfl,hb4⟩
 have hlx':ox.length=K+n+1:=by have:=HM.out;have:=HK.out;omega
 rw[hlx']
 have HLX:=Lib.hid hlx'
 have HVX:=Lib.hid hvx
 have hbw4:=hbw3.trans (hb4.mono hbw3.size)
 have hry4:=hry.below hb4 hry.lt
 have hz4:=hb4.size
 have hmk:=fun W=>mk32 (K+1) ((K:Int)+(n:Int)+1-(n:Int)) (by omega) (by omega) W
 clear hlx hlx' hvx i1
 go_wp2_with fail
 go_step3
 obtain⟨ys,hys⟩:∃ys,ys=oy.take n:=⟨_,rfl⟩
 obtain⟨Y,hYd⟩:∃Y,Y=val b*2^s:=⟨_,rfl⟩
 obtain⟨X0,hX0d⟩:∃X0,X0=val a*2^s:=⟨_,rfl⟩
 have hnorm:=dv_norm hb.sm HN.out.symm h2 HTOP.out HS.out HLY.out hsy HVY.out
 rw[←hYd, ←hys] at hnorm
 have hst:=dv_start (s:=s) hAl HK.out hbv h2
 rw[←hYd, ←hX0d] at hst
 have HYS:=Lib.hid hys
 have HYD:=Lib.hid hYd
 have HX0:=Lib.hid hX0d
 have hsys:Sm ys:=by rw[hys];exact hsy.take n
 have HYL:Hid (ys.length=n):=by show ys.length=n;rw[hys,List.length_take,HLY.out];omega
 have HYV:Hid (val ys=Y):=hnorm.2.1
 have hyt:2147483648≤nth ys (n-1):=by rw[hys,nth_take (by omega)];exact hnorm.2.2.1
 have hytb:=hsys.nth (n-1)
 have hyc:∀(wr:World),Below w3.heap.size w3 wr→∀i,i<n→wr.cell? ⟨gy,i,none⟩=some (.int .u32 ((nth ys i:Nat):Int)):=by
  intro wr hbb i hi
  rw[hys,nth_take hi]
  exact(hry.below hbb hry.lt).cell i (by rw[HLY.out];omega)
 have HYC:=Lib.hid hyc
 clear hyc hYd hX0d hys hnorm hry hmk
 have hne:w4.heap.size≠gx:=by have:=hrx.lt;omega
 go_wp2_with fail
 go_loopw [15] (fun v wr=>DvRel w3 gx w4.heap.size n K X0 Y v wr) (fun v _=>(intOf v+1).toNat)
 case atStart=>
  exact⟨K+1,ox,List.replicate (K+1) 0,Nat.le_refl _,vi (by omega),HLX.out,hsx,List.length_replicate,Sm.replicate _,fun j _=>nth_replicate _ _,dv_at0 (HX0.out.trans HVX.out.symm) (Nat.le_of_eq List.length_replicate),dv_lt0 (HX0.out.trans HVX.out.symm) hst,hrx.alloc _,row_new rfl rfl,hb4.alloc hz4 _⟩
 case round=>
  clear hcmp hbv hv0 htb hsy hsx ha3 hAl hst hrx hb hry4 hb4
  obtain⟨wo,rfl⟩:∃wo:World,wo=wr:=⟨_,rfl⟩
  obtain⟨k,xs,outs,hk,hv15,hxl,hxs,hol,hos,hoz,hX,hxY,hrow,hrout,hbl⟩:=hrel
  have HXL:=Lib.hid hxl
  have HOL:=Lib.hid hol
  have HOZ:=Lib.hid hoz
  have HX:=Lib.hid hX
  have HXY:=Lib.hid hxY
  clear hxl hol hoz hX hxY
  by_cases hk0:k=0
  · subst hk0
    subst hv15
    have hfin:=dv_fin (n:=n) HX0.out HYD.out HX.out HXY.out hxs (by rw[←HYV.out, ←HYL.out];exact val_lt hsys)
    obtain⟨hfo,hfx⟩:=hfin
    have HFO:=Lib.hid hfo
    have HFX:=Lib.hid hfx
    have HXT:Hid ((xs.take n).length=n):=by show(xs.take n).length=n;rw[List.length_take,HXL.out];omega
    have hO:Row wo.drew 153 w4.heap.size outs:=hrout
    have hR:Rd wo.drew (some ⟨gx,0,none⟩) (xs.take n):=by
     have:=hrow.rd hxs (by rw[HXL.out];omega) 0 n (by rw[HXL.out];omega) _ rfl
     rw[List.drop_zero] at this
     exact this
    have hB:Below w.heap.size w wo.drew:=(hbw3.trans (hbl.mono hbw3.size)).drew
    have hbd:Below w3.heap.size w3 wo.drew:=hbl.drew
    have k2:wo.drew.cell? ⟨w.heap.size+2,0,none⟩=some (Value.slice none 0 0):=cell_keep hbd e2
    have k3:wo.drew.cell? ⟨w.heap.size+3,0,none⟩=some (Value.slice none 0 0):=cell_keep hbd e3
    have m2:wo.drew.frozen? ⟨w.heap.size+2,0,none⟩=false:=(below_frozen hbd (by omega)).trans g2
    have m3:wo.drew.frozen? ⟨w.heap.size+3,0,none⟩=false:=(below_frozen hbd (by omega)).trans g3
    have hz:w4.heap.size<wo.drew.heap.size:=hrout.lt
    have i1:(n:Int)≤(K:Int)+(n:Int)+1:=by omega
    have hn16:n≤1000000:=by omega
    have hou16:outs.length≤1000000:=by rw[HOL.out];omega
    have hxt16:(xs.take n).length≤1000000:=by rw[HXT.out];omega
    clear hfo hfx hrow hrout hbl e0 e2 e3 g2 g3 hbd
    go_wp2_with fail
    go_region_held3 (fun w'=>True) (exact trivial)
     (first
      |(go_at_call 182;(with_reducible refine(trimmed_at gl ol ol.length ol.length w4.heap.size rfl nrf _ hL hls hol16 hgl (val a%val b) HLV.out).mono ?_);rintro e wc ⟨Ar,cr,rfl,hr,_,hbc⟩;have hO:=hO.below hbc hO.lt;have hR:=hR.below hbc;have hB:=hB.trans (hbc.mono hB.size);have m2:=(below_frozen hbc (b:=w.heap.size+2) (o:=0) (cell_lt k2)).trans m2;have m3:=(below_frozen hbc (b:=w.heap.size+3) (o:=0) (cell_lt k3)).trans m3;have k2:=cell_keep hbc k2;have k3:=cell_keep hbc k3;have hz:=Nat.lt_of_lt_of_le hz hbc.size;try (have hq:=hq.below hbc nrf))
      |(go_at_call 182;(with_reducible refine(trimmed_at w4.heap.size outs _ _ w4.heap.size HOL.out.symm nrf _ hO hos hou16 nrf (val a/val b) HFO.out).mono ?_);rintro e wa ⟨Aq,cq,rfl,hq,_,hba⟩;have hO:=hO.below hba hO.lt;have hR:=hR.below hba;have hB:=hB.trans (hba.mono hB.size);have m2:=(below_frozen hba (b:=w.heap.size+2) (o:=0) (cell_lt k2)).trans m2;have m3:=(below_frozen hba (b:=w.heap.size+3) (o:=0) (cell_lt k3)).trans m3;have k2:=cell_keep hba k2;have k3:=cell_keep hba k3;have hz:=Nat.lt_of_lt_of_le hz hba.size;try (have hL:=hL.below hba hL.lt);try (have hr:=hr.below hba nrf))
      |(go_at_call 189;(with_reducible refine(nat_lowered (some ⟨gx,0,none⟩) (xs.take n) n n HXT.out.symm (s:Int) s rfl hs32 hxt16 _ hR).mono ?_);rintro e wb ⟨ol,gl,⟨hll,hlv⟩,hls,hlg,hL,rfl,hbb⟩;have hgl:=Nat.le_trans (Nat.le_of_lt hz) hlg;have hol16:=Nat.le_trans (Nat.le_of_eq (hll.trans HXT.out)) hn16;have HLL:=Lib.hid hll;have HLV:=Lib.hid (hlv.trans HFX.out);clear hll hlv;have hO:=hO.below hbb hO.lt;have hR:=hR.below hbb;have hB:=hB.trans (hbb.mono hB.size);have m2:=(below_frozen hbb (b:=w.heap.size+2) (o:=0) (cell_lt k2)).trans m2;have m3:=(below_frozen hbb (b:=w.heap.size+3) (o:=0) (cell_lt k3)).trans m3;have k2:=cell_keep hbb k2;have k3:=cell_keep hbb k3;have hz:=Nat.lt_of_lt_of_le hz hbb.size;try (have hq:=hq.below hbb nrf)))
    all_goals (
     have hz2:w.heap.size+2<w4.heap.size:=by omega
     have hz3:w.heap.size+3<w4.heap.size:=by omega
     have l2:=cell_lt k2
     have l3:=cell_lt k3
     simp only at l2 l3
     go_wp2
     (try simp only[Exit.inBlock,Exit.then]);refine bodyPost_ret (by simp (maxDischargeDepth:=9) [results,Tryz.results133,go_sem,k2,k3,l2,l3];try rfl) rfl ?_
     exact⟨Aq,cq,Ar,cr,rfl,((hq.setCell hz2 _).setCell hz3 _).mono (by omega),((hr.setCell hz2 _).setCell hz3 _).mono (by omega),(hB.setCell (p:=⟨w.heap.size+2,0,none⟩) (Nat.le_add_right _ _) _).setCell (p:=⟨w.heap.size+3,0,none⟩) (Nat.le_add_right _ _) _⟩)
  · obtain⟨j,rfl⟩:∃j,k=j+1:=⟨k-1,by omega⟩
    have hv15':=hv15.trans (vi (b:=(j:Int)) (by omega))
    clear hv15
    subst hv15'
    have hyn1:=HYC.out _ hbl (n-1) (by omega)
    have hyn2:=HYC.out _ hbl (n-2) (by omega)
    have hxn:=hrow.cell (j+n) (by rw[HXL.out];omega)
    have hxn1:=hrow.cell (j+(n-1)) (by rw[HXL.out];omega)
    have hxn2:=hrow.cell (j+(n-2)) (by rw[HXL.out];omega)
    have bx0:=hxs.nth (j+n)
    have bx1:=hxs.nth (j+(n-1))
    have bx2:=hxs.nth (j+(n-2))
    have by2:=hsys.nth (n-2)
    have hor:=low_or (nth xs (j+n)) (nth xs (j+(n-1))) bx1 bx0
    have i1:(j:Int)≤(K:Int):=by omega
    have i2:j+n+1-j=n+1:=by omega
    obtain⟨T,hT⟩:∃T,T=nth xs (j+n)*4294967296+nth xs (j+(n-1)):=⟨_,rfl⟩
    rw[←hT] at hor
    have HT:=Lib.hid hT
    clear hT
    obtain⟨D,hxz,hP1,hP2,hYn,hYN⟩:=dv_at hxs HXL.out (by omega) h2 hsys HYL.out HYV.out hyt HXY.out
    rw[←HT.out] at D
    obtain⟨P,hP⟩:∃P,P=val (xs.drop j):=⟨_,rfl⟩
    rw[←hP] at D hP1 hP2
    obtain⟨hg1,hg2,hg3,hg4⟩:=D.start
    obtain⟨g0,hg0⟩:∃g0,g0=T/nth ys (n-1):=⟨_,rfl⟩
    obtain⟨r0,hr0⟩:∃r0,r0=T%nth ys (n-1):=⟨_,rfl⟩
    rw[←hg0] at hg1 hg2 hg4
    rw[←hr0] at hg1 hg3
    have q1:(T:Int).tdiv ((nth ys (n-1):Nat):Int)=(g0:Int):=by rw[hg0];rfl
    have q2:(T:Int).tmod ((nth ys (n-1):Nat):Int)=(r0:Int):=by rw[hr0];rfl
    have q3:(T:Int)/((nth ys (n-1):Nat):Int)=(g0:Int):=by rw[hg0];rfl
    have q4:(T:Int)%((nth ys (n-1):Nat):Int)=(r0:Int):=by rw[hr0];rfl
    have q5:¬nth ys (n-1)=0:=by omega
    have q6:((nth ys (n-1):Nat):Int)≠0:=by omega
    have q7:T<18446744073709551616:=by have:=HT.out;omega
    have HD:=Lib.hid D
    have HXZ:=Lib.hid hxz
    have HP1:=Lib.hid hP1
    have HP2:=Lib.hid hP2
    have HYN:=Lib.hid hYN
    have HYn:=Lib.hid hYn
    have HG1:=Lib.hid hg1
    have HG2:=Lib.hid hg2
    clear D hxz hP1 hP2 hYN hYn hg1 hg2 hP hg0 hr0
    clear i2
    go_wp2_with fail
    rw[show j+n+1-j=n+1 from by omega]
    go_quiet (fail)
    go_wp2_with fail
    go_quiet (fail)
    go_upto_block 3 with fail
    go_cut [18,19] (fun v18 v19 wx=>∃g r:Nat,v18=.int .u64 (g:Int)∧v19=.int .u64 (r:Int)∧g<4294967296∧P<(g+1)*Y∧(0<g→(g-1)*Y≤P)∧Row wx 153 gx xs∧Row wx 153 w4.heap.size outs∧Below w3.heap.size w3 wx)
    case first=>
     go_wp2_with fail
     go_loopw [18,19] (fun v18 v19 wr=>∃g r:Nat,v18=.int .u64 (g:Int)∧v19=.int .u64 (r:Int)∧g*nth ys (n-1)+r=T∧P<(g+1)*Y∧r<4294967296∧g<8589934592∧Row wr 153 gx xs∧Row wr 153 w4.heap.size outs∧Below w3.heap.size w3 wr) (fun v _ _=>(intOf v).toNat)
     case atStart=>exact⟨g0,r0,rfl,rfl,HG1.out,HG2.out,hg3,hg4,(hrow.drewN _).drewN _,(hrout.drewN _).drewN _,bdn (bdn hbl _) _⟩
     case round=>
      clear hxn hxn1 hxn2 hyn1 hyn2 hrow hrout hbl hor
      obtain⟨g,r,rfl,rfl,hd1,hd2,hd3,hd4,hrowr,hroutr,hblr⟩:=hrel
      have hyn1:=HYC.out _ hblr (n-1) (by omega)
      have hyn2:=HYC.out _ hblr (n-2) (by omega)
      have hxn2:=hrowr.cell (j+(n-2)) (by rw[HXL.out];omega)
      have H1:=Lib.hid hd1
      have H2:=Lib.hid hd2
      have HDg:=HD
      clear hd1 hd2 HD q1 q2 q3 q4
      by_cases hgb:4294967296≤g
      · have t1:((g:Int)/4294967296 !=0)=true:=by rw[bne_iff_ne];omega
        have HM1:Hid (4294967296≤g∨r*4294967296+nth xs (j+(n-2))<g*nth ys (n-2)):=Or.inl hgb
        have less:=HDg.out.less H1.out HM1.out
        obtain⟨g1,hg1⟩:∃g1,g1=g-1:=⟨_,rfl⟩
        rw[←hg1] at less
        have e6:(g:Int)-1=(g1:Int):=by have:=less.2.2;omega
        have hg1b:g1<8589934592:=by omega
        obtain⟨r2,hr2⟩:∃r2,r2=r+nth ys (n-1):=⟨_,rfl⟩
        have e5:(r:Int)+((nth ys (n-1):Nat):Int)=(r2:Int):=by omega
        rw[←hr2] at less
        have hr33:r2<8589934592:=by omega
        have hmea:g1<g:=by have:=less.2.2;omega
        have HMEA:=Lib.hid hmea
        have L1:=Lib.hid less.1
        have L2:=Lib.hid less.2.1
        clear less hr2 hg1 hmea
        by_cases hbr:4294967296≤r2
        · have t5:((r2:Int)/4294967296 !=0)=true:=by rw[bne_iff_ne];omega
          have bk:=HDg.out.broke L1.out hbr
          have BK1:=bk.1
          have BK2:=Lib.hid bk.2
          clear bk
          go_wp2_with fail
          go_quiet (fail)
          go_wp2_with fail
          go_meet
          exact⟨g1,r2,rfl,rfl,BK1,L2.out,BK2.out,hrowr.drewN _,hroutr.drewN _,bdn hblr _⟩
        · have t5:((r2:Int)/4294967296 !=0)=false:=by rw[bne_eq_false_iff_eq];omega
          go_wp2_with fail
          go_quiet (fail)
          go_wp2_with fail
          go_roundw
          case rel=>exact⟨g1,r2,rfl,rfl,L1.out,L2.out,by omega,by omega,hrowr.drewN _,hroutr.drewN _,bdn hblr _⟩
          case measure=>have:=HMEA.out;first|(simp[intOf];done)|(simp[intOf];omega)
      · have t1:((g:Int)/4294967296 !=0)=false:=by rw[bne_eq_false_iff_eq];omega
        obtain⟨G2,hG2⟩:∃G2,G2=g*nth ys (n-2):=⟨_,rfl⟩
        have e3:(g:Int)*((nth ys (n-2):Nat):Int)=(G2:Int):=by rw[hG2,Int.natCast_mul]
        have hGb:G2<18446744073709551616:=by
         have h1:g*nth ys (n-2)≤4294967295*4294967295:=Nat.mul_le_mul (by omega) (by omega)
         omega
        obtain⟨R2,hR2⟩:∃R2,R2=r*4294967296+nth xs (j+(n-2)):=⟨_,rfl⟩
        have e4:=low_or r (nth xs (j+(n-2))) bx2 hd3
        rw[←hR2] at e4
        by_cases hcm:R2<G2
        · have HM1:Hid (4294967296≤g∨r*4294967296+nth xs (j+(n-2))<g*nth ys (n-2)):=Or.inr (by rw[←hR2, ←hG2];exact hcm)
          have t2:decide ((R2:Int)<(G2:Int))=true:=by rw[decide_eq_true_iff];omega
          clear hG2 hR2
          have less:=HDg.out.less H1.out HM1.out
          obtain⟨g1,hg1⟩:∃g1,g1=g-1:=⟨_,rfl⟩
          rw[←hg1] at less
          have e6:(g:Int)-1=(g1:Int):=by have:=less.2.2;omega
          have hg1b:g1<8589934592:=by omega
          obtain⟨r2,hr2⟩:∃r2,r2=r+nth ys (n-1):=⟨_,rfl⟩
          have e5:(r:Int)+((nth ys (n-1):Nat):Int)=(r2:Int):=by omega
          rw[←hr2] at less
          have hr33:r2<8589934592:=by omega
          have hmea:g1<g:=by have:=less.2.2;omega
          have HMEA:=Lib.hid hmea
          have L1:=Lib.hid less.1
          have L2:=Lib.hid less.2.1
          clear less hr2 hg1 hmea
          by_cases hbr:4294967296≤r2
          · have t5:((r2:Int)/4294967296 !=0)=true:=by rw[bne_iff_ne];omega
            have bk:=HDg.out.broke L1.out hbr
            have BK1:=bk.1
            have BK2:=Lib.hid bk.2
            clear bk
            go_wp2_with fail
            go_quiet (fail)
            go_wp2_with fail
            go_meet
            exact⟨g1,r2,rfl,rfl,BK1,L2.out,BK2.out,hrowr.drewN _,hroutr.drewN _,bdn hblr _⟩
          · have t5:((r2:Int)/4294967296 !=0)=false:=by rw[bne_eq_false_iff_eq];omega
            go_wp2_with fail
            go_quiet (fail)
            go_wp2_with fail
            go_roundw
            case rel=>exact⟨g1,r2,rfl,rfl,L1.out,L2.out,by omega,by omega,hrowr.drewN _,hroutr.drewN _,bdn hblr _⟩
            case measure=>have:=HMEA.out;first|(simp[intOf];done)|(simp[intOf];omega)
        · have t2:decide ((R2:Int)<(G2:Int))=false:=by rw[decide_eq_false_iff_not];omega
          have HEX:Hid (0<g→(g-1)*Y≤P):=fun h0=>HDg.out.exit H1.out (by omega) (by rw[←hG2, ←hR2];exact hcm) h0
          clear hG2 hR2
          go_wp2_with fail
          go_quiet (fail)
          go_wp2_with fail
          go_meet
          exact⟨g,r,rfl,rfl,by omega,H2.out,HEX.out,hrowr.drewN _,hroutr.drewN _,bdn hblr _⟩
    case rest=>
     clear hxn hxn1 hxn2 hyn1 hyn2 hor hrow hrout hbl
     obtain⟨g,r,rfl,rfl,hgB,hgP,hgL,hrow,hrout,hbl⟩:=hcut
     have HGP:=Lib.hid hgP
     have HGL:=Lib.hid hgL
     clear hgP hgL q1 q2 q3 q4
     by_cases hg00:g=0
     · subst hg00
       have o1:=dv_out0 (by rw[HOL.out];omega) (HOZ.out j (by omega)) HX.out
       have o2:=dig_none HP1.out HGP.out
       have O1:=Lib.hid o1
       have O2:=Lib.hid o2
       clear o1 o2
       go_wp2_with fail
       go_roundw
       case rel=>exact⟨j,xs,outs,by omega,by go_num,HXL.out,hxs,HOL.out,hos,fun t ht=>HOZ.out t (by omega),O1.out,O2.out,hrow,hrout,hbl⟩
       case measure=>first|(simp[intOf];done)|(simp[intOf];omega)
     · have t0:((g:Int)==0)=false:=by rw[beq_eq_false_iff_ne];omega
       go_wp2_with fail
       go_loopw [20,21,185] (fun v20 v21 v185 wr=>DvSub w3 gx w4.heap.size n K j g xs ys outs v20 v21 v185 wr) (fun _ _ v _=>n-(intOf v).toNat)
       case atStart=>exact⟨0,0,0,xs,Nat.zero_le _,rfl,rfl,rfl,by decide,by decide,HXL.out,hxs,HXZ.out,ms_zero _ _ _ _,hrow,hrout,hbl⟩
       case round=>
        clear hrow hrout hbl
        obtain⟨i,c,l,x2,hi,rfl,rfl,rfl,hc,hl,h2l,h2s,h2z,h2v,hrow,hrout,hbl⟩:=hrel
        have H2L:=Lib.hid h2l
        have H2Z:=Lib.hid h2z
        have H2V:=Lib.hid h2v
        clear h2l h2z h2v
        by_cases hi1:i<n
        · have hyi:=HYC.out _ hbl i hi1
          have hxi:=hrow.cell (j+i) (by rw[H2L.out];omega)
          have hfz:=hrow.frozen (j+i)
          have bxi:=h2s.nth (j+i)
          have byi:=hsys.nth i
          obtain⟨Q,hQ⟩:∃Q,Q=g*nth ys i:=⟨_,rfl⟩
          have e7:(g:Int)*((nth ys i:Nat):Int)=(Q:Int):=by rw[hQ,Int.natCast_mul]
          have hQb:Q≤18446744065119617025:=by
           have h1:g*nth ys i≤4294967295*4294967295:=Nat.mul_le_mul (by omega) (by omega)
           omega
          obtain⟨C,hC⟩:∃C,C=c+Q:=⟨_,rfl⟩
          have e8:(c:Int)+(Q:Int)=(C:Int):=by omega
          have hCb:C<18446744073709551616:=by omega
          have st:=ms_step (y:=ys) (by rw[H2L.out];omega) bxi hl H2V.out
          rw[←hQ, ←hC] at st
          have ST:=Lib.hid st
          have hi2:i+1≤n:=hi1
          have hz2:=zeros_set (t:=(nth x2 (j+i)+4294967296-C%4294967296-l)%4294967296) H2Z.out (show j+i≤j+n by omega)
          have HZ2:=Lib.hid hz2
          have hlen:(x2.set (j+i) ((nth x2 (j+i)+4294967296-C%4294967296-l)%4294967296)).length=K+n+1:=by rw[List.length_set];exact H2L.out
          have HLEN:=Lib.hid hlen
          clear st hQ hC hz2 hlen
          go_wp2_with fail
          refine(bits_Sub32 _ _ _ (nth x2 (j+i)) (C%4294967296) l rfl (by first|exact cmodI C|rfl|(rw[IntKind.wrap_u32];omega)) rfl bxi (mod_ltB _) hl _).mono ?_
          rintro e w5 ⟨rfl,rfl⟩
          go_wp2_with fail
          go_roundw
          case rel=>
           exact⟨i+1,C/4294967296,1-(nth x2 (j+i)+4294967296-C%4294967296-l)/4294967296,x2.set (j+i) ((nth x2 (j+i)+4294967296-C%4294967296-l)%4294967296),hi2,vi (cdivI C),rfl,vi (by rfl),cdiv_lt hCb,Nat.sub_le _ _,HLEN.out,h2s.set _ _ (mod_ltB _),HZ2.out,ST.out,hrow.setE _ _ (cmodI _),hrout.far hne _,hbl.setCell hgx _⟩
          case measure=>clear hyi hxi hfz;first|(simp[intOf];done)|(simp[intOf];omega)
        · have hin:n=i:=by omega
          subst hin
          have hxi:=hrow.cell (j+n) (by rw[H2L.out];omega)
          have hfz:=hrow.frozen (j+n)
          have bxn:=h2s.nth (j+n)
          have st:=ms_end (by rw[H2L.out];omega) bxn hl hc HYL.out H2V.out
          have bs:=fun W=>bits_Sub32 ((nth x2 (j+n):Nat):Int) (c:Int) (l:Int) (nth x2 (j+n)) c l rfl rfl rfl bxn hc hl W
          obtain⟨t3,ht3⟩:∃t3,t3=(nth x2 (j+n)+4294967296-c-l)%4294967296:=⟨_,rfl⟩
          obtain⟨l3,hl3⟩:∃l3,l3=1-(nth x2 (j+n)+4294967296-c-l)/4294967296:=⟨_,rfl⟩
          rw[←ht3, ←hl3] at bs st
          have ht3b:t3<4294967296:=by rw[ht3];exact mod_ltB _
          have hl3b:l3≤1:=by rw[hl3];exact Nat.sub_le _ _
          rw[HYV.out] at st
          have hlen:(x2.set (j+n) t3).length=K+n+1:=by rw[List.length_set];exact H2L.out
          have hz3:=zeros_set (t:=t3) H2Z.out (Nat.le_refl (j+n))
          have hs3:=h2s.set (j+n) t3 ht3b
          obtain⟨x3,hx3⟩:∃x3,x3=x2.set (j+n) t3:=⟨_,rfl⟩
          rw[←hx3] at st hlen hz3 hs3
          have hrow3:=hrow.set_ (j+n) t3
          rw[←hx3] at hrow3
          have hrout3:=hrout.far (p:=⟨gx,j+n,none⟩) hne (.int .u32 (t3:Int))
          have hbl3:=hbl.setCell (p:=⟨gx,j+n,none⟩) hgx (.int .u32 (t3:Int))
          have hco:=hrout.cell j (by rw[HOL.out];omega)
          have hfo:=hrout.frozen j
          have hcoL:=hrout.lt
          have ST:=Lib.hid st
          have HLEN:=Lib.hid hlen
          have HZ3:=Lib.hid hz3
          have i5:(j:Int)<(K:Int)+1:=by omega
          clear st ht3 hl3 hx3 hlen hz3
          rcases (show l3=0∨l3=1 by omega) with hl30|hl31
          · have t6:((l3:Int) !=0)=false:=by rw[bne_eq_false_iff_eq];omega
            have hen:=ST.out
            rw[hl30] at hen
            have hen2:=dig_end0 hen HP1.out HGP.out
            have o1:=dv_out (by rw[HOL.out];omega) HX.out hen2.1
            have O1:=Lib.hid o1
            have O2:=Lib.hid hen2.2
            clear hen hen2 o1 hl30
            go_wp2_with fail
            refine(bs _).mono ?_
            rintro e w5 ⟨rfl,rfl⟩
            go_wp2_with fail
            go_roundw
            case rel=>exact⟨j,x3,outs.set j g,by omega,rfl,HLEN.out,hs3,by rw[List.length_set];exact HOL.out,hos.set _ _ (by omega),(fun t ht=>by rw[nth_set_ne _ _ _ _ (by omega)];exact HOZ.out t (by omega)),O1.out,O2.out,hrow3.far (Ne.symm hne) _,hrout3.set_ _ _,hbl3.setCell (by omega) _⟩
            case measure=>clear hco hfo hxi hfz;first|(simp[intOf];done)|(simp[intOf];omega)
          · have t6:((l3:Int) !=0)=true:=by rw[bne_iff_ne];omega
            have hen:=ST.out
            rw[hl31] at hen
            have HEN:=Lib.hid hen
            obtain⟨g1,hg1⟩:∃g1,g1=g-1:=⟨_,rfl⟩
            have e9:(g:Int)-1=(g1:Int):=by omega
            have hg1b:g1<4294967296:=by omega
            have HG1':=Lib.hid hg1
            clear hen hl31 hg1 hco hfo
            go_wp2_with fail
            refine(bs _).mono ?_
            rintro e w5 ⟨rfl,rfl⟩
            go_wp2_with fail
            go_loopw [21,233] (fun v21 v233 wr=>DvAdd w3 gx w4.heap.size n K j x3 ys outs v21 v233 wr) (fun _ v _=>n-(intOf v).toNat)
            case atStart=>exact⟨0,0,x3,Nat.zero_le _,rfl,rfl,Nat.zero_le _,HLEN.out,hs3,HZ3.out,ab_zero _ _ _,hrow3,hrout3,hbl3⟩
            case round=>
             clear hrow hrout hbl hrow3 hrout3 hbl3 hxi hfz bs hcoL
             obtain⟨i,c,x4,hi,rfl,rfl,hc,h4l,h4s,h4z,h4v,hrow,hrout,hbl⟩:=hrel
             have H4L:=Lib.hid h4l
             have H4Z:=Lib.hid h4z
             have H4V:=Lib.hid h4v
             clear h4l h4z h4v
             by_cases hi1:i<n
             · have hyi:=HYC.out _ hbl i hi1
               have hxi:=hrow.cell (j+i) (by rw[H4L.out];omega)
               have hfz:=hrow.frozen (j+i)
               have bxi:=h4s.nth (j+i)
               have byi:=hsys.nth i
               have st:=ab_step (y:=ys) (by rw[H4L.out];omega) H4V.out
               have ST4:=Lib.hid st
               have hi2:i+1≤n:=hi1
               have hz2:=zeros_set (t:=(nth x4 (j+i)+nth ys i+c)%4294967296) H4Z.out (show j+i≤j+n by omega)
               have HZ2:=Lib.hid hz2
               have hlen:(x4.set (j+i) ((nth x4 (j+i)+nth ys i+c)%4294967296)).length=K+n+1:=by rw[List.length_set];exact H4L.out
               have HLEN4:=Lib.hid hlen
               have hc1:=add_le1 bxi byi hc
               clear st hz2 hlen
               go_wp2_with fail
               refine(bits_Add32 _ _ _ (nth x4 (j+i)) (nth ys i) c rfl rfl rfl bxi byi hc _).mono ?_
               rintro e w6 ⟨rfl,rfl⟩
               go_wp2_with fail
               go_roundw
               case rel=>
                exact⟨i+1,(nth x4 (j+i)+nth ys i+c)/4294967296,x4.set (j+i) ((nth x4 (j+i)+nth ys i+c)%4294967296),hi2,vi (by omega),vi (by rfl),hc1,HLEN4.out,h4s.set _ _ (mod_ltB _),HZ2.out,ST4.out,hrow.setE _ _ (by omega),hrout.far hne _,hbl.setCell hgx _⟩
               case measure=>clear hyi hxi hfz;first|(simp[intOf];done)|(simp[intOf];omega)
             · have hin:n=i:=by omega
               subst hin
               have hxi:=hrow.cell (j+n) (by rw[H4L.out];omega)
               have hfz:=hrow.frozen (j+n)
               have bxn:=h4s.nth (j+n)
               have st:=ab_end (by rw[H4L.out];omega) HYL.out H4V.out
               obtain⟨S4,hS4⟩:∃S4,S4=nth x4 (j+n)+c:=⟨_,rfl⟩
               rw[←hS4,HYV.out] at st
               have e10:((nth x4 (j+n):Nat):Int)+(c:Int)=(S4:Int):=by omega
               have hS4b:S4<8589934592:=by omega
               have w10:IntKind.u32.wrap (S4:Int)=((S4%4294967296:Nat):Int):=by rw[IntKind.wrap_u32];omega
               have ht5b:=mod_ltB S4
               have hlen:(x4.set (j+n) (S4%4294967296)).length=K+n+1:=by rw[List.length_set];exact H4L.out
               have hz5:=zeros_set (t:=S4%4294967296) H4Z.out (Nat.le_refl (j+n))
               have hs5:=h4s.set (j+n) (S4%4294967296) ht5b
               obtain⟨x5,hx5⟩:∃x5,x5=x4.set (j+n) (S4%4294967296):=⟨_,rfl⟩
               rw[←hx5] at st hlen hz5 hs5
               have hrow5:=hrow.setE (j+n) (S4%4294967296) (cmodI S4)
               rw[←hx5] at hrow5
               have hrout5:=hrout.far (p:=⟨gx,j+n,none⟩) hne (.int .u32 ((S4:Int)%4294967296))
               have hbl5:=hbl.setCell (p:=⟨gx,j+n,none⟩) hgx (.int .u32 ((S4:Int)%4294967296))
               have hco:=hrout.cell j (by rw[HOL.out];omega)
               have hfo:=hrout.frozen j
               have hcoL:=hrout.lt
               have hen2:=dig_end1 HEN.out st (by omega) (HGL.out (by omega)) HP1.out HP2.out hs3 HZ3.out hs5 hz5 HYN.out
               rw[←HG1'.out] at hen2
               have o1:=dv_out (by rw[HOL.out];omega) HX.out hen2.1
               have O1:=Lib.hid o1
               have O2:=Lib.hid hen2.2
               have HLEN5:=Lib.hid hlen
               clear st hS4 hlen hz5 hx5 hen2 o1
               go_wp2_with fail
               go_roundw
               case rel=>exact⟨j,x5,outs.set j g1,by omega,rfl,HLEN5.out,hs5,by rw[List.length_set];exact HOL.out,hos.set _ _ (by omega),(fun t ht=>by rw[nth_set_ne _ _ _ _ (by omega)];exact HOZ.out t (by omega)),O1.out,O2.out,hrow5.far (Ne.symm hne) _,hrout5.set_ _ _,hbl5.setCell (by omega) _⟩
               case measure=>clear hco hfo hxi hfz;first|(simp[intOf];done)|(simp[intOf];omega)

end Go.Proofs.YtenekbfnlbipiaaGreatDoor
