/- Walks: powers of five. -/
import Derived.Test.YtenekbfnlbipiaaGreatDoorBgAB
import Derived.Test.YtenekbfnlbipiaaGreatDoorM
import Derived.Test.YtenekbfnlbipiaaGreatDoorA
import Derived.Test.YtenekbfnlbipiaaGreatDoorBgA
import Derived.Deep.RegionHeld3
import Derived.Deep.CutBlock
import Derived.Deep.DeepCutAuto
import Derived.Test.YtenekbfnlbipiaaGreatDoorDvA
import Derived.Handy
import Derived.Deep.DeepAppendWide
import Derived.Deep.AppendLies
import Derived.Deep.RegionLaw
import Derived.Deep.DrawnRows
import Derived.ProofKit
import Derived.IntWalk
namespace Go.Proofs.YtenekbfnlbipiaaGreatDoor
open Go.RowKit
set_option linter.unusedVariables false
set_option linter.unusedSimpArgs false
set_option maxHeartbeats 4000000
set_option maxRecDepth 100000

def Tab5 (w:World):Prop:=∀j,j<28→w.cell? ⟨0,j,none⟩=some (.int .u64 ((5^j:Nat):Int))
theorem Tab5.below {w w':World} (h:Tab5 w) (hb:Below w.heap.size w w'):Tab5 w':=fun j hj=>cell_keep hb (h j hj)
theorem far_lo {K:Int} (h:K< -400):farB K=true:=by unfold farB;rw[decide_eq_true h];rfl
theorem far_hi {K:Int} (h:400<K):farB K=true:=by unfold farB;rw[decide_eq_true h,Bool.or_true]
theorem far_no {K:Int} (h:¬K< -400) (h2:¬400<K):farB K=false:=by unfold farB;rw[decide_eq_false h,decide_eq_false h2];rfl
theorem power_far (K:Int) (w:World):Calls Tryz.prog 128 #[.int .i64 K] w fun e w'=>e=.returned (.bool (farB K))∧w=w':=by
 by_cases h1:K< -400
 · rw[far_lo h1]
   have d1:decide (K< -400)=true:=by simpa using h1
   go_enter Tryz.func128,Tryz.ntmps128
   go_wp2
   go_ret
   exact⟨rfl,rfl⟩
 · have d1:decide (K< -400)=false:=by simpa using h1
   by_cases h2:400<K
   · rw[far_hi h2]
     have d2:decide (400<K)=true:=by simpa using h2
     go_enter Tryz.func128,Tryz.ntmps128
     go_wp2
     go_ret
     exact⟨rfl,rfl⟩
   · rw[far_no h1 h2]
     have d2:decide (400<K)=false:=by simpa using h2
     go_enter Tryz.func128,Tryz.ntmps128
     go_wp2
     go_ret
     exact⟨rfl,rfl⟩
theorem len5_le {k v m:Nat} (hk:k≤400) (h:v*5^m=5^k):(limbs v).length≤30:=by
 rw[length_limbs_le]
 have h1:v≤5^k:=by rw[←h];exact Nat.le_mul_of_pos_right _ (Nat.pow_pos (by decide))
 exact Nat.lt_of_le_of_lt h1 (len5 ⟨k,by omega⟩)
theorem set_keep {w:World} {a p:Addr} {u v:Value} (h:w.cell? a=some v) (hne:a.block<p.block):(w.setCell p u).cell? a=some v:=(World.cell?_setCell_other w p a u (fun e=>by rw[e] at hne;exact Nat.lt_irrefl _ hne)).trans h
theorem power_five (k:Nat) (hk:k≤400) (w:World) (hT:Tab5 w):
 Calls Tryz.prog 129 #[.int .i64 (k:Int)] w (NatAns 153 w (limbs (5^k),0)):=by
 go_enter Tryz.func129,Tryz.ntmps129
 go_wp2_with fail
 refine(nat_Of 1 1 rfl (by decide) _).mono ?_
 rintro e w1 ⟨A1,c1,rfl,o1,hb1⟩
 have hb01:Below w.heap.size w w1:=((Below.refl w.heap.size w).alloc nrf _).trans (hb1.mono (by simp))
 have hz1:w.heap.size<w1.heap.size:=by have:=hb1.size;simp at this;omega
 have hk0:Blk w1 w.heap.size 67 #[.slice none 0 0]:=(Blk.new w _ _).below hb1 (by simp)
 have hka:=hk0.alloc (.cells #[.slice A1 (limbs 1).length c1] 67)
 have hk4:=Blk.new w1 67 #[.slice A1 (limbs 1).length c1]
 have ho1:=(o1.alloc (.cells #[.slice A1 (limbs 1).length c1] 67)).mono (B':=w.heap.size+1) (by simp)
 have hb02:=hb01.alloc hb01.size (.cells #[.slice A1 (limbs 1).length c1] 67)
 obtain⟨g4,hg4⟩:∃g4,g4=w1.heap.size:=⟨_,rfl⟩
 rw[←hg4] at hk4 hz1
 clear hb1 hb01 hk0 o1
 go_wp2
 rw[←hg4]
 clear hg4
 go_loopw [0] (fun v0 wr=>∃(m v:Nat) (A:Option Addr) (c:Nat),m≤k∧v0=.int .i64 (m:Int)∧v*5^m=5^k∧Blk wr w.heap.size 67 #[.slice none 0 0]∧Blk wr g4 67 #[.slice A (limbs v).length c]∧Own wr 153 (w.heap.size+1) A c (limbs v)∧Below w.heap.size w wr) (fun v0 _=>(intOf v0).toNat)
 case atStart=>exact⟨k,1,A1,c1,Nat.le_refl _,rfl,Nat.one_mul _,hka,hk4,ho1,hb02⟩
 case round=>
  clear hka hk4 ho1 hb02
  obtain⟨m,v,A,c,hm,rfl,hv,hk0,hk4,ho,hbl⟩:=hrel
  by_cases hm0:0<m
  · obtain⟨s,hs⟩:∃s,s=min m 27:=⟨_,rfl⟩
    have hsm:s≤m:=by omega
    have hs27:s≤27:=by omega
    have hs0:0<s:=by omega
    have hmin:Hid ((if (27:Int)<(m:Int) then (27:Int) else (m:Int))=(s:Int)):=Lib.hid (by split <;> omega)
    have hd0:decide ((0:Int)<(m:Int))=true:=by simp;omega
    obtain⟨p,hp⟩:∃p,p=5^s:=⟨_,rfl⟩
    have hc5:=(hT.below hbl) s (by omega)
    rw[←hp] at hc5
    have hp64:p<18446744073709551616:=by
     rw[hp]
     exact Nat.lt_of_le_of_lt (Nat.pow_le_pow_right (by decide) hs27) (by decide)
    have hvp:v*p*5^(m-s)=5^k:=by
     rw[hp,Nat.mul_assoc, ←Nat.pow_add,show s+(m-s)=m by omega,hv]
    have hlv:=len5_le hk hv
    have hlvp:=len5_le hk hvp
    have hlp:(limbs p).length≤2:=(length_limbs_le _ _).2 (by simpa using hp64)
    have hms:=mulS_limbs (x:=v) (y:=p) (by omega) (by omega)
    rw[fitS_ok (by omega)] at hms
    have e0:wr.cell? ⟨g4,0,none⟩=some (.slice A (limbs v).length c):=hk4.cell 0
    have hgz:=hk4.lt
    have hg5:=cell_lt hc5
    have s0:(0:Int)≤(s:Int):=by omega
    have s1:(s:Int)<28:=by omega
    have hs28:s<28:=by omega
    have HVP:=Lib.hid hvp
    have HMS:=Lib.hid hms
    have HS:=Lib.hid hs
    have HP:=Lib.hid hp
    clear hvp hms hs hp hv
    go_upto_region 4 with (fail)
    rw[hmin.out]
    go_cut [6,7] (fun v6 v7 wx=>∃(gp:Nat) (A6:Option Addr) (c6:Nat),v6=.pointer (some ⟨gp,0,none⟩)∧v7=.int .i64 0∧wx.cell? ⟨gp,0,none⟩=some (.slice A6 (limbs (v*p)).length c6)∧Own wx 153 wr.heap.size A6 c6 (limbs (v*p))∧Below wr.heap.size wr wx)
    case first=>
     have nz:wr.heap.size<(wr.drew.alloc (.cells #[.slice none 0 0] 67)).heap.size:=by simp
     have kz:Blk (wr.drew.alloc (.cells #[.slice none 0 0] 67)) wr.heap.size 67 #[.slice none 0 0]:=Blk.new wr.drew _ _
     have bz:Below wr.heap.size wr (wr.drew.alloc (.cells #[.slice none 0 0] 67)):=(Below.drew (Below.refl _ _)).alloc nrf _
     have b0:Below wr.heap.size wr wr.drew:=Below.drew (Below.refl _ _)
     go_region_held3 (fun w'=>w'.cell? ⟨g4,0,none⟩=some (.slice A (limbs v).length c)∧w'.cell? ⟨0,s,none⟩=some (.int .u64 (p:Int)))
      (first|exact⟨e0,hc5⟩|exact⟨cell_keep bz e0,cell_keep bz hc5⟩|exact⟨e5,q5⟩|exact⟨(World.cell?_alloc_lt _ _ _ z5).trans e5,(World.cell?_alloc_lt _ _ _ y5).trans q5⟩|exact⟨e6,q6⟩|exact⟨set_keep e6 z5,set_keep q6 y5⟩|exact⟨set_keep e6 hgz,set_keep q6 hg5⟩|exact⟨(World.cell?_alloc_lt _ _ _ z6).trans e6,(World.cell?_alloc_lt _ _ _ y6).trans q6⟩|go_keep)
      (first
      |(go_at_call 132
        refine(nat_Of (p:Int) p rfl hp64 _).mono ?_
        rintro r w5 ⟨A5,c5,rfl,o5,hb5⟩
        have hw5:Below wr.heap.size wr w5:=by first|exact b0.trans hb5|exact bz.trans (hb5.mono (Nat.le_of_lt nz))
        have e5:=cell_keep hw5 e0
        have q5:=cell_keep hw5 hc5
        have z5:=cell_lt e5
        have y5:=cell_lt q5
        have r5:=ho.rd.below hw5
        have zz5:=hw5.size
        try (have kp5:Blk w5 wr.heap.size 67 #[.slice none 0 0]:=kz.below hb5 nz))
      |(go_at_call 179
        refine(nat_Mul A A5 (limbs v) (limbs p) _ _ c c5 rfl rfl _ (by first|exact r5|exact r5.alloc _) (by first|exact o5.rd|exact o5.rd.alloc _)).mono ?_
        rw[HMS.out]
        rintro r w6 ⟨A6,c6,rfl,o6,hb6⟩
        have hw6:Below w5.heap.size w5 w6:=by first|exact hb6|exact((Below.refl _ _).alloc nrf _).trans (hb6.mono (by simp))
        have e6:=cell_keep hw6 e5
        have q6:=cell_keep hw6 q5
        have z6:=cell_lt e6
        have y6:=cell_lt q6
        have o6':=o6.mono (B':=wr.heap.size) (by first|exact zz5|(simp only[World.size_alloc];omega))
        have hw06:=hw5.trans (hw6.mono zz5)
        first
         |(have kp6:Blk w6 wr.heap.size 67 #[.slice none 0 0]:=kp5.below hw6 kp5.lt
           have p6:w6.cell? ⟨wr.heap.size,0,none⟩=some (.slice none 0 0):=kp6.cell 0
           have p6f:=kp6.frozen 0
           have p6z:=kp6.lt)
         |(have kp6:Blk w6 w5.heap.size 67 #[.slice none 0 0]:=(Blk.new w5 _ _).below hb6 (by simp)
           have p6:w6.cell? ⟨w5.heap.size,0,none⟩=some (.slice none 0 0):=kp6.cell 0
           have p6f:=kp6.frozen 0
           have p6z:=kp6.lt)
         |skip)
      |fail)
     all_goals (go_wp2_with fail;go_meet)
     all_goals (first
      |exact⟨_,A6,c6,rfl,rfl,by simp,o6'.alloc _,hw06.alloc hw06.size _⟩
      |exact⟨_,A6,c6,rfl,rfl,World.cell?_setCell_same _ _ _ p6,(o6.setCell (show w5.heap.size<_ by simp) _).mono (by simp only[World.size_alloc];omega),hw06.setCell zz5 _⟩
      |exact⟨_,A6,c6,rfl,rfl,World.cell?_setCell_same _ _ _ p6,(o6.setCell kp5.lt _).mono zz5,hw06.setCell nrf _⟩)
    case rest=>
     obtain⟨gp,A6,c6,rfl,rfl,hp6,o6,hb6⟩:=hcut
     have hk0':=hk0.below hb6 hk0.lt
     have hk4':=hk4.below hb6 hgz
     have i0:=hk4'.cell 0
     have i1:=hk4'.frozen 0
     have i2:=hk4'.lt
     have hbl':=hbl.trans (hb6.mono hbl.size)
     have hne:w.heap.size≠g4:=Nat.ne_of_lt hz1
     have o6':=(o6.setCell (p:=⟨g4,0,none⟩) hgz (.slice A6 (limbs (v*p)).length c6)).mono (B':=w.heap.size+1) hk0.lt
     have hk4'':=hk4'.set_ 0 (.slice A6 (limbs (v*p)).length c6)
     have hk0'':=hk0'.far (p:=⟨g4,0,none⟩) hne (.slice A6 (limbs (v*p)).length c6)
     have hbl'':=hbl'.setCell (p:=⟨g4,0,none⟩) (Nat.le_of_lt hz1) (.slice A6 (limbs (v*p)).length c6)
     have hz6:=cell_lt hp6
     clear hk0 hk4 ho hbl hb6 hk0' hk4' hbl' o6 e0 hc5
     go_wp2
     go_roundw
     case rel=>exact⟨m-s,v*p,A6,c6,by omega,vi (by omega),HVP.out,hk0'',hk4'',o6',hbl''⟩
     case measure=>first|(simp[intOf];done)|(simp[intOf];omega)
  · obtain rfl:m=0:=by omega
    have hv1:v=5^k:=by simpa using hv
    have HV:=Lib.hid hv1
    have i0:=hk4.cell 0
    have i2:=hk4.lt
    have j0:=hk0.cell 0
    have j1:=hk0.frozen 0
    have j2:=hk0.lt
    have hbl2:=hbl.setCell (p:=⟨w.heap.size,0,none⟩) nrf (.slice A (limbs v).length c)
    clear hv hv1
    go_wp2
    (try simp only[Exit.inBlock,Exit.then]);refine bodyPost_ret (by simp (maxDischargeDepth:=9) [results,Tryz.results129,go_sem,j0,j1];try rfl) rfl ?_
    rw[←HV.out]
    exact⟨A,c,rfl,(ho.setCell (Nat.lt_succ_self _) _).mono (Nat.le_succ _),hbl2⟩

theorem or_lo (x y:Nat) (hx:x<4294967296) (hy:y<4294967296):bits BinOp.or IntKind.u64 (x:Int) ((y:Int)*4294967296)=((x+4294967296*y:Nat):Int):=by
 have e:((y:Int)*4294967296)=((y*4294967296:Nat):Int):=by omega
 rw[e,u64_or_nat _ _ (by omega) (by omega),Nat.or_comm]
 have:=Nat.two_pow_add_eq_or_of_lt (i:=32) (b:=x) hx y
 rw[show y*4294967296=2^32*y from by omega, ←this]
 omega




section
variable {w w':World} {A:Option Addr} {n:Nat}
end

section
variable {P:Program} {w:World} {t e:TypeId}
end
attribute [local go_sem ↓] Go.wp_at_zero Go.wp_at_succ

structure Ent where
 A:Option Addr
 c:Nat
 l:List Nat
section
variable {w w':World} {B kb n m:Nat} {gv wv:Value} {xs ys:List Value} {Fr:List Nat}
end

section
variable {w w':World} {B:Nat} {es:List Ent} {f:Nat→List Nat}
end

theorem elemU:ElemOf Tryz.prog 65 153 .u32:=by
 refine⟨Tryz.underlying65,?_⟩
 have h:(Tryz.prog.info? 153).map (fun i=>(i.zero,i.size,i.bytes))=some (some (.int .u32 0),1,4):=by kernel_rfl
 obtain⟨i,h1,h2,h3,h4⟩:=info_parts h
 exact⟨i,4,h1,h2,h3,h4,by omega⟩
theorem bytesU:(Tryz.prog.info? 153).map (·.bytes)=some 4:=by kernel_rfl

theorem ref_Twin (A:Option Addr) (a:List Nat) (n c:Nat) (hn:n=a.length) (hl:a.length*4≤140737488351232) (w:World) (ha:Rd w A a):
 Calls Tryz.prog 215 #[.agg #[.slice A n c]] w (NatOne 153 w a):=by
 have ha2:=(ha.alloc (Obj.cells #[Value.slice A n c] 67)).alloc (Obj.cells #[Value.slice none 0 0] 67)
 have HN:=Lib.hid hn
 clear hn
 go_enter Tryz.func215,Tryz.ntmps215
 go_wp2_with (at_builtin;refine wpList_apps elemU rfl _ _ rfl (OwnR.nil _ (w.heap.size+2) _ _) rfl A a n c HN.out rfl (fun h0=>ha2.open_ h0) (.inr ⟨rfl,bytesU,by simp;omega⟩) (by simp) (fun v1 w2 hown1 hgr1 hb2=>?_))
 rw[List.nil_append] at hown1
 obtain⟨A1,k1,rfl,hle1,ho1⟩:=hown1.own ha.sm (by omega)
 have hb2':Below (w.heap.size+2) ((w.alloc (Obj.cells #[Value.slice A n c] 67)).alloc (Obj.cells #[Value.slice none 0 0] 67)) w2:=hb2
 have s2:=hb2'.size
 simp at s2
 have c1:w2.cell? ⟨w.heap.size+1,0,none⟩=some (Value.slice none 0 0):=by rw[hb2'.cell (by simp)];simp
 have f1:w2.frozen? ⟨w.heap.size+1,0,none⟩=false:=by rw[hb2'.frozen (by simp)];simp
 have hbw2:Below w.heap.size w w2:=(((Below.refl w.heap.size w).alloc nrf _).alloc (by simp) _).trans (hb2'.mono (by omega))
 go_wp2_with fail
 refine(ref_nat A1 _ k1 _).mono ?_
 rintro e w3 ⟨rfl,hb3⟩
 have e1:=cell_keep hb3 c1
 have ef1:=(below_frozen hb3 (b:=w.heap.size+1) (o:=0) (by omega)).trans f1
 have x1:=cell_lt e1
 simp only at x1
 have ho3:=ho1.below hb3 nrf
 have hbw3:=hbw2.trans (hb3.mono hbw2.size)
 go_wp2
 (try simp only[Exit.inBlock,Exit.then]);refine bodyPost_ret (by simp (maxDischargeDepth:=9) [results,Tryz.results215,go_sem,e1,x1];try rfl) rfl ?_
 exact⟨A1,k1,rfl,(ho3.setCell (p:=⟨w.heap.size+1,0,none⟩) (by show w.heap.size+1<_;omega) _).mono (by omega),hbw3.setCell (p:=⟨w.heap.size+1,0,none⟩) (Nat.le_add_right _ _) _⟩

theorem ref_Down (A:Option Addr) (l:List Nat) (n c:Nat) (hn:n=l.length) (m:Int) (hm1: -9223372036854775808≤m) (hm2:m≤9223372036854775807) (w:World) (h:Rd w A l):
 Calls Tryz.prog 212 #[.agg #[.slice A n c],.int .i64 m] w (NatAns 153 w (downS l m)):=by
 subst hn
 have hl:=h.len
 have h1:=(h.alloc (Obj.cells #[Value.slice A l.length c] 67)).alloc (Obj.cells #[Value.slice none 0 0] 67)
 by_cases hc0:chk l=0
 · have hlen:=(chk_zero hc0).1
   have Hchk:Hid (chk l=0):=hc0
   have e0:Hid (downS l m=if m<0 then ([],2) else (limbs (val l/2^m.toNat),0)):=by
    show downS l m=_
    unfold downS;rw[if_pos hc0]
   clear hc0
   by_cases hm0:m<0
   · rw[e0.out,if_pos hm0]
     go_enter Tryz.func212,Tryz.ntmps212
     go_wp2_with fail
     refine(ref_Check A l _ c rfl _ h1).mono ?_
     rintro e w1 ⟨rfl,hb1⟩
     rw[Hchk.out]
     obtain⟨hc1,hf1⟩:=bcell hb1
     have hbw1:Below w.heap.size w w1:=Below.trans (b:=_) bbel (hb1.mono (by go_size))
     have hz1_0:w.heap.size<w1.heap.size:=by have:=hb1.size;simp at this;omega
     have hz1_1:w.heap.size+1<w1.heap.size:=by have:=hb1.size;simp at this;omega
     go_wp2
     (try simp only[Exit.inBlock,Exit.then]);refine bodyPost_ret (by simp (maxDischargeDepth:=9) [results,Tryz.results212,go_sem,hc1,hz1_0,hz1_1];try rfl) rfl ?_
     exact⟨none,0,rfl,Own.nil _ _ _,bbel⟩
   · rw[e0.out,if_neg hm0]
     obtain⟨m,rfl⟩:∃k:Nat,m=(k:Int):=⟨m.toNat,by omega⟩
     rw[Int.toNat_natCast]
     go_enter Tryz.func212,Tryz.ntmps212
     go_wp2_with fail
     refine(ref_Check A l _ c rfl _ h1).mono ?_
     rintro e w1 ⟨rfl,hb1⟩
     rw[Hchk.out]
     obtain⟨hc1,hf1⟩:=bcell hb1
     have hbw1:Below w.heap.size w w1:=Below.trans (b:=_) bbel (hb1.mono (by go_size))
     have hz1_0:w.heap.size<w1.heap.size:=by have:=hb1.size;simp at this;omega
     have hz1_1:w.heap.size+1<w1.heap.size:=by have:=hb1.size;simp at this;omega
     go_wp2_with fail
     refine(ref_down A l _ c rfl m (by omega) (by omega) _ (h1.below hb1)).mono ?_
     rintro e w2 ⟨A',c',rfl,_,ho,hb2⟩
     have hz2:w.heap.size+1<w2.heap.size:=by have:=hb2.size;omega
     go_wp2_with fail
     refine(ref_nat _ _ _ _).mono ?_
     rintro e w3 ⟨rfl,hb3⟩
     have hz3:w.heap.size+1<w3.heap.size:=by have:=hb3.size;omega
     have hc3:w3.cell? ⟨w.heap.size+1,0,none⟩=some (Value.slice none 0 0):=by
      rw[below_cell hb3 hz2,below_cell hb2 hz1_1,hc1 _ _ (by simp)];simp[go_sem]
     have hf3:w3.frozen? ⟨w.heap.size+1,0,none⟩=false:=by
      rw[below_frozen hb3 hz2,below_frozen hb2 hz1_1,hf1 _ _ (by simp)];simp[go_sem]
     have hbw3:Below w.heap.size w w3:=(hbw1.trans (hb2.mono (by omega))).trans (hb3.mono (by omega))
     clear hc1 hf1
     go_wp2
     (try simp only[Exit.inBlock,Exit.then]);refine bodyPost_ret (by simp (maxDischargeDepth:=9) [results,Tryz.results212,go_sem,hc3];try rfl) rfl ?_
     exact⟨_,_,rfl,((ho.below hb3 nrf).setCell (by simp;omega) _).mono (by omega),bbel⟩
 · have e0:downS l m=([],chk l):=by unfold downS;rw[if_neg hc0]
   have hne:(chk l !=0)=true:=by rw[bne_iff_ne];exact hc0
   rw[e0]
   clear hc0
   go_enter Tryz.func212,Tryz.ntmps212
   go_wp2_with fail
   refine(ref_Check A l _ c rfl _ h1).mono ?_
   rintro e w1 ⟨rfl,hb1⟩
   obtain⟨hc1,hf1⟩:=bcell hb1
   have hbw1:Below w.heap.size w w1:=Below.trans (b:=_) bbel (hb1.mono (by go_size))
   have hz1_0:w.heap.size<w1.heap.size:=by have:=hb1.size;simp at this;omega
   have hz1_1:w.heap.size+1<w1.heap.size:=by have:=hb1.size;simp at this;omega
   go_wp2
   (try simp only[Exit.inBlock,Exit.then]);refine bodyPost_ret (by simp (maxDischargeDepth:=9) [results,Tryz.results212,go_sem,hc1,hz1_0,hz1_1];try rfl) rfl ?_
   exact⟨none,0,rfl,Own.nil _ _ _,bbel⟩

theorem down_drop {l:List Nat} (h:Sm l) (m:Nat):val (l.drop (m/32))/2^(m%32)=val l/2^m:=by
 rw[val_drop l h,Nat.div_div_eq_div_mul]
 congr 1
 have:4294967296^(m/32)=2^(32*(m/32)):=by rw[Nat.pow_mul]
 rw[this, ←Nat.pow_add]
 congr 1
 omega
theorem Rd.drop {w:World} {b off:Nat} {l:List Nat} (h:Rd w (some ⟨b,off,none⟩) l) (q:Nat) (hq:q<l.length):Rd w (some ⟨b,off+q,none⟩) (l.drop q):=by
 refine⟨h.1.drop q,by have:=h.2.1;simp;omega,fun hn=>⟨b,off+q,rfl,fun j hj=>?_⟩⟩
 obtain⟨b',off',e,hc⟩:=h.open_ (by omega)
 injection e with e;injection e with e1 e2
 subst e1 e2
 simp only[List.length_drop] at hj
 have e:nth (l.drop q) j=nth l (q+j):=by
  rw[nth_lt _ (by simp;omega),nth_lt _ (by omega)];simp
 rw[e,Nat.add_assoc]
 exact hc (q+j) (by omega)

theorem nat_Down (A:Option Addr) (l:List Nat) (n c:Nat) (hn:n=l.length) (hnc:n≤c) (m:Int) (hm1: -9223372036854775808≤m) (hm2:m≤9223372036854775807) (w:World) (h:Rd w A l):
 Calls Tryz.prog 134 #[.agg #[.slice A n c],.int .i64 m] w (NatAns 153 w (downS l m)):=by
 subst hn
 have hl:=h.len
 have h1:=(h.alloc (Obj.cells #[Value.slice A l.length c] 67)).alloc (Obj.cells #[Value.slice none 0 0] 67)
 by_cases hc0:chk l=0
 · have hlen:=(chk_zero hc0).1
   have Hchk:Hid (chk l=0):=hc0
   have e0:Hid (downS l m=if m<0 then ([],2) else (limbs (val l/2^m.toNat),0)):=by
    show downS l m=_
    unfold downS;rw[if_pos hc0]
   clear hc0
   by_cases hm0:m<0
   · rw[e0.out,if_pos hm0]
     go_enter Tryz.func134,Tryz.ntmps134
     go_wp2_with fail
     refine(nat_Check A l _ c rfl _ h1).mono ?_
     rintro e w1 ⟨rfl,hb1⟩
     rw[Hchk.out]
     obtain⟨hc1,hf1⟩:=bcell hb1
     have hbw1:Below w.heap.size w w1:=Below.trans (b:=_) bbel (hb1.mono (by go_size))
     have hz1_0:w.heap.size<w1.heap.size:=by have:=hb1.size;simp at this;omega
     have hz1_1:w.heap.size+1<w1.heap.size:=by have:=hb1.size;simp at this;omega
     go_wp2
     (try simp only[Exit.inBlock,Exit.then]);refine bodyPost_ret (by simp (maxDischargeDepth:=9) [results,Tryz.results134,go_sem,hc1,hz1_0,hz1_1];try rfl) rfl ?_
     exact⟨none,0,rfl,Own.nil _ _ _,bbel⟩
   · rw[e0.out,if_neg hm0]
     obtain⟨m,rfl⟩:∃k:Nat,m=(k:Int):=⟨m.toNat,by omega⟩
     rw[Int.toNat_natCast]
     by_cases hq:l.length≤m/32
     · have hz:=down_zero h.sm hq
       rw[hz,limbs_zero]
       clear hz
       go_enter Tryz.func134,Tryz.ntmps134
       go_wp2_with fail
       refine(nat_Check A l _ c rfl _ h1).mono ?_
       rintro e w1 ⟨rfl,hb1⟩
       rw[Hchk.out]
       obtain⟨hc1,hf1⟩:=bcell hb1
       have hbw1:Below w.heap.size w w1:=Below.trans (b:=_) bbel (hb1.mono (by go_size))
       have hz1_0:w.heap.size<w1.heap.size:=by have:=hb1.size;simp at this;omega
       have hz1_1:w.heap.size+1<w1.heap.size:=by have:=hb1.size;simp at this;omega
       go_wp2
       (try simp only[Exit.inBlock,Exit.then]);refine bodyPost_ret (by simp (maxDischargeDepth:=9) [results,Tryz.results134,go_sem,hc1,hz1_0,hz1_1];try rfl) rfl ?_
       exact⟨none,0,rfl,Own.nil _ _ _,bbel⟩
     · obtain⟨b,off,rfl,_⟩:=h.open_ (by omega)
       have hne:¬c=m/32:=by omega
       have HDD:=Lib.hid (down_drop h.sm m)
       have hsub:(l.drop (m/32)).length=l.length-m/32:=by simp
       have HS:=Lib.hid hsub
       clear hsub
       go_enter Tryz.func134,Tryz.ntmps134
       go_wp2_with fail
       refine(nat_Check _ l _ c rfl _ h1).mono ?_
       rintro e w1 ⟨rfl,hb1⟩
       rw[Hchk.out]
       obtain⟨hc1,hf1⟩:=bcell hb1
       have hbw1:Below w.heap.size w w1:=Below.trans (b:=_) bbel (hb1.mono (by go_size))
       have hz1_0:w.heap.size<w1.heap.size:=by have:=hb1.size;simp at this;omega
       have hz1_1:w.heap.size+1<w1.heap.size:=by have:=hb1.size;simp at this;omega
       go_wp2_with fail
       refine(nat_lowered _ (l.drop (m/32)) _ _ HS.out.symm _ (m%32) (by omega) (by omega) (by have:=HS.out;omega) _ ((h1.below hb1).drop (m/32) (by omega))).mono ?_
       rintro e w2 ⟨o,g,⟨hol,hov⟩,hos,hg,hrow,rfl,hb2⟩
       rw[HDD.out] at hov
       have HOL:=Lib.hid hol
       have HOV:=Lib.hid hov
       clear hol hov
       have hz2:w.heap.size+1<w2.heap.size:=by have:=hb2.size;omega
       go_wp2_with fail
       refine(nat_trimmed_own g o _ _ w1.heap.size rfl nrf _ hrow hos (by have:=HOL.out;have:=HS.out;omega) hg).mono ?_
       rw[HOV.out]
       rintro e w3 ⟨A',c',rfl,ho,hA,hb3⟩
       have hz3:w.heap.size+1<w3.heap.size:=by have:=hb3.size;omega
       have hc3:w3.cell? ⟨w.heap.size+1,0,none⟩=some (Value.slice none 0 0):=by
        rw[below_cell hb3 hz2,below_cell hb2 hz1_1,hc1 _ _ (by simp)];simp[go_sem]
       have hf3:w3.frozen? ⟨w.heap.size+1,0,none⟩=false:=by
        rw[below_frozen hb3 hz2,below_frozen hb2 hz1_1,hf1 _ _ (by simp)];simp[go_sem]
       have hbw3:Below w.heap.size w w3:=(hbw1.trans (hb2.mono (by omega))).trans (hb3.mono (by omega))
       clear hc1 hf1
       go_wp2
       (try simp only[Exit.inBlock,Exit.then]);refine bodyPost_ret (by simp (maxDischargeDepth:=9) [results,Tryz.results134,go_sem,hc3];try rfl) rfl ?_
       exact⟨_,_,rfl,(ho.setCell (by simp;omega) _).mono (by omega),bbel⟩
 · have e0:downS l m=([],chk l):=by unfold downS;rw[if_neg hc0]
   have hne:(chk l !=0)=true:=by rw[bne_iff_ne];exact hc0
   rw[e0]
   clear hc0
   go_enter Tryz.func134,Tryz.ntmps134
   go_wp2_with fail
   refine(nat_Check A l _ c rfl _ h1).mono ?_
   rintro e w1 ⟨rfl,hb1⟩
   obtain⟨hc1,hf1⟩:=bcell hb1
   have hbw1:Below w.heap.size w w1:=Below.trans (b:=_) bbel (hb1.mono (by go_size))
   have hz1_0:w.heap.size<w1.heap.size:=by have:=hb1.size;simp at this;omega
   have hz1_1:w.heap.size+1<w1.heap.size:=by have:=hb1.size;simp at this;omega
   go_wp2
   (try simp only[Exit.inBlock,Exit.then]);refine bodyPost_ret (by simp (maxDischargeDepth:=9) [results,Tryz.results134,go_sem,hc1,hz1_0,hz1_1];try rfl) rfl ?_
   exact⟨none,0,rfl,Own.nil _ _ _,bbel⟩

theorem chk_lim {v k:Nat} (h:v<4294967296^k) (hk:k≤16384):chk (limbs v)=0:=chk_limbs_of (Nat.le_trans ((length_limbs_le v k).2 h) hk)
theorem downS_lim {v k:Nat} (h:v<4294967296^k) (hk:k≤16384) (n:Nat):downS (limbs v) (n:Int)=(limbs (v/2^n),0):=by
 unfold downS;rw[if_pos (chk_lim h hk),if_neg (by omega),val_limbs,Int.toNat_natCast]
theorem upS_lim {v k:Nat} (h:v<4294967296^k) (hk:k≤10000) (n:Nat) (hn:n≤100000):upS (limbs v) (n:Int)=(limbs (v*2^n),0):=by
 unfold upS
 rw[if_pos (chk_lim h (by omega)),if_neg (by omega),val_limbs,Int.toNat_natCast]
 by_cases h0:limbs v=[]
 · rw[if_pos h0]
   have:v=0:=limbs_eq_nil.1 h0
   rw[this,Nat.zero_mul];rfl
 · rw[if_neg h0,if_neg]
   have h1:v<2^(32*k):=by rw[Nat.pow_mul];exact h
   have h2:bitLen v≤32*k:=by
    unfold bitLen
    split
    · omega
    · rename_i h3;have:=(Nat.log2_lt h3).2 h1;omega
   omega
theorem bitsS_lim {v k:Nat} (h:v<4294967296^k) (hk:k≤16384):bitsS (limbs v)=(((bitLen v:Nat):Int),0):=by
 unfold bitsS;rw[if_pos (chk_lim h hk),val_limbs]

theorem ref_Mul (A B:Option Addr) (a b:List Nat) (n m c d:Nat) (hn:n=a.length) (hm:m=b.length) (w:World) (ha:Rd w A a) (hb:Rd w B b):
 Calls Tryz.prog 177 #[.agg #[.slice A n c],.agg #[.slice B m d]] w (NatAns 153 w (mulS a b)):=by
 subst hn hm
 have hla:=ha.len
 have hlb:=hb.len
 have ha2:=((ha.alloc (Obj.cells #[Value.slice A a.length c] 67)).alloc (Obj.cells #[Value.slice B b.length d] 67)).alloc (Obj.cells #[Value.slice none 0 0] 67)
 have hb2:=((hb.alloc (Obj.cells #[Value.slice A a.length c] 67)).alloc (Obj.cells #[Value.slice B b.length d] 67)).alloc (Obj.cells #[Value.slice none 0 0] 67)
 by_cases hz:chk2 a b=0
 · have hl1:=(chk_zero (chk2_zero hz).1).1
   have hl2:=(chk_zero (chk2_zero hz).2).1
   have HZ:=Lib.hid hz
   by_cases hbig:16385<a.length+b.length
   · have e:mulS a b=([],4):=by unfold mulS;rw[if_pos hz,if_pos hbig]
     rw[e]
     clear hz
     go_enter Tryz.func177,Tryz.ntmps177
     go_wp2_with fail
     refine(ref_two A B a b _ _ c d rfl rfl _ ha2 hb2).mono ?_
     rintro e w1 ⟨rfl,hb1⟩
     rw[HZ.out]
     obtain⟨hc1,hf1⟩:=bcell hb1
     have hbw1:Below w.heap.size w w1:=Below.trans (b:=_) bbel (hb1.mono (by go_size))
     have hz1_0:w.heap.size<w1.heap.size:=by have:=hb1.size;simp at this;omega
     have hz1_1:w.heap.size+1<w1.heap.size:=by have:=hb1.size;simp at this;omega
     have hz1_2:w.heap.size+2<w1.heap.size:=by have:=hb1.size;simp at this;omega
     go_wp2
     (try simp only[Exit.inBlock,Exit.then]);refine bodyPost_ret (by simp (maxDischargeDepth:=9) [results,Tryz.results177,go_sem,hc1,hz1_0,hz1_1,hz1_2];try rfl) rfl ?_
     exact⟨none,0,rfl,Own.nil _ _ _,bbel⟩
   · have e:mulS a b=fitS (val a*val b):=by unfold mulS;rw[if_pos hz,if_neg hbig]
     rw[e]
     clear hz
     go_enter Tryz.func177,Tryz.ntmps177
     go_wp2_with fail
     refine(ref_two A B a b _ _ c d rfl rfl _ ha2 hb2).mono ?_
     rintro e w1 ⟨rfl,hb1⟩
     rw[HZ.out]
     obtain⟨hc1,hf1⟩:=bcell hb1
     have hbw1:Below w.heap.size w w1:=Below.trans (b:=_) bbel (hb1.mono (by go_size))
     have hz1_0:w.heap.size<w1.heap.size:=by have:=hb1.size;simp at this;omega
     have hz1_1:w.heap.size+1<w1.heap.size:=by have:=hb1.size;simp at this;omega
     have hz1_2:w.heap.size+2<w1.heap.size:=by have:=hb1.size;simp at this;omega
     go_wp2_with fail
     refine(ref_times A B a b _ _ c d rfl rfl (by omega) _ (ha2.below hb1) (hb2.below hb1)).mono ?_
     rintro e w2 ⟨A2,c2,rfl,hle2,ho2,hb2'⟩
     have hz2:w.heap.size+2<w2.heap.size:=by have:=hb2'.size;omega
     have hc2:w2.cell? ⟨w.heap.size+2,0,none⟩=some (Value.slice none 0 0):=by
      rw[below_cell hb2' (by omega),hc1 _ _ (by simp)]
      simp[go_sem]
     have hf2:w2.frozen? ⟨w.heap.size+2,0,none⟩=false:=by
      rw[below_frozen hb2' (by omega),hf1 _ _ (by simp)]
      simp[go_sem]
     go_wp2_with fail
     refine(ref_fits A2 c2 _ w1.heap.size _ rfl hle2 _ ho2 hb2'.size).mono ?_
     rw[val_limbs]
     rintro e w3 ⟨A3,c3,rfl,ho3,hb3⟩
     have hz3:w.heap.size+2<w3.heap.size:=by have:=hb3.size;omega
     have hc3:w3.cell? ⟨w.heap.size+2,0,none⟩=some (Value.slice none 0 0):=by rw[below_cell hb3 hz2];exact hc2
     have hf3:w3.frozen? ⟨w.heap.size+2,0,none⟩=false:=by rw[below_frozen hb3 hz2];exact hf2
     have hbw3:Below w.heap.size w w3:=(hbw1.trans (hb2'.mono (by omega))).trans (hb3.mono (by omega))
     clear hc1 hf1 hc2 hf2
     go_wp2
     (try simp only[Exit.inBlock,Exit.then]);refine bodyPost_ret (by simp (maxDischargeDepth:=9) [results,Tryz.results177,go_sem,hc3];try rfl) rfl ?_
     exact⟨_,_,rfl,(ho3.setCell (by simp;omega) _).mono (by omega),bbel⟩
 · have e:mulS a b=([],chk2 a b):=by unfold mulS;rw[if_neg hz]
   have hne:(chk2 a b !=0)=true:=by rw[bne_iff_ne];exact hz
   rw[e]
   clear hz
   go_enter Tryz.func177,Tryz.ntmps177
   go_wp2_with fail
   refine(ref_two A B a b _ _ c d rfl rfl _ ha2 hb2).mono ?_
   rintro e w1 ⟨rfl,hb1⟩
   obtain⟨hc1,hf1⟩:=bcell hb1
   have hbw1:Below w.heap.size w w1:=Below.trans (b:=_) bbel (hb1.mono (by go_size))
   have hz1_0:w.heap.size<w1.heap.size:=by have:=hb1.size;simp at this;omega
   have hz1_1:w.heap.size+1<w1.heap.size:=by have:=hb1.size;simp at this;omega
   have hz1_2:w.heap.size+2<w1.heap.size:=by have:=hb1.size;simp at this;omega
   go_wp2
   (try simp only[Exit.inBlock,Exit.then]);refine bodyPost_ret (by simp (maxDischargeDepth:=9) [results,Tryz.results177,go_sem,hc1,hz1_0,hz1_1,hz1_2];try rfl) rfl ?_
   exact⟨none,0,rfl,Own.nil _ _ _,bbel⟩


theorem two_lim {m k:Nat} (h:m<32*k):2^m<4294967296^k:=by
 rw[show 4294967296=2^32 from rfl, ←Nat.pow_mul]
 exact Nat.pow_lt_pow_right (by decide) h

def tenHi (k:Int):Nat:=if farB k=true then 0 else tenN k/2^64
def tenLo (k:Int):Nat:=if farB k=true then 0 else tenN k%2^64
def tenEx (k:Int):Int:=if farB k=true then 0 else tenE k
def tenEr (k:Int):Int:=if farB k=true then 130 else 0
def wholeB (k:Int):Bool:=!farB k&&tenX k
end Go.Proofs.YtenekbfnlbipiaaGreatDoor
