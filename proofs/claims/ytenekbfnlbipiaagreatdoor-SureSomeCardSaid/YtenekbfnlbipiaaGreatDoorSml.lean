/- Walk: a list over a small number, the program's. -/
import Derived.Test.YtenekbfnlbipiaaGreatDoorBgA
import Derived.Test.YtenekbfnlbipiaaGreatDoorA
import Derived.Test.YtenekbfnlbipiaaGreatDoorTnB
import Derived.Deep.AppendLies
import Derived.Deep.RegionHeld3
import Derived.Test.YtenekbfnlbipiaaGreatDoorDvA
import Derived.StillTailTactics
namespace Go.Proofs.YtenekbfnlbipiaaGreatDoor
open Go.RowKit
set_option linter.unusedVariables false
set_option linter.unusedSimpArgs false
set_option maxHeartbeats 4000000
set_option maxRecDepth 100000

def SmallPost (l:List Nat) (d:Nat) (w:World) (e:Ending) (w':World):Prop:=
 ∃o g,o.length=l.length∧Sm o∧val o=val l/d∧e=.returned (.tuple #[.slice (some ⟨g,0,none⟩) l.length l.length,.int .u32 ((val l%d:Nat):Int)])∧w.heap.size≤g∧Row w' 153 g o∧Below w.heap.size w w'

theorem nat_small (A:Option Addr) (l:List Nat) (n c:Nat) (hn:n=l.length) (hl16:l.length≤1000000) (d:Nat) (D:Int) (hD:D=(d:Int)) (hd0:0<d) (hd:d<4294967296) (w:World) (h:Rd w A l):
 Calls Tryz.prog 186 #[.slice A n c,.int .u32 D] w (SmallPost l d w):=by
 subst hn hD
 have hmk:=fun W=>mk32 l.length (l.length:Int) rfl (by omega) W
 go_enter Tryz.func186,Tryz.ntmps186
 go_wp2
 go_loopw [7,8] (fun r i wr=>∃(k:Nat) (o:List Nat) (q:Nat),k≤l.length∧i=.int .i64 ((k:Int)-1)∧r=.int .u32 (q:Int)∧q<d∧o.length=l.length∧Sm o∧val (l.drop k)=d*val (o.drop k)+q∧Row wr 153 w.heap.size o∧Below w.heap.size w wr) (fun _ i _=>(intOf i+1).toNat)
 case atStart=>
  refine⟨l.length,List.replicate l.length 0,0,Nat.le_refl _,rfl,rfl,hd0,by simp,Sm.replicate _,?_,row_new rfl rfl,bbel⟩
  rw[List.drop_length,List.drop_of_length_le (by simp)];rfl
 case round=>
  obtain⟨wo,rfl⟩:∃wo:World,wo=wr:=⟨_,rfl⟩
  obtain⟨k,o,q,hk,rfl,rfl,hq,hlen,hso,hv,hrow,hbl⟩:=hrel
  have HV:=Lib.hid hv
  have HLEN:=Lib.hid hlen
  clear hv hlen
  by_cases hk0:k=0
  · subst hk0
    have E:=Lib.hid (over_div HV.out hq)
    go_wp2
    go_ret2
    exact⟨o,_,HLEN.out,hso,E.out.1,by rw[←E.out.2];rfl,Nat.le_refl _,hrow,hbl⟩
  · obtain⟨k,rfl⟩:∃j,k=j+1:=⟨k-1,by omega⟩
    obtain⟨b,off,rfl,hc1⟩:=rd_at h hbl (k:=k) (by omega)
    have hlt:=h.sm.nth k
    have hcw:=hrow.cell k (by rw[HLEN.out];omega)
    have hfz:=hrow.frozen k
    go_wp2_with fail
    refine(bits_Div32 _ _ _ q (nth l k) d rfl rfl rfl hq hlt hd _).mono ?_
    rintro e w1 ⟨rfl,hb1⟩
    have hrow1:=hrow.below hb1 hrow.lt
    have hbw1:=hbl.trans (hb1.mono hbl.size)
    have hcw1:=hrow1.cell k (by rw[HLEN.out];omega)
    have hfz1:=hrow1.frozen k
    go_wp2
    go_roundw
    case rel=>
     refine⟨k,o.set k ((q*4294967296+nth l k)/d),(q*4294967296+nth l k)%d,by omega,by go_num,rfl,Nat.mod_lt _ hd0,by simp[HLEN.out],hso.set _ _ (by rw[Nat.div_lt_iff_lt_mul hd0,Nat.mul_comm];have:=Nat.mul_le_mul_left 4294967296 (show q+1≤d from hq);omega),?_,hrow1.setE _ _ rfl,bbel⟩
     exact over_step (by rw[HLEN.out];omega) hd0 HV.out
    case measure=>first|(simp[intOf];done)|(simp[intOf];omega)


section
variable {P:Program} {ops:Array Oper} {o:Oper} {a:Act} {w:World} {K:Act→World→Prop} {Q:Exit→Act→World→Prop} {E':Prop} {B:Nat} {t e:TypeId} {v:Value} {l:List Nat}
theorem step_apps {k:IntKind} (E:ElemOf P t e k) (hgd:o.guard=none) (s x:Operand) (ho:o.op=.call { callee:=.builtin .append,args:=#[s,x],argTypes:=#[t,t] })
 (hown:OwnR w B e k v l) (hs:a.eval s=v) (A:Option Addr) (m:List Nat) (mm c:Nat) (hm:mm=m.length) (hx:a.eval x=.slice A mm c)
 (hcell:0<m.length→∃b off,A=some ⟨b,off,none⟩∧∀j,j<m.length→w.cell? ⟨b,off+j,none⟩=some (.int k ((nth m j:Nat):Int)))
 (hlen:(l.length+m.length)*8≤140737488355328) (hB:B≤w.heap.size)
 (h:∀v' w',OwnR w' B e k v' (l++m)→w.grownBy w' v.ownBlock→Below B w w'→K (a.put o.dst v') w'):
 if Region.wanted o (yielded ops a.tmps)=true then Oper.wp P o a w K Q else E':=by
 subst hm
 have hw:Region.wanted o (yielded ops a.tmps)=true:=by simp[Region.wanted,hgd]
 rw[if_pos hw]
 obtain⟨i,b,hi,hz,hsz,hby,hb8⟩:=E.hi
 have hbytes:(l.length+m.length)*b≤140737488355328:=by
  have:(l.length+m.length)*b≤(l.length+m.length)*8:=Nat.mul_le_mul_left _ hb8
  omega
 have hlen':l.length+m.length≤maxLen:=by unfold maxLen;omega
 by_cases h0:0<m.length
 · obtain⟨bb,off,rfl,hc⟩:=hcell h0
   refine wp_append_lies w s x t ho B e i (.int k 0) 1 b E.ht hi hz hsz hby rfl (by decide) v l.length (ints k l) hs hown ⟨bb,off,none⟩ m.length c (ints k m) hx (by simp) ?_ ?_ h0 hlen' hbytes hB _ rfl ?_
   · intro j u hj
     have hjl:j<m.length:=by
      rcases Nat.lt_or_ge j m.length with h1|h1
      · exact h1
      · rw[List.getElem?_eq_none (by simpa using h1)] at hj;cases hj
     rw[ints_get k m j hjl] at hj
     injection hj with hj
     subst hj
     have:(⟨bb,off,none⟩:Addr).add j=⟨bb,off+j,none⟩:=by unfold Addr.add;split <;> simp_all
     rw[this];exact hc j hjl
   · intro u hu
     simp only[ints,List.mem_map] at hu
     obtain⟨z,_,rfl⟩:=hu
     rfl
   · intro g cap w' h1 h2 _ _
     refine h _ w' ?_ h2 (below_grown h2 hown hB)
     unfold OwnR
     rw[List.length_append,ints_append]
     exact h1
 · have hm0:m=[]:=List.eq_nil_of_length_eq_zero (by omega)
   subst hm0
   have hrun:(Builtin.append_ #[t,t] o.type #[v,.slice A 0 c]).run P w=.ok v w:=by
    rcases hown.2 with ⟨rfl,_⟩|⟨g,cap,cur,rfl,_,_,hnc,_⟩
    · cases A <;> simp[Builtin.append_,run_underlying E.ht,sizeOf,typeInfo,hi,Builtin.lenOf,Builtin.firstCells,loadCells,loadCellsFrom]
    · cases A <;> simp[Builtin.append_,run_underlying E.ht,sizeOf,typeInfo,hi,Builtin.lenOf,Builtin.firstCells,loadCells,loadCellsFrom,hnc,storeCells]
   unfold Oper.wp execOp
   simp only[ho,resolve,invoke,builtin,Sem.run_bind,Sem.run_pure,Result.andThen_ok,List.map_toArray,List.map_cons,List.map_nil,hs,hx,List.length_nil,hrun]
   refine h v w ?_ (World.grownBy.refl w _) (Below.refl _ _)
   simpa using hown
end

theorem val_one {b:List Nat} (h:b.length=1):val b=nth b 0:=by
 match b,h with
 |[x],_=>simp[val,nth]
theorem nat_Div_bad (A B:Option Addr) (a b:List Nat) (n m c d:Nat) (hm:m=a.length) (hn:n=b.length) (hz:¬chk2 a b=0) (w:World) (ha:Rd w A a) (hb:Rd w B b):
 Calls Tryz.prog 133 #[.agg #[.slice A m c],.agg #[.slice B n d]] w (DivAns w (divS a b)):=by
 have ha2:=((((ha.alloc (Obj.cells #[Value.slice A m c] 67)).alloc (Obj.cells #[Value.slice B n d] 67)).alloc (Obj.cells #[Value.slice none 0 0] 67)).alloc (Obj.cells #[Value.slice none 0 0] 67)).alloc (Obj.cells #[Value.slice A m c,Value.slice B n d] 67)
 have hb2:=((((hb.alloc (Obj.cells #[Value.slice A m c] 67)).alloc (Obj.cells #[Value.slice B n d] 67)).alloc (Obj.cells #[Value.slice none 0 0] 67)).alloc (Obj.cells #[Value.slice none 0 0] 67)).alloc (Obj.cells #[Value.slice A m c,Value.slice B n d] 67)
 have e:divS a b=([],[],chk2 a b):=by unfold divS;rw[if_neg hz]
 have hne:(chk2 a b !=0)=true:=by rw[bne_iff_ne];exact hz
 have HM:=Lib.hid hm
 have HN:=Lib.hid hn
 rw[e]
 clear hz e hm hn
 go_enter Tryz.func133,Tryz.ntmps133
 go_wp2_with fail
 go_step3
 go_wp2_with fail
 refine(nat_checks _ A B a b _ _ c d HM.out HN.out _ ha2 hb2 (by simp[go_sem]) (by simp[go_sem])).mono ?_
 rintro e w1 ⟨rfl,hb1⟩
 obtain⟨hc1,hf1⟩:=bcell hb1
 have hbw1:Below w.heap.size w w1:=Below.trans (b:=_) bbel (hb1.mono (by go_size))
 have hz1_0:w.heap.size<w1.heap.size:=by have:=hb1.size;simp at this;omega
 have hz1_1:w.heap.size+1<w1.heap.size:=by have:=hb1.size;simp at this;omega
 have hz1_2:w.heap.size+2<w1.heap.size:=by have:=hb1.size;simp at this;omega
 have hz1_3:w.heap.size+3<w1.heap.size:=by have:=hb1.size;simp at this;omega
 have hz1_4:w.heap.size+4<w1.heap.size:=by have:=hb1.size;simp at this;omega
 have c2:w1.cell? ⟨w.heap.size+2,0,none⟩=some (Value.slice none 0 0):=by rw[hc1 _ _ (by go_size)];simp[go_sem]
 have c3:w1.cell? ⟨w.heap.size+3,0,none⟩=some (Value.slice none 0 0):=by rw[hc1 _ _ (by go_size)];simp[go_sem]
 have f2:w1.frozen? ⟨w.heap.size+2,0,none⟩=false:=by rw[hf1 _ _ (by go_size)];simp[go_sem]
 have f3:w1.frozen? ⟨w.heap.size+3,0,none⟩=false:=by rw[hf1 _ _ (by go_size)];simp[go_sem]
 clear hc1 hf1 hb1 ha2 hb2
 go_wp2_with fail
 go_region_with (fail)
 all_goals (
  go_wp2
  (try simp only[Exit.inBlock,Exit.then]);refine bodyPost_ret (by simp (maxDischargeDepth:=9) [results,Tryz.results133,go_sem,c2,c3,hz1_2,hz1_3];try rfl) rfl ?_
  exact⟨none,0,none,0,rfl,Own.nil _ _ _,Own.nil _ _ _,bbel⟩)
theorem nat_Div_zero (A B:Option Addr) (a b:List Nat) (n m c d:Nat) (hm:m=a.length) (hn:n=b.length) (hz:chk2 a b=0) (hn0:n=0) (w:World) (ha:Rd w A a) (hb:Rd w B b):
 Calls Tryz.prog 133 #[.agg #[.slice A m c],.agg #[.slice B n d]] w (DivAns w (divS a b)):=by
 have ha2:=((((ha.alloc (Obj.cells #[Value.slice A m c] 67)).alloc (Obj.cells #[Value.slice B n d] 67)).alloc (Obj.cells #[Value.slice none 0 0] 67)).alloc (Obj.cells #[Value.slice none 0 0] 67)).alloc (Obj.cells #[Value.slice A m c,Value.slice B n d] 67)
 have hb2:=((((hb.alloc (Obj.cells #[Value.slice A m c] 67)).alloc (Obj.cells #[Value.slice B n d] 67)).alloc (Obj.cells #[Value.slice none 0 0] 67)).alloc (Obj.cells #[Value.slice none 0 0] 67)).alloc (Obj.cells #[Value.slice A m c,Value.slice B n d] 67)
 have hv0:val b=0:=by
  have:b=[]:=List.eq_nil_of_length_eq_zero (by omega)
  rw[this];rfl
 have e:divS a b=([],[],11):=by unfold divS;rw[if_pos hz,if_pos hv0]
 have n0:((n:Int)==0)=true:=by rw[beq_iff_eq];omega
 have HM:=Lib.hid hm
 have HN:=Lib.hid hn
 have HZ:=Lib.hid hz
 rw[e]
 clear hz e hm hn hn0 hv0
 go_enter Tryz.func133,Tryz.ntmps133
 go_wp2_with fail
 go_step3
 go_wp2_with fail
 refine(nat_checks _ A B a b _ _ c d HM.out HN.out _ ha2 hb2 (by simp[go_sem]) (by simp[go_sem])).mono ?_
 rintro e w1 ⟨rfl,hb1⟩
 rw[HZ.out]
 obtain⟨hc1,hf1⟩:=bcell hb1
 have hbw1:Below w.heap.size w w1:=Below.trans (b:=_) bbel (hb1.mono (by go_size))
 have hz1_0:w.heap.size<w1.heap.size:=by have:=hb1.size;simp at this;omega
 have hz1_1:w.heap.size+1<w1.heap.size:=by have:=hb1.size;simp at this;omega
 have hz1_2:w.heap.size+2<w1.heap.size:=by have:=hb1.size;simp at this;omega
 have hz1_3:w.heap.size+3<w1.heap.size:=by have:=hb1.size;simp at this;omega
 have hz1_4:w.heap.size+4<w1.heap.size:=by have:=hb1.size;simp at this;omega
 have c1:w1.cell? ⟨w.heap.size+1,0,none⟩=some (Value.slice B n d):=by rw[hc1 _ _ (by go_size)];simp[go_sem]
 have c2:w1.cell? ⟨w.heap.size+2,0,none⟩=some (Value.slice none 0 0):=by rw[hc1 _ _ (by go_size)];simp[go_sem]
 have c3:w1.cell? ⟨w.heap.size+3,0,none⟩=some (Value.slice none 0 0):=by rw[hc1 _ _ (by go_size)];simp[go_sem]
 have f2:w1.frozen? ⟨w.heap.size+2,0,none⟩=false:=by rw[hf1 _ _ (by go_size)];simp[go_sem]
 have f3:w1.frozen? ⟨w.heap.size+3,0,none⟩=false:=by rw[hf1 _ _ (by go_size)];simp[go_sem]
 clear hc1 hf1 hb1 ha2 hb2
 go_wp2_with fail
 go_region_with (fail)
 all_goals (
  go_wp2
  (try simp only[Exit.inBlock,Exit.then]);refine bodyPost_ret (by simp (maxDischargeDepth:=9) [results,Tryz.results133,go_sem,c2,c3,hz1_2,hz1_3];try rfl) rfl ?_
  exact⟨none,0,none,0,rfl,Own.nil _ _ _,Own.nil _ _ _,bbel⟩)

theorem nat_Div_less (A B:Option Addr) (a b:List Nat) (n m c d:Nat) (hm:m=a.length) (hn:n=b.length) (hz:chk2 a b=0) (hn0:n≠0) (hlt:val a<val b) (w:World) (ha:Rd w A a) (hb:Rd w B b):
 Calls Tryz.prog 133 #[.agg #[.slice A m c],.agg #[.slice B n d]] w (DivAns w (divS a b)):=by
 have ha2:=((((ha.alloc (Obj.cells #[Value.slice A m c] 67)).alloc (Obj.cells #[Value.slice B n d] 67)).alloc (Obj.cells #[Value.slice none 0 0] 67)).alloc (Obj.cells #[Value.slice none 0 0] 67)).alloc (Obj.cells #[Value.slice A m c,Value.slice B n d] 67)
 have hb2:=((((hb.alloc (Obj.cells #[Value.slice A m c] 67)).alloc (Obj.cells #[Value.slice B n d] 67)).alloc (Obj.cells #[Value.slice none 0 0] 67)).alloc (Obj.cells #[Value.slice none 0 0] 67)).alloc (Obj.cells #[Value.slice A m c,Value.slice B n d] 67)
 have hv0:val b≠0:=by omega
 have e:divS a b=([],a,0):=by
  unfold divS;rw[if_pos hz,if_neg hv0,Nat.div_eq_of_lt hlt,Nat.mod_eq_of_lt hlt,limbs_of ha.sm (chk_zero (chk2_zero hz).1).2];rfl
 have hal:limbs (val a)=a:=limbs_of ha.sm (chk_zero (chk2_zero hz).1).2
 have hl1:a.length≤16384:=(chk_zero (chk2_zero hz).1).1
 have hcmp:decide (cmpL a b<0)=true:=by
  rw[decide_eq_true_iff,cmpL_canon ha.sm hb.sm (chk_zero (chk2_zero hz).1).2 (chk_zero (chk2_zero hz).2).2]
  unfold cmpV
  rw[if_pos hlt];decide
 have n0:((n:Int)==0)=false:=by rw[beq_eq_false_iff_ne];omega
 have HM:=Lib.hid hm
 have HN:=Lib.hid hn
 have HZ:=Lib.hid hz
 have HAL:=Lib.hid hal
 rw[e]
 clear hz e hm hn hn0 hv0 hlt hal
 go_enter Tryz.func133,Tryz.ntmps133
 go_wp2_with fail
 go_step3
 go_wp2_with fail
 refine(nat_checks _ A B a b _ _ c d HM.out HN.out _ ha2 hb2 (by simp[go_sem]) (by simp[go_sem])).mono ?_
 rintro e w1 ⟨rfl,hb1⟩
 rw[HZ.out]
 obtain⟨hc1,hf1⟩:=bcell hb1
 have hbw1:Below w.heap.size w w1:=Below.trans (b:=_) bbel (hb1.mono (by go_size))
 have hz1_0:w.heap.size<w1.heap.size:=by have:=hb1.size;simp at this;omega
 have hz1_1:w.heap.size+1<w1.heap.size:=by have:=hb1.size;simp at this;omega
 have hz1_2:w.heap.size+2<w1.heap.size:=by have:=hb1.size;simp at this;omega
 have hz1_3:w.heap.size+3<w1.heap.size:=by have:=hb1.size;simp at this;omega
 have hz1_4:w.heap.size+4<w1.heap.size:=by have:=hb1.size;simp at this;omega
 have ha1:=ha2.below hb1
 have hb1r:=hb2.below hb1
 clear ha2 hb2
 go_wp2_with fail
 refine(nat_cmp A B a b _ _ c d HM.out HN.out _ ha1 hb1r).mono ?_
 rintro e w2 ⟨rfl,hb2⟩
 have hbw2:=hbw1.trans (hb2.mono hbw1.size)
 have hz2:=hb2.size
 have c0:w2.cell? ⟨w.heap.size,0,none⟩=some (Value.slice A m c):=by rw[below_cell hb2 (by omega),hc1 _ _ (by go_size)];simp[go_sem]
 have c2:w2.cell? ⟨w.heap.size+2,0,none⟩=some (Value.slice none 0 0):=by rw[below_cell hb2 (by omega),hc1 _ _ (by go_size)];simp[go_sem]
 have c3:w2.cell? ⟨w.heap.size+3,0,none⟩=some (Value.slice none 0 0):=by rw[below_cell hb2 (by omega),hc1 _ _ (by go_size)];simp[go_sem]
 have f2:w2.frozen? ⟨w.heap.size+2,0,none⟩=false:=by rw[below_frozen hb2 (by omega),hf1 _ _ (by go_size)];simp[go_sem]
 have f3:w2.frozen? ⟨w.heap.size+3,0,none⟩=false:=by rw[below_frozen hb2 (by omega),hf1 _ _ (by go_size)];simp[go_sem]
 have z3:w.heap.size+3<w2.heap.size:=by omega
 have z2:w.heap.size+2<w2.heap.size:=by omega
 have z0:w.heap.size<w2.heap.size:=by omega
 have ha3':Rd w2 A a:=ha1.below hb2
 have ha3:Rd w2.drew A a:=ha3'
 have hbw2':Below w.heap.size w w2.drew:=hbw2.drew
 clear hc1 hf1 hb1 hb2 ha1 hb1r hz1_0 hz1_1 hz1_2 hz1_3 hz1_4 hbw1
 have hm16:m≤16384:=by have:=HM.out;omega
 have hbd:Below w2.heap.size w2 w2.drew:=(Below.refl _ _).drew
 have n01:w.heap.size+2≠w.heap.size:=by omega
 have n03:w.heap.size+3≠w.heap.size:=by omega
 have n23:w.heap.size+3≠w.heap.size+2:=by omega
 go_wp2_with fail
 go_region_held3 (fun w'=>w'.cell? ⟨w.heap.size,0,none⟩=some (.slice A m c)∧w'.cell? ⟨w.heap.size+2,0,none⟩=some (.slice none 0 0))
  (first
   |exact⟨e0,e2⟩|exact⟨k0,k2⟩|exact⟨c0,c2⟩|go_keep
   |exact kA|exact kB)
  (first
   |((refine step_apps elemU (by rfl) _ _ (by rfl) (OwnR.nil _ w2.heap.size _ _) (by rfl) A a m c HM.out (by rfl) (fun h0=>ha3.open_ h0) (by simp;omega) nrf ?_;intro v1 w4 hown1 hgr1 hb4;rw[List.nil_append] at hown1;obtain⟨A1,c1,rfl,hle1,ho1⟩:=hown1.own ha.sm (by omega);have hb4':Below w2.heap.size w2 w4:=hbd.trans hb4;have k0:=cell_keep hb4' c0;have k2:=cell_keep hb4' c2))
   |(go_at_call 182;refine(nat_trimmed_own2 A1 a a.length c1 w2.heap.size rfl hle1 _ ho1).mono ?_;rw[HAL.out];rintro e w5 ⟨A2,c5,rfl,ho2,hb5⟩;have hb35:=hb4'.trans (hb5.mono hb4'.size);have e0:=cell_keep hb35 c0;have e2:=cell_keep hb35 c2;have e3:=cell_keep hb35 c3;have kA:(w5.setCell ⟨w.heap.size+2,0,none⟩ (.slice none 0 0)).cell? ⟨w.heap.size,0,none⟩=some (.slice A m c)∧(w5.setCell ⟨w.heap.size+2,0,none⟩ (.slice none 0 0)).cell? ⟨w.heap.size+2,0,none⟩=some (.slice none 0 0):=⟨(World.cell?_setCell_far _ _ _ _ n01).trans e0,(by first|exact World.cell?_setCell_same _ _ _ e2|exact World.cell?_setCell_same _ e2|exact World.cell?_setCell_same _ _ e2)⟩;have kB:((w5.setCell ⟨w.heap.size+2,0,none⟩ (.slice none 0 0)).setCell ⟨w.heap.size+3,0,none⟩ (.slice A2 a.length c5)).cell? ⟨w.heap.size,0,none⟩=some (.slice A m c)∧((w5.setCell ⟨w.heap.size+2,0,none⟩ (.slice none 0 0)).setCell ⟨w.heap.size+3,0,none⟩ (.slice A2 a.length c5)).cell? ⟨w.heap.size+2,0,none⟩=some (.slice none 0 0):=⟨(World.cell?_setCell_far _ _ _ _ n03).trans kA.1,(World.cell?_setCell_far _ _ _ _ n23).trans kA.2⟩;have ef2:=(below_frozen hb35 (b:=w.heap.size+2) (o:=0) z2).trans f2;have ef3:=(below_frozen hb35 (b:=w.heap.size+3) (o:=0) z3).trans f3;have y3:w.heap.size+3<w5.heap.size:=Nat.lt_of_lt_of_le z3 hb35.size;have y2:w.heap.size+2<w5.heap.size:=Nat.lt_of_lt_of_le z2 hb35.size;have hbw5:=hbw2.trans (hb35.mono hbw2.size)))
 all_goals (
  go_wp2
  (try simp only[Exit.inBlock,Exit.then]);refine bodyPost_ret (by simp (maxDischargeDepth:=9) [results,Tryz.results133,go_sem,e2,e3,y2,y3];try rfl) rfl ?_
  exact⟨none,0,A2,c5,rfl,Own.nil _ _ _,((ho2.setCell (p:=⟨w.heap.size+2,0,none⟩) z2 _).setCell (p:=⟨w.heap.size+3,0,none⟩) z3 _).mono hbw2.size,(hbw5.setCell (p:=⟨w.heap.size+2,0,none⟩) (Nat.le_add_right _ _) _).setCell (p:=⟨w.heap.size+3,0,none⟩) (Nat.le_add_right _ _) _⟩)

theorem nat_Div_one (A B:Option Addr) (a b:List Nat) (n m c d:Nat) (hm:m=a.length) (hn:n=b.length) (hz:chk2 a b=0) (hn1:n=1) (hge:val b≤val a) (w:World) (ha:Rd w A a) (hb:Rd w B b):
 Calls Tryz.prog 133 #[.agg #[.slice A m c],.agg #[.slice B n d]] w (DivAns w (divS a b)):=by
 subst hn1
 have ha2:=((((ha.alloc (Obj.cells #[Value.slice A m c] 67)).alloc (Obj.cells #[Value.slice B 1 d] 67)).alloc (Obj.cells #[Value.slice none 0 0] 67)).alloc (Obj.cells #[Value.slice none 0 0] 67)).alloc (Obj.cells #[Value.slice A m c,Value.slice B 1 d] 67)
 have hb2:=((((hb.alloc (Obj.cells #[Value.slice A m c] 67)).alloc (Obj.cells #[Value.slice B 1 d] 67)).alloc (Obj.cells #[Value.slice none 0 0] 67)).alloc (Obj.cells #[Value.slice none 0 0] 67)).alloc (Obj.cells #[Value.slice A m c,Value.slice B 1 d] 67)
 have hv1:=val_one hn.symm
 have hd:=hb.sm.nth 0
 have hlast:=(chk_zero (chk2_zero hz).2).2
 have hd0:nth b 0≠0:=by
  have:=last_nth (l:=b) (by intro e;rw[e] at hn;simp at hn)
  rw[←hn] at this
  rw[this] at hlast
  intro e;exact hlast (by rw[show 1-1=0 from rfl,e])
 have e:divS a b=(limbs (val a/nth b 0),limbs (val a%nth b 0),0):=by
  unfold divS;rw[if_pos hz,hv1,if_neg hd0]
 have hl1:a.length≤16384:=(chk_zero (chk2_zero hz).1).1
 have hcmp:decide (cmpL a b<0)=false:=by
  rw[decide_eq_false_iff_not,cmpL_canon ha.sm hb.sm (chk_zero (chk2_zero hz).1).2 hlast]
  unfold cmpV
  rw[if_neg (by omega)]
  split <;> decide
 have hdp:0<nth b 0:=by omega
 have HM:=Lib.hid hm
 have HN:=Lib.hid hn
 have HZ:=Lib.hid hz
 rw[e]
 clear hz e hm hn hv1 hge hlast hd0
 go_enter Tryz.func133,Tryz.ntmps133
 go_wp2_with fail
 go_step3
 go_wp2_with fail
 refine(nat_checks _ A B a b _ _ c d HM.out HN.out _ ha2 hb2 (by simp[go_sem]) (by simp[go_sem])).mono ?_
 rintro e w1 ⟨rfl,hb1⟩
 rw[HZ.out]
 obtain⟨hc1,hf1⟩:=bcell hb1
 have hbw1:Below w.heap.size w w1:=Below.trans (b:=_) bbel (hb1.mono (by go_size))
 have hz1_0:w.heap.size<w1.heap.size:=by have:=hb1.size;simp at this;omega
 have hz1_1:w.heap.size+1<w1.heap.size:=by have:=hb1.size;simp at this;omega
 have hz1_2:w.heap.size+2<w1.heap.size:=by have:=hb1.size;simp at this;omega
 have hz1_3:w.heap.size+3<w1.heap.size:=by have:=hb1.size;simp at this;omega
 have hz1_4:w.heap.size+4<w1.heap.size:=by have:=hb1.size;simp at this;omega
 have ha1:=ha2.below hb1
 have hb1r:=hb2.below hb1
 clear ha2 hb2
 go_wp2_with fail
 refine(nat_cmp A B a b _ _ c d HM.out HN.out _ ha1 hb1r).mono ?_
 rintro e w2 ⟨rfl,hb2⟩
 have hbw2:=hbw1.trans (hb2.mono hbw1.size)
 have hz2:=hb2.size
 have c0:w2.cell? ⟨w.heap.size,0,none⟩=some (Value.slice A m c):=by rw[below_cell hb2 (by omega),hc1 _ _ (by go_size)];simp[go_sem]
 have c1:w2.cell? ⟨w.heap.size+1,0,none⟩=some (Value.slice B 1 d):=by rw[below_cell hb2 (by omega),hc1 _ _ (by go_size)];simp[go_sem]
 have c2:w2.cell? ⟨w.heap.size+2,0,none⟩=some (Value.slice none 0 0):=by rw[below_cell hb2 (by omega),hc1 _ _ (by go_size)];simp[go_sem]
 have c3:w2.cell? ⟨w.heap.size+3,0,none⟩=some (Value.slice none 0 0):=by rw[below_cell hb2 (by omega),hc1 _ _ (by go_size)];simp[go_sem]
 have f2:w2.frozen? ⟨w.heap.size+2,0,none⟩=false:=by rw[below_frozen hb2 (by omega),hf1 _ _ (by go_size)];simp[go_sem]
 have f3:w2.frozen? ⟨w.heap.size+3,0,none⟩=false:=by rw[below_frozen hb2 (by omega),hf1 _ _ (by go_size)];simp[go_sem]
 have z3:w.heap.size+3<w2.heap.size:=by omega
 have z2:w.heap.size+2<w2.heap.size:=by omega
 have z1:w.heap.size+1<w2.heap.size:=by omega
 have z0:w.heap.size<w2.heap.size:=by omega
 have ha3':Rd w2 A a:=ha1.below hb2
 have ha3:Rd w2.drew A a:=ha3'
 have hbd:Below w2.heap.size w2 w2.drew:=(Below.refl _ _).drew
 obtain⟨bb,ob,rfl,hcb⟩:=rd_at (hb1r.below hb2) (Below.refl _ _) (k:=0) (by have:=HN.out;omega)
 rw[Nat.add_zero] at hcb
 have hcbL:=cell_lt hcb
 simp only at hcbL
 have hm16:m≤16384:=by have:=HM.out;omega
 clear hc1 hf1 hb1 hb2 ha1 hb1r hz1_0 hz1_1 hz1_2 hz1_3 hz1_4 hbw1 ha3' hb
 go_wp2_with fail
 go_region_held3 (fun w'=>w'.cell? ⟨w.heap.size,0,none⟩=some (.slice A m c)∧w'.cell? ⟨w.heap.size+1,0,none⟩=some (.slice (some ⟨bb,ob,none⟩) 1 d)∧w'.cell? ⟨bb,ob,none⟩=some (.int .u32 ((nth b 0:Nat):Int)))
  (first|exact⟨c0,c1,hcb⟩|exact⟨k0,k1,kb⟩|go_keep)
  ((go_at_call 186;refine(nat_small A a m c HM.out (by omega) (nth b 0) _ rfl hdp hd _ ha3).mono ?_;rintro e w3 ⟨o,g,hol,hos,hov,rfl,hg,hrow,hb3⟩;have hb23:=hbd.trans hb3;have k0:=cell_keep hb23 c0;have k1:=cell_keep hb23 c1;have kb:=cell_keep hb23 hcb))
 all_goals (
  have k2:=cell_keep hb23 c2
  have k3:=cell_keep hb23 c3
  have m2:=(below_frozen hb23 (b:=w.heap.size+2) (o:=0) z2).trans f2
  have m3:=(below_frozen hb23 (b:=w.heap.size+3) (o:=0) z3).trans f3
  have hg2:w2.heap.size≤g:=hg
  have HOL:=Lib.hid hol
  have hr64:val a%nth b 0<18446744073709551616:=by have:=Nat.mod_lt (val a) hdp;omega
  clear hol hg c0 c1 c2 c3 f2 f3 hcb k0 k1 kb
  go_wp2_with fail
  refine(trimmed_at g o a.length a.length w2.heap.size HOL.out.symm nrf _ hrow hos (by rw[HOL.out];omega) hg2 _ hov).mono ?_
  rintro e w4 ⟨Aq,cq,rfl,hq,_,hb4⟩
  have hb24:=hb23.trans (hb4.mono hb23.size)
  go_wp2_with fail
  refine(nat_Of _ (val a%nth b 0) rfl hr64 _).mono ?_
  rintro e w5 ⟨Ar,cr,rfl,hr,hb5⟩
  have hb45:=hb4.trans (hb5.mono hb4.size)
  have hb25:=hb24.trans (hb5.mono hb24.size)
  have hq5:=hq.below hb5 nrf
  have e2:=cell_keep hb45 k2
  have e3:=cell_keep hb45 k3
  have ef2:=(below_frozen hb45 (b:=w.heap.size+2) (o:=0) (cell_lt k2)).trans m2
  have ef3:=(below_frozen hb45 (b:=w.heap.size+3) (o:=0) (cell_lt k3)).trans m3
  have y2:=cell_lt e2
  have y3:=cell_lt e3
  simp only at y2 y3
  have hr2:=hr.mono (show w2.heap.size≤w4.heap.size from hb24.size)
  have hbw5:=hbw2.trans (hb25.mono hbw2.size)
  go_wp2
  (try simp only[Exit.inBlock,Exit.then]);refine bodyPost_ret (by simp (maxDischargeDepth:=9) [results,Tryz.results133,go_sem,e2,e3,y2,y3];try rfl) rfl ?_
  exact⟨Aq,cq,Ar,cr,rfl,((hq5.setCell (p:=⟨w.heap.size+2,0,none⟩) z2 _).setCell (p:=⟨w.heap.size+3,0,none⟩) z3 _).mono hbw2.size,((hr2.setCell (p:=⟨w.heap.size+2,0,none⟩) z2 _).setCell (p:=⟨w.heap.size+3,0,none⟩) z3 _).mono hbw2.size,(hbw5.setCell (p:=⟨w.heap.size+2,0,none⟩) (Nat.le_add_right _ _) _).setCell (p:=⟨w.heap.size+3,0,none⟩) (Nat.le_add_right _ _) _⟩)

theorem nat_Div (A B:Option Addr) (a b:List Nat) (n m c d:Nat) (hm:m=a.length) (hn:n=b.length) (w:World) (ha:Rd w A a) (hb:Rd w B b):
 Calls Tryz.prog 133 #[.agg #[.slice A m c],.agg #[.slice B n d]] w (DivAns w (divS a b)):=by
 by_cases hz:chk2 a b=0
 · by_cases h0:n=0
   · exact nat_Div_zero A B a b n m c d hm hn hz h0 w ha hb
   · by_cases hlt:val a<val b
     · exact nat_Div_less A B a b n m c d hm hn hz h0 hlt w ha hb
     · by_cases h1:n=1
       · exact nat_Div_one A B a b n m c d hm hn hz h1 (by omega) w ha hb
       · have hlen:n≤m:=by
          rw[hm,hn]
          have h3:=limbs_of ha.sm (chk_zero (chk2_zero hz).1).2
          have h4:=limbs_of hb.sm (chk_zero (chk2_zero hz).2).2
          have h5:=limbs_mono (show val b≤val a by omega)
          rw[h3,h4] at h5
          exact h5
         exact nat_Div_big A B a b n m c d (m-n) hn hm (by omega) (by omega) hz (by omega) w ha hb
 · exact nat_Div_bad A B a b n m c d hm hn hz w ha hb
end Go.Proofs.YtenekbfnlbipiaaGreatDoor
