/- Walks of numeralbig: a number's methods, the rest. -/
import Derived.Test.YtenekbfnlbipiaaGreatDoorBgN
namespace Go.Proofs.YtenekbfnlbipiaaGreatDoor
open Go.RowKit
set_option linter.unusedVariables false
set_option linter.unusedSimpArgs false
set_option maxHeartbeats 4000000
set_option maxRecDepth 100000
namespace Bg
theorem cmp_limbs (u v:Nat):cmpL (limbs u) (limbs v)=cmpV u v:=by
 rw[cmpL_canon (sm_limbs u) (sm_limbs v) (last_limbs u) (last_limbs v),val_limbs,val_limbs]
theorem int_Cmp (x y:Nat) (TX TY:TypeId) (restx resty:List Value) (u v:Nat) (w:World) (hx:Ob w x TX false u restx) (hy:Ob w y TY false v resty):
 Calls Tryz.prog 23 #[.pointer (some ⟨x,0,none⟩),.pointer (some ⟨y,0,none⟩)] w fun e w'=>e=.returned (.int .i64 (cmpV u v))∧Below w.heap.size w w':=by
 obtain⟨A,c,c0,c1,hc,ho⟩:=hx.cells
 obtain⟨B,d,b0,b1,hd,hp⟩:=hy.cells
 have hC:=fun w h1 h2=>big_cmp A B (limbs u) (limbs v) _ _ c d rfl rfl w h1 h2
 rw[cmp_limbs] at hC
 obtain⟨r,hr⟩:∃r,r=cmpV u v:=⟨_,rfl⟩
 rw[←hr] at hC ⊢
 clear hr
 have hbd:Below w.heap.size w w.drew:=(Below.refl _ _).drew
 go_enter Tryz.func23,Tryz.ntmps23
 go_wp2_with fail
 go_region_held3 (fun w'=>w'.cell? ⟨x,0,none⟩=some (.bool false)∧w'.cell? ⟨y,0,none⟩=some (.bool false)) (first|exact⟨c0,b0⟩|go_keep) (fail)
 all_goals (
  go_wp2_with fail
  go_region_held3 (fun w'=>w'.cell? ⟨x,1,none⟩=some (.slice A (limbs u).length c)∧w'.cell? ⟨y,1,none⟩=some (.slice B (limbs v).length d))
   (first|exact⟨c1,b1⟩|exact⟨d1,e1⟩|go_keep)
   (first|(go_at_call 63;(with_reducible refine(hC _ (by first|exact ho.rd.drew.drew|exact ho.rd.drew) (by first|exact hp.rd.drew.drew|exact hp.rd.drew)).mono ?_);rintro e w1 ⟨rfl,hb1⟩;have hb2:Below w.heap.size w w1:=(by first|exact hbd.drew.trans hb1|exact hbd.trans hb1);have d1:=cell_keep hb2 c1;have e1:=cell_keep hb2 b1))
  all_goals (
   go_wp2
   go_ret
   exact⟨rfl,hb2⟩))
theorem int_Bit0 (x:Nat) (T:TypeId) (rest:List Value) (v:Nat) (w:World) (hx:Ob w x T false v rest):
 Calls Tryz.prog 62 #[.pointer (some ⟨x,0,none⟩),.int .i64 0] w fun e w'=>e=.returned (.int .u64 ((v%2:Nat):Int))∧w=w':=by
 obtain⟨A,c,c0,c1,hc,ho⟩:=hx.cells
 by_cases h:v=0
 · subst h
   rw[limbs_zero] at c1
   go_enter Tryz.func62,Tryz.ntmps62
   go_wp2
   go_ret
   exact⟨rfl,rfl⟩
 · have hp:=limbs_pos h
   obtain⟨b,off,rfl,hcb⟩:=ho.rd.open_ hp
   have h0:=hcb 0 hp
   have hn:nth (limbs v) 0=v%4294967296:=by
    have:=getD_val (limbs v) (sm_limbs v) 0
    rw[val_limbs,Nat.pow_zero,Nat.div_one] at this
    exact this
   rw[hn,Nat.add_zero] at h0
   have hand:bits BinOp.and IntKind.u32 ((v%4294967296:Nat):Int) 1=((v%2:Nat):Int):=by
    rw[show(1:Int)=((1:Nat):Int) from rfl,u32_and_nat _ _ (by omega) (by decide),Nat.and_one_is_mod];omega
   have hl:decide ((limbs v).length≤0)=false:=by rw[decide_eq_false_iff_not];omega
   have hl2:decide (((limbs v).length:Int)≤0)=false:=by rw[decide_eq_false_iff_not];omega
   have hlp:(0:Int)<((limbs v).length:Int):=by omega
   obtain⟨q,hq⟩:∃q,q=v%4294967296:=⟨_,rfl⟩
   rw[←hq] at h0 hand
   have hnil:decide (limbs v=[])=false:=by rw[decide_eq_false_iff_not];intro e;rw[e] at hp;simp at hp
   clear hcb hn hq h
   go_enter Tryz.func62,Tryz.ntmps62
   go_wp2
   go_ret
   exact⟨rfl,rfl⟩
def Parts (w:World) (z r:Nat) (T TR:TypeId) (rest restr:List Value) (q m:Nat) (e:Ending) (w':World):Prop:=
 e=.returned (.tuple #[.pointer (some ⟨z,0,none⟩),.pointer (some ⟨r,0,none⟩)])∧Ob w' z T false q rest∧Ob w' r TR false m restr∧∃w1,Hole r w w1∧Hole z w1 w'
theorem int_QuoRem (z x y r:Nat) (T TX TY TR:TypeId) (rest restx resty restr:List Value) (hT:T≠153) (hTR:TR≠153) (u v:Nat) (hv:v≠0) (hl:(limbs u).length≤20000) (hne:z≠r) (w:World) (hz:At w z T rest) (hr:At w r TR restr) (hx:Ob w x TX false u restx) (hy:Ob w y TY false v resty):
 Calls Tryz.prog 107 #[.pointer (some ⟨z,0,none⟩),.pointer (some ⟨x,0,none⟩),.pointer (some ⟨y,0,none⟩),.pointer (some ⟨r,0,none⟩)] w (Parts w z r T TR rest restr (u/v) (u%v)):=by
 obtain⟨A,c,c0,c1,hc,ho⟩:=hx.cells
 obtain⟨B,d,b0,b1,hd,hp⟩:=hy.cells
 have hC:=big_div A B u v c d hv hl
 obtain⟨q,hq⟩:∃q,q=u/v:=⟨_,rfl⟩
 obtain⟨m,hm⟩:∃m,m=u%v:=⟨_,rfl⟩
 rw[←hq, ←hm] at hC ⊢
 clear hq hm
 have hbd:Below w.heap.size w w.drew:=(Below.refl _ _).drew
 have c0':w.drew.cell? ⟨x,0,none⟩=some (.bool false):=c0
 go_enter Tryz.func107,Tryz.ntmps107
 go_wp2_with fail
 go_region_held3 (fun w'=>w'.cell? ⟨x,0,none⟩=some (.bool false)∧w'.cell? ⟨y,0,none⟩=some (.bool false)) (first|exact⟨c0,b0⟩|go_keep) (fail)
 go_wp2_with fail
 go_region_held3 (fun w'=>w'.cell? ⟨x,1,none⟩=some (.slice A (limbs u).length c)∧w'.cell? ⟨y,1,none⟩=some (.slice B (limbs v).length d))
  (first|exact⟨c1,b1⟩|exact⟨d1,e1⟩|go_keep)
  (first|(go_at_call 160;(with_reducible refine(hC _ (by first|exact ho.rd.drew.drew|exact ho.rd.drew) (by first|exact hp.rd.drew.drew|exact hp.rd.drew)).mono ?_);rintro e w1 ⟨C,k,D,l,rfl,hk,hC1,hl1,hD1,hb1⟩;have hb2:Below w.heap.size w w1:=(by first|exact hbd.drew.trans hb1|exact hbd.trans hb1);have d1:=cell_keep hb2 c1;have e1:=cell_keep hb2 b1))
 all_goals (
  go_wp2_with fail
  refine(int_set r TR restr hTR false D (limbs m) _ l rfl hl1 _ (at_of_below hr hb2) (hD1.mono (Nat.zero_le _))).mono ?_
  rintro e w2 ⟨rfl,hh2,hob2⟩
  rw[val_limbs,nofalse] at hob2
  obtain⟨x1,y1,hr1⟩:=at_of_below hr hb2
  have hC2:=own_hole hC1 hr1 hTR hh2
  have hz2:At w2 z T rest:=by
   obtain⟨x3,y3,h3⟩:=at_of_below hz hb2
   exact⟨x3,y3,hh2.blk h3 hne⟩
  go_wp2_with fail
  refine(int_set z T rest hT false C (limbs q) _ k rfl hk _ hz2 (hC2.mono (Nat.zero_le _))).mono ?_
  rintro e w3 ⟨rfl,hh3,hob3⟩
  rw[val_limbs,nofalse] at hob3
  go_wp2
  go_ret2
  exact⟨rfl,hob3,hob2.hole hz2 hT (Ne.symm hne) hh3,w2,hole_of hb2 hh2,hh3⟩)
end Bg
namespace Bg
theorem pow_bit (b n k:Nat):b^(n/2^(k+1))*b^(n/2^(k+1))*b^(n/2^k%2)=b^(n/2^k):=by
 rw[←Nat.pow_add, ←Nat.pow_add]
 congr 1
 rw[Nat.pow_succ, ←Nat.div_div_eq_div_mul]
 omega
theorem limbs_le_of {x y:Nat} {k:Nat} (h:(limbs y).length<k) (hxy:x≤y):(limbs x).length<k:=Nat.lt_of_le_of_lt (limbs_mono hxy) h
theorem pow_le_of {b n m:Nat} (hb:0<b) (h:m≤n):b^m≤b^n:=Nat.pow_le_pow_right hb h
theorem sq_le_of {b n k:Nat} (hb:0<b):b^(n/2^(k+1))*b^(n/2^(k+1))≤b^n:=by
 rw[←Nat.pow_add]
 refine Nat.pow_le_pow_right hb ?_
 rw[Nat.pow_succ, ←Nat.div_div_eq_div_mul]
 have:=Nat.div_le_self n (2^k)
 omega
theorem int_Exp (z x y:Nat) (T TX TY:TypeId) (rest restx resty:List Value) (hT:T≠153) (b n:Nat) (hb:0<b) (hn:n<4294967296) (hl:(limbs (b^n)).length<40) (hlb:(limbs b).length<40) (w:World) (hz:At w z T rest) (hx:Ob w x TX false b restx) (hy:Ob w y TY false n resty):
 Calls Tryz.prog 105 #[.pointer (some ⟨z,0,none⟩),.pointer (some ⟨x,0,none⟩),.pointer (some ⟨y,0,none⟩),.pointer none] w (Sets w z T rest false (b^n)):=by
 have hb1:Below w.heap.size w (w.alloc (.cells #[.bool false,.slice none 0 0] 95)):=(Below.refl _ _).alloc nrf _
 have hk1:Blk (w.alloc (.cells #[.bool false,.slice none 0 0] 95)) w.heap.size 95 #[.bool false,.slice none 0 0]:=Blk.new w _ _
 obtain⟨w1,hw1⟩:∃w1,w1=w.alloc (.cells #[.bool false,.slice none 0 0] 95):=⟨_,rfl⟩
 go_enter Tryz.func105,Tryz.ntmps105
 go_wp2_with fail
 rw[←hw1]
 rw[←hw1] at hb1 hk1
 clear hw1
 refine(big_NewInt 1 (by decide) _).mono ?_
 rintro e w2 ⟨g2,rfl,hg2,ho2,hb2⟩
 have hk2:=hk1.below hb2 hk1.lt
 have hb12:=hb1.trans (hb2.mono hb1.size)
 go_wp2_with fail
 have hb3:Below w2.heap.size w2 (w2.alloc (.cells #[.bool false,.slice none 0 0] 95)):=(Below.refl _ _).alloc nrf _
 have hat:At (w2.alloc (.cells #[.bool false,.slice none 0 0] 95)) w2.heap.size 95 []:=⟨_,_,Blk.new w2 _ _⟩
 have hb13:=hb12.trans (hb3.mono hb12.size)
 have hx3:=hx.below hb13
 have hy3:=hy.below hb13
 have ho3:=ho2.below hb3
 have hk3:=hk2.below hb3 hk2.lt
 refine(int_Set w2.heap.size x _ TX [] restx (by decide) b _ hat hx3).mono ?_
 rintro e w4 ⟨rfl,hh4,ho4⟩
 have hb4:Below w2.heap.size w2 w4:=hole_fresh hb3 hh4 nrf
 have hb14:=hb12.trans (hb4.mono hb12.size)
 have hk4:=hk2.below hb4 hk2.lt
 have hz4:=at_of_below hz hb14
 have hy4:=hy.below hb14
 have hb4o:=ho2.below hb4
 have h23:g2<w2.heap.size:=ho2.lt
 have hz1:=hz.lt
 have h12:w.heap.size<g2:=by have:=hk1.lt;omega
 have c0:=hk4.cell 0
 have c1:=hk4.cell 1
 simp at c0 c1
 go_wp2_with fail
 refine(int_Sign y TY resty n _ hy4).mono ?_
 rintro e w5 ⟨rfl,rfl⟩
 clear hk1 hk2 hk3 hx3 hy3 hat ho3 hh4 hb3 hb13 ho2
 by_cases h0:n=0
 · subst h0
   rw[if_pos rfl]
   go_wp2_with fail
   refine(int_Set z g2 T _ rest [] hT 1 _ hz4 hb4o).mono ?_
   rintro e w6 ⟨rfl,hh,hob⟩
   go_wp2
   go_ret
   exact⟨rfl,hole_of hb14 hh,hob⟩
 · rw[if_neg h0]
   obtain⟨A,c,d0,d1,hc,ho⟩:=hy4.cells
   have hnl:=limbs_small hn h0
   rw[hnl] at d1 hc ho
   go_wp2_with fail
   refine(big_copied A [n] _ c rfl _ ho.rd).mono ?_
   rintro e w6 ⟨gw,rfl,hgw,hrow,hb6⟩
   have hb16:=hb14.trans (hb6.mono hb14.size)
   have ho6:=hb4o.below hb6
   have hx6:=ho4.below hb6
   have hk6:=hk4.below hb6 hk4.lt
   have hz6:=at_of_below hz hb16
   have hgw3:w2.heap.size<gw:=by have:=ho4.lt;omega
   have hrd6:=hrow.cell 0 (by simp)
   clear c0 c1 d0 d1 hy4 hx hz hy hz4 hb4o ho4 hk4 ho hc hb6 hb14 hb4 hb12 hb2 hb1
   have hgwL:=hrow.lt
   go_wp2_with fail
   go_loopw [13] (fun v13 wr=>∃k:Nat,k≤32∧v13=.int .i64 ((k:Int)-1)∧Ob wr g2 95 false (b^(n/2^k)) []∧Ob wr w2.heap.size 95 false b []∧Blk wr w.heap.size 95 #[.bool false,.slice none 0 0]∧Row wr 153 gw [n]∧At wr z T rest∧Below w.heap.size w wr) (fun v13 _=>(intOf v13+1).toNat)
   case atStart=>
    refine⟨32,Nat.le_refl _,rfl,?_,hx6,hk6,hrow,hz6,hb16⟩
    rw[Nat.div_eq_of_lt (by omega),Nat.pow_zero];exact ho6
   case round=>
    clear hx6 hk6 hrow hz6 hb16 ho6 hrd6
    obtain⟨k,hk,rfl,ho,hbb,hby,hrow,hz,hbl⟩:=hrel
    by_cases hk0:k=0
    · subst hk0
      rw[Nat.pow_zero,Nat.div_one] at ho
      go_wp2_with fail
      refine(int_Set z g2 T _ rest [] hT (b^n) _ hz ho).mono ?_
      rintro e w7 ⟨rfl,hh,hob⟩
      go_wp2
      go_ret
      exact⟨rfl,hole_of hbl hh,hob⟩
    · obtain⟨k,rfl⟩:∃j,k=j+1:=⟨k-1,by omega⟩
      have hsq:b^(n/2^(k+1))*b^(n/2^(k+1))≤b^n:=sq_le_of hb
      have hle1:b^(n/2^(k+1))≤b^n:=pow_le_of hb (Nat.div_le_self _ _)
      have hl1:=limbs_le_of hl hle1
      have hl2:=limbs_le_of hl hsq
      have hpb:=pow_bit b n k
      obtain⟨O,hO⟩:∃O,O=b^(n/2^(k+1)):=⟨_,rfl⟩
      obtain⟨O',hO'⟩:∃O',O'=b^(n/2^k):=⟨_,rfl⟩
      rw[←hO, ←hO'] at hpb
      rw[←hO] at hl1 hl2 ho
      have HPB:=Lib.hid hpb
      have HO':=Lib.hid hO'
      clear hsq hle1 hO hO' hpb
      go_wp2_with fail
      refine(int_Mul g2 g2 g2 _ _ _ [] [] [] (by decide) O O (by omega) (.inl hl1) _ ho.at_ ho ho).mono ?_
      rintro e w7 ⟨rfl,hh,hob⟩
      have hne3:w2.heap.size≠g2:=by omega
      have hne1:w.heap.size≠g2:=by omega
      have hneW:gw≠g2:=by omega
      have hneZ:z≠g2:=by omega
      have hbb7:=hbb.hole ho.at_ (by decide) hne3 hh
      have hby7:=hh.blk hby hne1
      have hrow7:=hh.row hrow hneW
      have hz7:At w7 z T rest:=by
       obtain⟨x3,y3,h3⟩:=hz
       exact⟨x3,y3,hh.blk h3 hneZ⟩
      have hbl7:=hh.below hbl (by omega) hbl.size
      have c1:=hby7.cell 1
      simp at c1
      have cw:=hrow7.cell 0 (by simp)
      rw[show nth [n] 0=n from rfl] at cw
      clear hbb hby hrow hz hbl hh ho
      have q1:(k:Int)/32=0:=by omega
      have q2:(k:Int).tdiv 32=0:=by rw[Int.tdiv_eq_ediv_of_nonneg (by omega)];exact q1
      have q3:(k:Int)%32=(k:Int):=by omega
      have q4:(k:Int).tmod 32=(k:Int):=by rw[Int.tmod_eq_emod_of_nonneg (by omega)];exact q3
      have q5:k<32:=by omega
      have q6:bits BinOp.and IntKind.u32 ((n:Int)/2^k) 1=((n/2^k%2:Nat):Int):=by
       have e1:((n:Int)/2^k)=((n/2^k:Nat):Int):=by rw[Int.natCast_ediv,Int.natCast_pow];rfl
       have e2:n/2^k<4294967296:=Nat.lt_of_le_of_lt (Nat.div_le_self _ _) hn
       rw[e1,show(1:Int)=((1:Nat):Int) from rfl,u32_and_nat _ _ e2 (by decide),Nat.and_one_is_mod]
      by_cases hbit:n/2^k%2=1
      · rw[hbit] at q6
        have HPB2:O*O*b=O':=by have h1:=HPB.out;rw[hbit,Nat.pow_one] at h1;exact h1
        have HPB3:=Lib.hid HPB2
        clear HPB HPB2 hbit
        go_wp2_with fail
        refine(int_Mul g2 g2 w2.heap.size _ _ _ [] [] [] (by decide) (O*O) b (by omega) (.inl hl2) _ hob.at_ hob hbb7).mono ?_
        rintro e w8 ⟨rfl,hh8,hob8⟩
        rw[HPB3.out] at hob8
        have hbb8:=hbb7.hole hob.at_ (by decide) hne3 hh8
        have hby8:=hh8.blk hby7 hne1
        have hrow8:=hh8.row hrow7 hneW
        have hz8:At w8 z T rest:=by
         obtain⟨x3,y3,h3⟩:=hz7
         exact⟨x3,y3,hh8.blk h3 hneZ⟩
        have hbl8:=hh8.below hbl7 (by omega) hbl7.size
        have c2:=hby8.cell 1
        simp at c2
        clear hbb7 hby7 hrow7 hz7 hbl7 hob hh8 cw c1 q6
        go_wp2
        go_roundw
        case rel=>exact⟨k,by omega,by go_num,by rw[←HO'.out];exact hob8,hbb8,hby8,hrow8,hz8,hbl8⟩
        case measure=>first|(simp[intOf];done)|(simp[intOf];omega)
      · have hbit0:n/2^k%2=0:=by omega
        rw[hbit0] at q6
        have HPB2:O*O=O':=by have h1:=HPB.out;rw[hbit0,Nat.pow_zero,Nat.mul_one] at h1;exact h1
        rw[HPB2] at hob
        clear HPB HPB2 hbit hbit0
        go_wp2
        go_roundw
        case rel=>exact⟨k,by omega,by go_num,by rw[←HO'.out];exact hob,hbb7,hby7,hrow7,hz7,hbl7⟩
        case measure=>first|(simp[intOf];done)|(simp[intOf];omega)
end Bg
namespace Bg
def Gives (w:World) (v:Nat) (e:Ending) (w':World):Prop:=
 ∃C k,e=.returned (.slice C (limbs v).length k)∧(limbs v).length≤k∧Own w' 153 0 C k (limbs v)∧Below w.heap.size w w'
def Rt (w:World) (z n d:Nat):Prop:=
 ∃D e l,Ob w z 97 false n [.slice D l.length e]∧l.length≤e∧Own w 153 0 D e l∧((l=[]∧d=1)∨(l=limbs d∧d≠0))
def RAt (w:World) (z:Nat):Prop:=∃D,At w z 97 [D]
theorem Rt.at_ {w:World} {z n d:Nat} (h:Rt w z n d):RAt w z:=by
 obtain⟨D,e,l,ho,_⟩:=h;exact⟨_,ho.at_⟩
theorem Rt.ne {w:World} {z n d:Nat} (h:Rt w z n d):d≠0:=by
 obtain⟨D,e,l,_,_,_,h⟩:=h
 rcases h with ⟨_,rfl⟩|⟨_,h⟩
 · decide
 · exact h
theorem Rt.lt {w:World} {z n d:Nat} (h:Rt w z n d):z<w.heap.size:=by obtain⟨D,e,l,ho,_⟩:=h;exact ho.lt
theorem RAt.lt {w:World} {z:Nat} (h:RAt w z):z<w.heap.size:=by obtain⟨D,h⟩:=h;exact h.lt
theorem Rt.below {w w':World} {z n d:Nat} (h:Rt w z n d) (k:Below w.heap.size w w'):Rt w' z n d:=by
 obtain⟨D,e,l,ho,he,hw,hd⟩:=h
 exact⟨D,e,l,ho.below k,he,hw.below k nrf,hd⟩
theorem RAt.below {w w':World} {z:Nat} (h:RAt w z) (k:Below w.heap.size w w'):RAt w' z:=by
 obtain⟨D,h⟩:=h;exact⟨D,at_of_below h k⟩
theorem Rt.drew {w:World} {z n d:Nat} (h:Rt w z n d):Rt w.drew z n d:=h
theorem RAt.hole {w w':World} {z g:Nat} (h:RAt w g) (hg:g≠z) (k:Hole z w w'):RAt w' g:=by
 obtain⟨D,x,y,h⟩:=h;exact⟨D,x,y,k.blk h hg⟩
theorem Rt.hole {w w':World} {z g n d:Nat} {T:TypeId} {rest:List Value} (h:Rt w g n d) (hz:At w z T rest) (hT:T≠153) (hg:g≠z) (k:Hole z w w'):Rt w' g n d:=by
 obtain⟨D,e,l,ho,he,hw,hd⟩:=h
 obtain⟨x,y,hz'⟩:=hz
 exact⟨D,e,l,ho.hole ⟨x,y,hz'⟩ hT hg k,he,own_hole hw hz' hT k,hd⟩
theorem Tz.hole {w w':World} {z:Nat} {T:TypeId} {rest:List Value} (h:Tz w) (hz:At w z T rest) (hr:rest.length≤1) (k:Hole z w w'):Tz w':=by
 intro j hj
 refine k.keep (h j hj) ?_
 rintro e
 obtain⟨x,y,hb⟩:=hz
 have h5:=h 5 (by decide)
 have c5:=hb.cell 5
 simp only at e
 rw[←e] at c5
 rw[h5] at c5
 have:(x :: y :: rest).toArray[5]?=none:=by simp;omega
 rw[this] at c5
 cases c5
theorem Rt.cells {w:World} {z n d:Nat} (h:Rt w z n d):∃A c D e l,w.cell? ⟨z,0,none⟩=some (.bool false)∧w.cell? ⟨z,1,none⟩=some (.slice A (limbs n).length c)∧w.cell? ⟨z,2,none⟩=some (.slice D l.length e)∧(limbs n).length≤c∧Own w 153 0 A c (limbs n)∧l.length≤e∧Own w 153 0 D e l∧((l=[]∧d=1)∨(l=limbs d∧d≠0)):=by
 obtain⟨D,e,l,⟨A,c,hb,hc,ho⟩,he,hw,hd⟩:=h
 have c0:=hb.cell 0
 have c1:=hb.cell 1
 have c2:=hb.cell 2
 simp at c0 c1 c2
 exact⟨A,c,D,e,l,c0,c1,c2,hc,ho,he,hw,hd⟩
theorem rat_below (x n d:Nat) (w:World) (h:Rt w x n d):
 Calls Tryz.prog 97 #[.pointer (some ⟨x,0,none⟩)] w (Gives w d):=by
 obtain⟨A,c,D,e,l,c0,c1,c2,hc,ho,he,hw,hd⟩:=h.cells
 rcases hd with ⟨rfl,rfl⟩|⟨rfl,hd⟩
 · go_enter Tryz.func97,Tryz.ntmps97
   go_wp2
   go_ret
   have hrow:Row (w.alloc (.cells #[.int .u32 1] 153)) 153 w.heap.size [1]:=row_new (l:=[1]) rfl rfl
   have hsm:Sm [1]:=by intro x hx;simp at hx;omega
   have hown:=hrow.own hsm (by simp) (Nat.zero_le _) 1 nrf nrf
   exact⟨_,_,rfl,Nat.le_refl _,hown,(Below.refl _ _).alloc nrf _⟩
 · have hp:=limbs_pos hd
   have hl:(((limbs d).length:Int)==0)=false:=by rw[beq_eq_false_iff_ne];omega
   go_enter Tryz.func97,Tryz.ntmps97
   go_wp2
   go_ret
   exact⟨_,_,rfl,he,hw,Below.refl _ _⟩
def RSets (w:World) (z n d:Nat) (e:Ending) (w':World):Prop:=
 e=.returned (.pointer (some ⟨z,0,none⟩))∧Hole z w w'∧Rt w' z n d
def RMakes (w:World) (n d:Nat) (e:Ending) (w':World):Prop:=
 ∃z,e=.returned (.pointer (some ⟨z,0,none⟩))∧w.heap.size≤z∧Rt w' z n d∧Below w.heap.size w w'
theorem blk_set2 {w:World} {z:Nat} {T:TypeId} {x y v:Value} (h:Blk w z T #[x,y,v]) (u:Value):Blk (w.setCell ⟨z,2,none⟩ u) z T #[x,y,u]:=by
 have:=h.set_ 2 u;simpa using this
theorem rt_set2 {w:World} {z n d:Nat} {D:Option Addr} {l:List Nat} {e:Nat} {v:Value} (h:Ob w z 97 false n [v]) (he:l.length≤e) (hw:Own w 153 0 D e l) (hd:(l=[]∧d=1)∨(l=limbs d∧d≠0)):Rt (w.setCell ⟨z,2,none⟩ (.slice D l.length e)) z n d:=by
 obtain⟨A,c,hb,hc,ho⟩:=h
 have hh:Hole z w (w.setCell ⟨z,2,none⟩ (.slice D l.length e)):=(Hole.refl z w).setCell rfl _
 exact⟨D,e,l,⟨A,c,blk_set2 hb _,hc,own_hole ho hb (by decide) hh⟩,he,own_hole hw hb (by decide) hh,hd⟩
theorem rat_set0 (z:Nat) (B:Option Addr) (l:List Nat) (d:Nat) (hd:l.length≤d) (w:World) (hz:RAt w z) (hB:Own w 153 0 B d l):
 Calls Tryz.prog 126 #[.pointer (some ⟨z,0,none⟩),.bool false,.slice none 0 0,.slice B l.length d] w (RSets w z 0 1):=by
 obtain⟨D0,hz⟩:=hz
 go_enter Tryz.func126,Tryz.ntmps126
 go_wp2_with fail
 refine(big_trim none [] 0 0 rfl nrf _ (Rd.nil _ _)).mono ?_
 rintro e w1 ⟨rfl,rfl⟩
 go_wp2_with fail
 refine(big_trim B l _ d rfl hd _ hB.rd).mono ?_
 rintro e w1 ⟨rfl,rfl⟩
 go_wp2_with fail
 refine(int_set z _ [D0] (by decide) false none [] 0 0 rfl nrf _ hz (Own.nil _ _ _)).mono ?_
 rintro e w2 ⟨rfl,hh,hob⟩
 rw[nofalse] at hob
 obtain⟨A,c,hb,hc,ho⟩:=id hob
 have c2:=hb.cell 2
 have f2:=hb.frozen 2
 simp at c2
 go_wp2
 go_ret
 exact⟨rfl,hh.setCell rfl _,rt_set2 (l:=[]) hob nrf (Own.nil _ _ _) (.inl ⟨rfl,rfl⟩)⟩
end Bg
namespace Bg
theorem div_ne {u g:Nat} (hu:u≠0) (h:g∣u):u/g≠0:=by
 obtain⟨k,rfl⟩:=h
 have hg:0<g:=by rcases Nat.eq_zero_or_pos g with h|h; · subst h;simp at hu
                 · exact h
 rw[Nat.mul_div_cancel_left _ hg]
 rintro rfl;simp at hu
theorem limbs_two {n:Nat} (h:n<18446744073709551616):(limbs n).length≤2:=by
 rw[length_limbs_le,show(4294967296:Nat)^2=18446744073709551616 from rfl];exact h
theorem limbs_div_le (u g:Nat):(limbs (u/g)).length≤(limbs u).length:=limbs_mono (Nat.div_le_self u g)
theorem rat_set (z:Nat) (A B:Option Addr) (u v c d:Nat) (hu:u≠0) (hv:v≠0) (h2:u=2^tz u∨v=2^tz v) (hlu:(limbs u).length≤20000) (hlv:(limbs v).length≤20000) (hc:(limbs u).length≤c) (hd:(limbs v).length≤d) (w:World) (hT:Tz w) (hz:RAt w z) (hA:Own w 153 0 A c (limbs u)) (hB:Own w 153 0 B d (limbs v)):
 Calls Tryz.prog 126 #[.pointer (some ⟨z,0,none⟩),.bool false,.slice A (limbs u).length c,.slice B (limbs v).length d] w (RSets w z (u/Nat.gcd u v) (v/Nat.gcd u v)):=by
 have hT1:=fun w h=>big_trim A (limbs u) _ c rfl hc w h
 have hT2:=fun w h=>big_trim B (limbs v) _ d rfl hd w h
 rw[val_limbs] at hT1 hT2
 have hCm:=big_common A B u v c d hu hv h2 hlu hlv
 have hg0:Nat.gcd u v≠0:=by intro h;exact hu (Nat.eq_zero_of_gcd_eq_zero_left h)
 have hub:=div_ne hu (Nat.gcd_dvd_left u v)
 have hvb:=div_ne hv (Nat.gcd_dvd_right u v)
 have hl1:(((limbs u).length:Int)==0)=false:=by have:=limbs_pos hu;rw[beq_eq_false_iff_ne];omega
 obtain⟨g,hg⟩:∃g,g=Nat.gcd u v:=⟨_,rfl⟩
 rw[←hg] at hCm hg0 hub hvb ⊢
 clear hg h2 hu
 have hBy1:=fun G k=>big_by A G u g c k hg0 hc hlu
 have hBy2:=fun G k=>big_by B G v g d k hg0 hd hlv
 obtain⟨U,hU⟩:∃U,U=u/g:=⟨_,rfl⟩
 obtain⟨V,hV⟩:∃V,V=v/g:=⟨_,rfl⟩
 rw[←hU] at hBy1 hub ⊢
 rw[←hV] at hBy2 hvb ⊢
 clear hU hV
 obtain⟨D0,hz⟩:=hz
 go_enter Tryz.func126,Tryz.ntmps126
 go_wp2_with fail
 refine(hT1 _ hA.rd).mono ?_
 rintro e w1 ⟨rfl,rfl⟩
 go_wp2_with fail
 refine(hT2 _ hB.rd).mono ?_
 rintro e w1 ⟨rfl,rfl⟩
 go_wp2_with fail
 refine(hCm _ hA.rd hB.rd hT).mono ?_
 rintro e w1 ⟨G,k,rfl,hk,hG,hb1⟩
 have hA1:=hA.below hb1 nrf
 have hB1:=hB.below hb1 nrf
 have hG1:=hG.mono (Nat.zero_le _)
 have hz1:=at_of_below hz hb1
 clear hG
 go_wp2_with fail
 refine region_until 7 (fun w'=>True) (by kernel_rfl) ?_
 have hS:True:=trivial
 refine Until.tk (i:=0) (v:=?_) rfl hS (.inl ⟨by rfl,?_⟩) ?_
 rotate_left
 · (intro w hSw;(try dsimp only at hSw);go_simp;try with_reducible rfl)
 simp only[Act.put,setP]
 refine Until.tk (i:=1) (v:=?_) rfl hS (.inl ⟨by rfl,?_⟩) ?_
 rotate_left
 · (intro w hSw;(try dsimp only at hSw);go_simp;try with_reducible rfl)
 simp only[Act.put,setP]
 refine Until.tk (i:=2) (v:=?_) rfl hS (.inl ⟨by rfl,?_⟩) ?_
 rotate_left
 · (intro w hSw;(try dsimp only at hSw);go_simp;try with_reducible rfl)
 simp only[Act.put,setP]
 refine Until.tk (i:=3) (v:=?_) rfl hS (.inl ⟨by rfl,?_⟩) ?_
 rotate_left
 · (intro w hSw;(try dsimp only at hSw);go_simp;try with_reducible rfl)
 simp only[Act.put,setP]
 refine Until.tk (i:=4) (v:=?_) rfl hS (.inl ⟨by rfl,?_⟩) ?_
 rotate_left
 · (intro w hSw;(try dsimp only at hSw);go_simp;try with_reducible rfl)
 simp only[Act.put,setP]
 refine Until.tk (i:=5) (v:=?_) rfl hS (.inl ⟨by rfl,?_⟩) ?_
 rotate_left
 · (intro w hSw;(try dsimp only at hSw);go_simp;try with_reducible rfl)
 simp only[Act.put,setP]
 refine Until.one (c:=6) (by kernel_rfl) rfl (by rfl) (fun K hK=>?_)
 go_simp
 refine(hBy1 G k _ hA1.drew hG1.drew).mono ?_
 rintro e w2 ⟨C,kc,rfl,hkc,hC,hb2⟩
 have hb12:Below w.heap.size w w2:=hb1.drew.trans (hb2.mono hb1.size)
 have hb2':Below w1.heap.size w1 w2:=(Below.refl w1.heap.size w1).drew.trans hb2
 dsimp only
 replace hS:True:=trivial
 refine hK.out _ _ (.inr hS) ?_
 clear hK K
 refine Until.one (c:=7) (by kernel_rfl) rfl (by rfl) (fun K hK=>?_)
 go_simp
 refine(int_set z _ [D0] (by decide) false C (limbs U) _ kc rfl hkc _ (at_of_below hz1 hb2') hC).mono ?_
 rintro e w3 ⟨rfl,hh3,hob3⟩
 rw[val_limbs,nofalse] at hob3
 dsimp only
 refine hK.out _ _ (.inl (by kernel_rfl)) ?_
 clear hK K
 refine Until.done (by kernel_rfl) ?_ _
 have hB2:=hB1.below hb2' nrf
 have hG2:=hG1.below hb2' nrf
 obtain⟨x5,y5,hz5⟩:=at_of_below hz1 hb2'
 have hB3:=own_hole hB2 hz5 (by decide) hh3
 have hG3:=own_hole hG2 hz5 (by decide) hh3
 go_wp2_with fail
 refine(hBy2 G k _ hB3 hG3).mono ?_
 rintro e w4 ⟨D,kd,rfl,hkd,hD,hb4⟩
 have hob4:=hob3.below hb4
 obtain⟨A6,c6,hb6,hc6,ho6⟩:=id hob4
 have c2:=hb6.cell 2
 have f2:=hb6.frozen 2
 simp at c2
 go_wp2
 go_ret
 exact⟨rfl,((hole_of hb12 hh3).then_ hb4).setCell rfl _,rt_set2 hob4 hkd hD (.inr ⟨rfl,hvb⟩)⟩
theorem rat_SetFrac (z x y:Nat) (TX TY:TypeId) (restx resty:List Value) (u v:Nat) (hu:u≠0) (hv:v≠0) (h2:u=2^tz u∨v=2^tz v) (hlu:(limbs u).length≤20000) (hlv:(limbs v).length≤20000) (w:World) (hT:Tz w) (hz:RAt w z) (hx:Ob w x TX false u restx) (hy:Ob w y TY false v resty):
 Calls Tryz.prog 76 #[.pointer (some ⟨z,0,none⟩),.pointer (some ⟨x,0,none⟩),.pointer (some ⟨y,0,none⟩)] w (RSets w z (u/Nat.gcd u v) (v/Nat.gcd u v)):=by
 obtain⟨A,c,c0,c1,hc,ho⟩:=hx.cells
 obtain⟨B,d,b0,b1,hd,hp⟩:=hy.cells
 have hS0:=fun X Y=>rat_set z X Y u v (limbs u).length (limbs v).length hu hv h2 hlu hlv nrf nrf
 obtain⟨U,hU⟩:∃U,U=u/Nat.gcd u v:=⟨_,rfl⟩
 obtain⟨V,hV⟩:∃V,V=v/Nat.gcd u v:=⟨_,rfl⟩
 rw[←hU, ←hV] at hS0 ⊢
 clear hU hV h2 hu hv
 go_enter Tryz.func76,Tryz.ntmps76
 go_wp2_with fail
 refine region_until 20 (fun w'=>w'.cell? ⟨x,0,none⟩=some (.bool false)∧w'.cell? ⟨x,1,none⟩=some (.slice A (limbs u).length c)∧w'.cell? ⟨y,0,none⟩=some (.bool false)∧w'.cell? ⟨y,1,none⟩=some (.slice B (limbs v).length d)) (by kernel_rfl) ?_
 have hS:w.drew.cell? ⟨x,0,none⟩=some (.bool false)∧w.drew.cell? ⟨x,1,none⟩=some (.slice A (limbs u).length c)∧w.drew.cell? ⟨y,0,none⟩=some (.bool false)∧w.drew.cell? ⟨y,1,none⟩=some (.slice B (limbs v).length d):=⟨c0,c1,b0,b1⟩
 refine Until.tk (i:=0) (v:=?_) rfl hS (.inl ⟨by rfl,?_⟩) ?_
 rotate_left
 · (intro w hSw;(try dsimp only at hSw);go_simp;try with_reducible rfl)
 simp only[Act.put,setP]
 refine Until.tk (i:=1) (v:=?_) rfl hS (.inl ⟨by rfl,?_⟩) ?_
 rotate_left
 · (intro w hSw;(try dsimp only at hSw);go_simp;try with_reducible rfl)
 simp only[Act.put,setP]
 refine Until.tk (i:=2) (v:=?_) rfl hS (.inl ⟨by rfl,?_⟩) ?_
 rotate_left
 · (intro w hSw;(try dsimp only at hSw);go_simp;try with_reducible rfl)
 simp only[Act.put,setP]
 refine Until.tk (i:=3) (v:=?_) rfl hS (.inl ⟨by rfl,?_⟩) ?_
 rotate_left
 · (intro w hSw;(try dsimp only at hSw);go_simp;try with_reducible rfl)
 simp only[Act.put,setP]
 refine Until.tk (i:=4) (v:=?_) rfl hS (.inl ⟨by rfl,?_⟩) ?_
 rotate_left
 · (intro w hSw;(try dsimp only at hSw);go_simp;try with_reducible rfl)
 simp only[Act.put,setP]
 refine Until.tk (i:=5) (v:=?_) rfl hS (.inl ⟨by rfl,?_⟩) ?_
 rotate_left
 · (intro w hSw;(try dsimp only at hSw);go_simp;try with_reducible rfl)
 simp only[Act.put,setP]
 refine Until.tk (i:=6) (v:=?_) rfl hS (.inl ⟨by rfl,?_⟩) ?_
 rotate_left
 · (intro w hSw;(try dsimp only at hSw);go_simp;try with_reducible rfl)
 simp only[Act.put,setP]
 refine Until.tk (i:=7) (v:=?_) rfl hS (.inl ⟨by rfl,?_⟩) ?_
 rotate_left
 · (intro w hSw;(try dsimp only at hSw);go_simp;try with_reducible rfl)
 simp only[Act.put,setP]
 refine Until.tk (i:=8) (v:=?_) rfl hS (.inl ⟨by rfl,?_⟩) ?_
 rotate_left
 · (intro w hSw;(try dsimp only at hSw);go_simp;try with_reducible rfl)
 simp only[Act.put,setP]
 refine Until.tk (i:=9) (v:=?_) rfl hS (.inl ⟨by rfl,?_⟩) ?_
 rotate_left
 · (intro w hSw;(try dsimp only at hSw);go_simp;try with_reducible rfl)
 simp only[Act.put,setP]
 refine Until.tk (i:=10) (v:=?_) rfl hS (.inl ⟨by rfl,?_⟩) ?_
 rotate_left
 · (intro w hSw;(try dsimp only at hSw);go_simp;try with_reducible rfl)
 simp only[Act.put,setP]
 refine Until.tk (i:=11) (v:=?_) rfl hS (.inl ⟨by rfl,?_⟩) ?_
 rotate_left
 · (intro w hSw;(try dsimp only at hSw);go_simp;try with_reducible rfl)
 simp only[Act.put,setP]
 refine Until.tk (i:=12) (v:=?_) rfl hS (.inl ⟨by rfl,?_⟩) ?_
 rotate_left
 · (intro w hSw;(try dsimp only at hSw);go_simp;try with_reducible rfl)
 simp only[Act.put,setP]
 refine Until.tk (i:=13) (v:=?_) rfl hS (.inl ⟨by rfl,?_⟩) ?_
 rotate_left
 · (intro w hSw;(try dsimp only at hSw);go_simp;try with_reducible rfl)
 simp only[Act.put,setP]
 refine Until.tk (i:=15) (v:=?_) rfl hS (.inl ⟨by rfl,?_⟩) ?_
 rotate_left
 · (intro w hSw;(try dsimp only at hSw);go_simp;try with_reducible rfl)
 simp only[Act.put,setP]
 refine Until.tk (i:=16) (v:=?_) rfl hS (.inl ⟨by rfl,?_⟩) ?_
 rotate_left
 · (intro w hSw;(try dsimp only at hSw);go_simp;try with_reducible rfl)
 simp only[Act.put,setP]
 refine Until.tk (i:=17) (v:=?_) rfl hS (.inl ⟨by rfl,?_⟩) ?_
 rotate_left
 · (intro w hSw;(try dsimp only at hSw);go_simp;try with_reducible rfl)
 simp only[Act.put,setP]
 refine Until.tk (i:=18) (v:=?_) rfl hS (.inl ⟨by rfl,?_⟩) ?_
 rotate_left
 · (intro w hSw;(try dsimp only at hSw);go_simp;try with_reducible rfl)
 simp only[Act.put,setP]
 refine Until.one (c:=14) (by kernel_rfl) rfl (by rfl) (fun K hK=>?_)
 go_simp
 refine(big_copied A (limbs u) _ c rfl _ ho.rd.drew).mono ?_
 rintro e w1 ⟨g,rfl,hg,hrow,hb1⟩
 have hb1':Below w.heap.size w w1:=(Below.refl w.heap.size w).drew.trans hb1
 have hp1:=hp.below hb1' nrf
 dsimp only
 replace hS:w1.cell? ⟨x,0,none⟩=some (.bool false)∧w1.cell? ⟨x,1,none⟩=some (.slice A (limbs u).length c)∧w1.cell? ⟨y,0,none⟩=some (.bool false)∧w1.cell? ⟨y,1,none⟩=some (.slice B (limbs v).length d):=⟨cell_keep hb1' c0,cell_keep hb1' c1,cell_keep hb1' b0,cell_keep hb1' b1⟩
 refine hK.out _ _ (.inr hS) ?_
 clear hK K
 refine Until.one (c:=19) (by kernel_rfl) rfl (by rfl) (fun K hK=>?_)
 go_simp
 refine(big_copied B (limbs v) _ d rfl _ hp1.rd).mono ?_
 rintro e w2 ⟨g2,rfl,hg2,hrow2,hb2⟩
 have hb12:Below w.heap.size w w2:=hb1'.trans (hb2.mono hb1'.size)
 have hrow1:=hrow.below hb2 hrow.lt
 dsimp only
 replace hS:w2.cell? ⟨x,0,none⟩=some (.bool false)∧w2.cell? ⟨x,1,none⟩=some (.slice A (limbs u).length c)∧w2.cell? ⟨y,0,none⟩=some (.bool false)∧w2.cell? ⟨y,1,none⟩=some (.slice B (limbs v).length d):=⟨cell_keep hb12 c0,cell_keep hb12 c1,cell_keep hb12 b0,cell_keep hb12 b1⟩
 refine hK.out _ _ (.inr hS) ?_
 clear hK K
 refine Until.one (c:=20) (by kernel_rfl) rfl (by rfl) (fun K hK=>?_)
 go_simp
 refine(hS0 (some ⟨g,0,none⟩) (some ⟨g2,0,none⟩) _ (hT.below hb12) (hz.below hb12) (by have:=hrow1.own (sm_limbs u) ho.rd.len (Nat.zero_le _) (limbs u).length nrf nrf;rw[List.take_length] at this;exact this) (by have:=hrow2.own (sm_limbs v) hp.rd.len (Nat.zero_le _) (limbs v).length nrf nrf;rw[List.take_length] at this;exact this)).mono ?_
 rintro e w3 ⟨rfl,hh3,hr3⟩
 dsimp only
 refine hK.out _ _ (.inl (by kernel_rfl)) ?_
 clear hK K
 refine Until.one (c:=21) (by kernel_rfl) rfl (by rfl) (fun K hK=>?_)
 go_simp
 refine hK.out _ _ (.inl (by kernel_rfl)) ?_
 clear hK K
 refine Until.done (by kernel_rfl) ?_ _
 go_wp2
 go_ret
 exact⟨rfl,hole_of hb12 hh3,hr3⟩
theorem rat_New (u v:Nat) (hu0:u<9223372036854775808) (hv0:v<9223372036854775808) (hu:u≠0) (hv:v≠0) (h2:u=2^tz u∨v=2^tz v) (w:World) (hT:Tz w):
 Calls Tryz.prog 61 #[.int .i64 (u:Int),.int .i64 (v:Int)] w (RMakes w (u/Nat.gcd u v) (v/Nat.gcd u v)):=by
 have hlu:(limbs u).length≤20000:=Nat.le_trans (limbs_two (by omega)) (by decide)
 have hlv:(limbs v).length≤20000:=Nat.le_trans (limbs_two (by omega)) (by decide)
 have hSF:=fun z x y=>rat_SetFrac z x y 95 95 [] [] u v hu hv h2 hlu hlv
 have hS64:∀z w,Tz w→RAt w z→Calls Tryz.prog 114 #[.pointer (some ⟨z,0,none⟩),.int .i64 (u:Int),.int .i64 (v:Int)] w (RSets w z (u/Nat.gcd u v) (v/Nat.gcd u v)):=by
  intro z w hT hz
  obtain⟨U,hU⟩:∃U,U=u/Nat.gcd u v:=⟨_,rfl⟩
  obtain⟨V,hV⟩:∃V,V=v/Nat.gcd u v:=⟨_,rfl⟩
  rw[←hU, ←hV] at hSF ⊢
  clear hU hV h2 hu hv
  go_enter Tryz.func114,Tryz.ntmps114
  go_wp2_with fail
  refine(big_NewInt u hu0 _).mono ?_
  rintro e w1 ⟨g,rfl,hg,ho,hb1⟩
  go_wp2_with fail
  refine(big_NewInt v hv0 _).mono ?_
  rintro e w2 ⟨g2,rfl,hg2,ho2,hb2⟩
  have hb12:=hb1.trans (hb2.mono hb1.size)
  go_wp2_with fail
  refine(hSF z g g2 _ (hT.below hb12) (hz.below hb12) (ho.below hb2) ho2).mono ?_
  rintro e w3 ⟨rfl,hh3,hr3⟩
  go_wp2
  go_ret
  exact⟨rfl,hole_of hb12 hh3,hr3⟩
 obtain⟨U,hU⟩:∃U,U=u/Nat.gcd u v:=⟨_,rfl⟩
 obtain⟨V,hV⟩:∃V,V=v/Nat.gcd u v:=⟨_,rfl⟩
 rw[←hU, ←hV] at hS64 ⊢
 clear hU hV h2 hu hv hSF
 have hal:Below w.heap.size w (w.alloc (.cells #[.bool false,.slice none 0 0,.slice none 0 0] 97)):=(Below.refl _ _).alloc nrf _
 have hat:RAt (w.alloc (.cells #[.bool false,.slice none 0 0,.slice none 0 0] 97)) w.heap.size:=⟨_,_,_,Blk.new w _ _⟩
 go_enter Tryz.func61,Tryz.ntmps61
 go_wp2_with fail
 refine(hS64 w.heap.size _ (hT.below hal) hat).mono ?_
 rintro e w3 ⟨rfl,hh3,hr3⟩
 go_wp2
 go_ret
 exact⟨_,rfl,Nat.le_refl _,hr3,hole_fresh hal hh3 nrf⟩
end Bg
end Go.Proofs.YtenekbfnlbipiaaGreatDoor
