/- Walks: layer 15: a power of ten as 128 bits. -/
import Derived.Test.YtenekbfnlbipiaaGreatDoorBgAE
namespace Go.Proofs.YtenekbfnlbipiaaGreatDoor
open Go.RowKit
set_option linter.unusedVariables false
set_option linter.unusedSimpArgs false
set_option maxHeartbeats 4000000
set_option maxRecDepth 100000
namespace Bg
def TenA (w:World) (t:Nat) (x:Int) (b:Bool) (e:Ending) (w':World):Prop:=
 ∃z,e=.returned (.tuple #[.pointer (some ⟨z,0,none⟩),.int .i64 x,.bool b])∧w.heap.size≤z∧Ob w' z 95 false t []∧Below w.heap.size w w'
def tA (n:Nat) (x:Int):Nat:=n*2^(-x).toNat
def tD (d:Nat) (x:Int):Nat:=d*2^x.toNat
theorem ref15_Ten_neg (j:Nat) (hj1:1≤j) (hj:j≤400) (hjl:(limbs (10^j)).length<40) (x0 x1:Int) (NUM DEN:Nat) (hNUM:NUM=1) (hDENe:DEN=10^j) (hx0:x0=(bitLen NUM:Int)-(bitLen DEN:Int)-128) (hx0a: -2000≤x0) (hx0b:x0≤2000)
 (hx1:x1=x0∨(x1=x0+1∧bitLen (tA NUM x0/tD DEN x0)≠128)) (hbF:bitLen (tA NUM x1/tD DEN x1)=128) (w:World):
 Calls Tryz.prog 54 #[.int .i64 (-(j:Int))] w (TenA w (tA NUM x1/tD DEN x1) x1 (decide (tA NUM x1%tD DEN x1=0))):=by
 have hE:=fun z a b w hz ha hb=>int_Exp z a b 95 95 95 [] [] [] (by decide) 10 j (by decide) (by omega) hjl (by decide) w hz ha hb
 have hNl:(limbs NUM).length≤40:=by rw[hNUM];decide
 have hDl:(limbs DEN).length≤40:=by rw[hDENe];omega
 have hDEN:DEN≠0:=by rw[hDENe];exact Nat.ne_of_gt (Nat.pow_pos (by decide))
 rw[←hDENe] at hE
 have h1':∀W,Calls Tryz.prog 57 #[.int .i64 1] W (Makes W 95 [] false NUM):=by
  rw[hNUM];exact fun W=>big_NewInt 1 (by decide) W
 have hmax:max (-(j:Int)) (-(-(j:Int)))=(j:Int):=by omega
 have hmax2:max (-(j:Int)) (j:Int)=(j:Int):=by omega
 have hw64:IntKind.i64.wrap (-(-(j:Int)))= -(-(j:Int)):=by rw[IntKind.wrap_i64];omega
 have hdec:decide ((-(j:Int))<0)=true:=by simp;omega
 have hbn:bitLen NUM≤32*40:=bl_le hNl
 have hbd:bitLen DEN≤32*40:=bl_le hDl
 clear hNUM hDENe hjl
 obtain⟨POST,hPOST⟩:∃P,P=TenA w (tA NUM x1/tD DEN x1) x1 (decide (tA NUM x1%tD DEN x1=0)):=⟨_,rfl⟩
 rw[←hPOST]
 have HPOST:=Lib.hid hPOST
 clear hPOST
 go_enter Tryz.func54,Tryz.ntmps54
 go_wp2_with fail
 have al1:Below w.heap.size w (w.alloc (.cells #[.bool false,.slice none 0 0] 95)):=(Below.refl _ _).alloc nrf _
 have k1:At (w.alloc (.cells #[.bool false,.slice none 0 0] 95)) w.heap.size 95 []:=⟨_,_,Blk.new w _ _⟩
 refine(big_NewInt 10 (by decide) _).mono ?_
 rintro e w1 ⟨g1,rfl,hg1,o1,b1⟩
 have B1:=al1.trans (b1.mono al1.size)
 have k11:=at_of_below k1 b1
 go_wp2_with fail
 refine(big_NewInt j (by omega) _).mono ?_
 rintro e w2 ⟨g2,rfl,hg2,o2,b2⟩
 have B2:=B1.trans (b2.mono B1.size)
 have k12:=at_of_below k11 b2
 have o12:=o1.below b2
 go_wp2_with fail
 refine(hE w.heap.size g1 g2 _ k12 o12 o2).mono ?_
 rintro e w3 ⟨rfl,h3,o3⟩
 have B3:=hole_fresh B2 h3 nrf
 clear h3 o12 o2 o1 k12 k11 k1 al1 b1 b2 B1 B2 hg1 hg2 hE
 go_wp2_with fail
 refine(h1' _).mono ?_
 rintro e w4 ⟨zo,rfl,hzo,oo,b4⟩
 have B4:=B3.trans (b4.mono B3.size)
 have o34:=o3.below b4
 have zlt:=o3.lt
 clear h1' B3 b4 o3
 go_wp2_with fail
 refine(int_BitLen zo _ [] NUM (by omega) _ oo).mono ?_
 rintro e w5 ⟨rfl,rfl⟩
 go_wp2_with fail
 refine(int_BitLen w.heap.size _ [] DEN (by omega) _ o34).mono ?_
 rintro e w5 ⟨rfl,rfl⟩
 have on0:=oo
 have od0:=o34
 have hzw:w.heap.size≤zo:=by omega
 have hzdw:w.heap.size≤w.heap.size:=by omega
 generalize bitLen NUM=LN at*
 generalize bitLen DEN=LD at*
 go_wp2
 go_loopw [9,10] (fun v9 v10 wr=>∃(x:Int) (i:Nat),((i=0∧x=x0)∨(i=1∧x=x1∧x1=x0+1))∧v9=.int .i64 x∧v10=.int .i64 (i:Int)∧Ob wr (zo) 95 false NUM []∧Ob wr (w.heap.size) 95 false DEN []∧w.heap.size≤zo∧Below w.heap.size w wr) (fun _ v10 _=>(3-intOf v10).toNat)
 case atStart=>exact⟨x0,0,.inl ⟨rfl,rfl⟩,by rw[hx0],rfl,on0,od0,(by omega),B4⟩
 case round=>
  clear hx0 on0 od0 B4 oo o34 zlt hmax hmax2 hw64 hdec hbn hbd
  obtain⟨x,i,hrel1,rfl,rfl,on,od,hzw',hb⟩:=hrel
  have HREL1:=Lib.hid hrel1
  have HX1:=Lib.hid hx1
  have HBF:=Lib.hid hbF
  have hi3:decide ((i:Int)<3)=true:=by simp;omega
  have hi64:i≤1:=by omega
  have hxb: -2000≤x∧x≤2001:=by omega
  clear hrel1 hx1 hbF
  by_cases hneg:x<0
  · obtain⟨s,rfl⟩:∃s:Nat,x= -(s:Int):=⟨(-x).toNat,by omega⟩
    have hs3:s≤1000000:=by omega
    have hs4:s≤2000:=by omega
    have hlA:(limbs (NUM*2^s)).length≤20000:=by have:=limbs_mul_le NUM (2^s);have:=two_len s;omega
    have hA:NUM*2^s=tA NUM (-(s:Int)):=by unfold tA;rw[show(-(-(s:Int))).toNat=s by omega]
    have hD:DEN=tD DEN (-(s:Int)):=by unfold tD;rw[show(-(s:Int)).toNat=0 by omega,Nat.pow_zero,Nat.mul_one]
    have HA:=Lib.hid hA
    have HD:=Lib.hid hD
    clear hA hD
    have hdx:decide (-(s:Int)<0)=true:=by simp;omega
    have hnn: -(-(s:Int))=(s:Int):=by omega
    go_wp2_with fail
    have nlt:=on.lt
    have dlt:=od.lt
    have al1:Below wr.heap.size wr (wr.alloc (.cells #[.bool false,.slice none 0 0] 95)):=(Below.refl _ _).alloc nrf _
    have k1:At (wr.alloc (.cells #[.bool false,.slice none 0 0] 95)) wr.heap.size 95 []:=⟨_,_,Blk.new wr _ _⟩
    have B1:=hb.trans (al1.mono hb.size)
    refine(int_Set wr.heap.size zo 95 95 [] [] (by decide) NUM _ k1 (on.below al1)).mono ?_
    rintro e w2 ⟨rfl,h2,oa⟩
    have on2:=(on.below al1).hole k1 (by decide) (show zo≠wr.heap.size by omega) h2
    have od2:=(od.below al1).hole k1 (by decide) (show w.heap.size≠wr.heap.size by omega) h2
    have B2:=hole_fresh B1 h2 hb.size
    clear al1 k1 B1 h2
    go_wp2_with fail
    have alt:=oa.lt
    have al3:Below w2.heap.size w2 (w2.alloc (.cells #[.bool false,.slice none 0 0] 95)):=(Below.refl _ _).alloc nrf _
    have k3:At (w2.alloc (.cells #[.bool false,.slice none 0 0] 95)) w2.heap.size 95 []:=⟨_,_,Blk.new w2 _ _⟩
    have B3:=B2.trans (al3.mono B2.size)
    refine(int_Set w2.heap.size w.heap.size 95 95 [] [] (by decide) DEN _ k3 (od2.below al3)).mono ?_
    rintro e w4 ⟨rfl,h4,ob⟩
    have on4:=(on2.below al3).hole k3 (by decide) (show zo≠w2.heap.size by omega) h4
    have od4:=(od2.below al3).hole k3 (by decide) (show w.heap.size≠w2.heap.size by omega) h4
    have oa4:=(oa.below al3).hole k3 (by decide) (show wr.heap.size≠w2.heap.size by omega) h4
    have B4:=hole_fresh B3 h4 B2.size
    have s24:w2.heap.size≤w4.heap.size:=Nat.le_trans al3.size h4.size
    clear al3 k3 B3 h4 oa on2 od2
    go_wp2_with fail
    refine(int_Lsh wr.heap.size wr.heap.size 95 95 [] [] (by decide) NUM s hs3 (by omega) _ oa4.at_ oa4).mono ?_
    rintro e w5 ⟨rfl,h5,oa4'⟩
    have on5:=on4.hole oa4.at_ (by decide) (show zo≠wr.heap.size by omega) h5
    have od5:=od4.hole oa4.at_ (by decide) (show w.heap.size≠wr.heap.size by omega) h5
    have ob5:=ob.hole oa4.at_ (by decide) (show w2.heap.size≠wr.heap.size by omega) h5
    have B5:=hole_fresh B4 h5 hb.size
    have B2s:=B2.size
    have h5s:=h5.size
    clear h5 oa4 ob on4 od4 B4
    go_wp2_with fail
    have al6:Below w5.heap.size w5 (w5.alloc (.cells #[.bool false,.slice none 0 0] 95)):=(Below.refl _ _).alloc nrf _
    have k6:At (w5.alloc (.cells #[.bool false,.slice none 0 0] 95)) w5.heap.size 95 []:=⟨_,_,Blk.new w5 _ _⟩
    obtain⟨w6,hw6⟩:∃w6,w6=w5.alloc (.cells #[.bool false,.slice none 0 0] 95):=⟨_,rfl⟩
    rw[←hw6] at al6 k6 ⊢
    have e6:w6.heap.size=w5.heap.size+1:=by rw[hw6];simp
    have al7:Below w6.heap.size w6 (w6.alloc (.cells #[.bool false,.slice none 0 0] 95)):=(Below.refl _ _).alloc nrf _
    have k7:At (w6.alloc (.cells #[.bool false,.slice none 0 0] 95)) w6.heap.size 95 []:=⟨_,_,Blk.new w6 _ _⟩
    rw[e6] at k7
    have k67:=k6.below al7 (by omega)
    have al67:=al6.trans (al7.mono al6.size)
    have B7:=B5.trans (al67.mono B5.size)
    refine(int_QuoRem w5.heap.size wr.heap.size w2.heap.size (w5.heap.size+1) 95 95 95 95 [] [] [] [] (by decide) (by decide) (NUM*2^s) DEN hDEN hlA (by omega) _ k67 k7 (oa4'.below al67) (ob5.below al67)).mono ?_
    rintro e w8 ⟨rfl,oq,or_,w9,h9,h8⟩
    have on8:=((on5.below al67).hole k7 (by decide) (show zo≠w5.heap.size+1 by omega) h9)
    have od8:=((od5.below al67).hole k7 (by decide) (show w.heap.size≠w5.heap.size+1 by omega) h9)
    have k69:At w9 w5.heap.size 95 []:=by obtain⟨x1,x2,hx⟩:=k67;exact⟨x1,x2,h9.blk hx (by omega)⟩
    have on9:=on8.hole k69 (by decide) (show zo≠w5.heap.size by omega) h8
    have od9:=od8.hole k69 (by decide) (show w.heap.size≠w5.heap.size by omega) h8
    have B9:=hole_fresh B7 h9 (by have:=B5.size;omega)
    have B8:=hole_fresh B9 h8 B5.size
    have hqA:(NUM*2^s)/DEN=tA NUM (-(s:Int))/tD DEN (-(s:Int)):=by rw[←HA.out, ←HD.out]
    have hrA:(NUM*2^s)%DEN=tA NUM (-(s:Int))%tD DEN (-(s:Int)):=by rw[←HA.out, ←HD.out]
    rw[hqA] at oq
    rw[hrA] at or_
    have hqs:=B5.size
    clear h9 h8 k69 on8 od8 on5 od5 k67 k7 k6 al67 al7 al6 B7 B9 hqA hrA hw6 e6 oa4' ob5 B5 B2
    have hql:(limbs (tA NUM (-(s:Int))/tD DEN (-(s:Int)))).length≤20000:=Nat.le_trans (limbs_div_le _ _) (by rw[←HA.out];exact hlA)
    obtain⟨Q,hQ⟩:∃Q,Q=tA NUM (-(s:Int))/tD DEN (-(s:Int)):=⟨_,rfl⟩
    obtain⟨R,hR⟩:∃R,R=tA NUM (-(s:Int))%tD DEN (-(s:Int)):=⟨_,rfl⟩
    rw[←hQ] at oq hql
    rw[←hR] at or_
    go_wp2_with fail
    refine(int_BitLen w5.heap.size _ [] Q hql _ oq).mono ?_
    rintro e wb ⟨rfl,rfl⟩
    by_cases hbx:bitLen Q=128
    · have hxx:x1=(-(s:Int)):=by
       rcases HREL1.out with ⟨_,h⟩|⟨_,h,_⟩
       · rcases HX1.out with h1|⟨h1,h2⟩
         · rw[h1, ←h]
         · exfalso;apply h2;rw[←h, ←hQ];exact hbx
       · exact h.symm
      have hbx':((bitLen Q:Int)==128)=true:=by rw[hbx];rfl
      have HQ:=Lib.hid hQ
      have HR:=Lib.hid hR
      have HXX:=Lib.hid hxx
      clear hbx hQ hR hxx
      go_wp2_with fail
      refine(int_Sign (w5.heap.size+1) _ [] R _ or_).mono ?_
      rintro e wb ⟨rfl,rfl⟩
      by_cases h0:R=0
      · rw[if_pos h0]
        have hX:decide (tA NUM x1%tD DEN x1=0)=true:=by rw[HXX.out, ←HR.out,decide_eq_true h0]
        have HX:=Lib.hid hX
        clear hX h0
        go_wp2
        (try go_returns)
        rw[HPOST.out]
        exact⟨w5.heap.size,by rw[HX.out,HXX.out];rfl,hqs,by rw[HXX.out, ←HQ.out];exact oq,B8⟩
      · rw[if_neg h0]
        have hX:decide (tA NUM x1%tD DEN x1=0)=false:=by rw[HXX.out, ←HR.out,decide_eq_false h0]
        have HX:=Lib.hid hX
        clear hX h0
        go_wp2
        (try go_returns)
        rw[HPOST.out]
        exact⟨w5.heap.size,by rw[HX.out,HXX.out];rfl,hqs,by rw[HXX.out, ←HQ.out];exact oq,B8⟩
    · have hnx:i=0∧x1=x0+1∧(-(s:Int))=x0:=by
       rcases HREL1.out with ⟨h3,h⟩|⟨_,h,_⟩
       · rcases HX1.out with h1|⟨h1,h2⟩
         · exfalso;apply hbx;rw[hQ,h, ←h1];exact HBF.out
         · exact⟨h3,h1,h⟩
       · exfalso;apply hbx;rw[hQ,h];exact HBF.out
      obtain⟨rfl,hn1,hn2⟩:=hnx
      have hbx':((bitLen Q:Int)==128)=false:=by rw[beq_eq_false_iff_ne];omega
      have HN1:=Lib.hid hn1
      have HN2:=Lib.hid hn2
      clear hbx hQ hR hn1 hn2
      go_wp2
      go_roundw
      case rel=>exact⟨(-(s:Int))+1,1,.inr ⟨rfl,by rw[HN1.out,HN2.out],HN1.out⟩,rfl,rfl,on9,od9,hzw',B8⟩
      case measure=>first|(simp[intOf];done)|(simp[intOf];omega)
  · obtain⟨s,rfl⟩:∃s:Nat,x=(s:Int):=⟨x.toNat,by omega⟩
    have hs3:s≤1000000:=by omega
    have hs4:s≤2001:=by omega
    have hlA:(limbs NUM).length≤20000:=by omega
    have hDs:DEN*2^s≠0:=Nat.ne_of_gt (Nat.mul_pos (Nat.pos_of_ne_zero hDEN) (Nat.two_pow_pos s))
    have HDS:=Lib.hid hDs
    clear hDs
    have hA:NUM=tA NUM (s:Int):=by unfold tA;rw[show(-(s:Int)).toNat=0 by omega,Nat.pow_zero,Nat.mul_one]
    have hD:DEN*2^s=tD DEN (s:Int):=by unfold tD;rw[Int.toNat_natCast]
    have HA:=Lib.hid hA
    have HD:=Lib.hid hD
    clear hA hD
    have hdx:decide ((s:Int)<0)=false:=by simp
    go_wp2_with fail
    have nlt:=on.lt
    have dlt:=od.lt
    have al1:Below wr.heap.size wr (wr.alloc (.cells #[.bool false,.slice none 0 0] 95)):=(Below.refl _ _).alloc nrf _
    have k1:At (wr.alloc (.cells #[.bool false,.slice none 0 0] 95)) wr.heap.size 95 []:=⟨_,_,Blk.new wr _ _⟩
    have B1:=hb.trans (al1.mono hb.size)
    refine(int_Set wr.heap.size zo 95 95 [] [] (by decide) NUM _ k1 (on.below al1)).mono ?_
    rintro e w2 ⟨rfl,h2,oa⟩
    have on2:=(on.below al1).hole k1 (by decide) (show zo≠wr.heap.size by omega) h2
    have od2:=(od.below al1).hole k1 (by decide) (show w.heap.size≠wr.heap.size by omega) h2
    have B2:=hole_fresh B1 h2 hb.size
    clear al1 k1 B1 h2
    go_wp2_with fail
    have alt:=oa.lt
    have al3:Below w2.heap.size w2 (w2.alloc (.cells #[.bool false,.slice none 0 0] 95)):=(Below.refl _ _).alloc nrf _
    have k3:At (w2.alloc (.cells #[.bool false,.slice none 0 0] 95)) w2.heap.size 95 []:=⟨_,_,Blk.new w2 _ _⟩
    have B3:=B2.trans (al3.mono B2.size)
    refine(int_Set w2.heap.size w.heap.size 95 95 [] [] (by decide) DEN _ k3 (od2.below al3)).mono ?_
    rintro e w4 ⟨rfl,h4,ob⟩
    have on4:=(on2.below al3).hole k3 (by decide) (show zo≠w2.heap.size by omega) h4
    have od4:=(od2.below al3).hole k3 (by decide) (show w.heap.size≠w2.heap.size by omega) h4
    have oa4:=(oa.below al3).hole k3 (by decide) (show wr.heap.size≠w2.heap.size by omega) h4
    have B4:=hole_fresh B3 h4 B2.size
    have s24:w2.heap.size≤w4.heap.size:=Nat.le_trans al3.size h4.size
    clear al3 k3 B3 h4 oa on2 od2
    go_wp2_with fail
    refine(int_Lsh w2.heap.size w2.heap.size 95 95 [] [] (by decide) DEN s hs3 (by omega) _ ob.at_ ob).mono ?_
    rintro e w5 ⟨rfl,h5,ob'⟩
    have on5:=on4.hole ob.at_ (by decide) (show zo≠w2.heap.size by omega) h5
    have od5:=od4.hole ob.at_ (by decide) (show w.heap.size≠w2.heap.size by omega) h5
    have oa45:=oa4.hole ob.at_ (by decide) (show wr.heap.size≠w2.heap.size by omega) h5
    have B5:=hole_fresh B4 h5 B2.size
    have B2s:=B2.size
    have h5s:=h5.size
    clear h5 oa4 ob on4 od4 B4
    go_wp2_with fail
    have al6:Below w5.heap.size w5 (w5.alloc (.cells #[.bool false,.slice none 0 0] 95)):=(Below.refl _ _).alloc nrf _
    have k6:At (w5.alloc (.cells #[.bool false,.slice none 0 0] 95)) w5.heap.size 95 []:=⟨_,_,Blk.new w5 _ _⟩
    obtain⟨w6,hw6⟩:∃w6,w6=w5.alloc (.cells #[.bool false,.slice none 0 0] 95):=⟨_,rfl⟩
    rw[←hw6] at al6 k6 ⊢
    have e6:w6.heap.size=w5.heap.size+1:=by rw[hw6];simp
    have al7:Below w6.heap.size w6 (w6.alloc (.cells #[.bool false,.slice none 0 0] 95)):=(Below.refl _ _).alloc nrf _
    have k7:At (w6.alloc (.cells #[.bool false,.slice none 0 0] 95)) w6.heap.size 95 []:=⟨_,_,Blk.new w6 _ _⟩
    rw[e6] at k7
    have k67:=k6.below al7 (by omega)
    have al67:=al6.trans (al7.mono al6.size)
    have B7:=B5.trans (al67.mono B5.size)
    refine(int_QuoRem w5.heap.size wr.heap.size w2.heap.size (w5.heap.size+1) 95 95 95 95 [] [] [] [] (by decide) (by decide) NUM (DEN*2^s) HDS.out (by omega) (by omega) _ k67 k7 (oa45.below al67) (ob'.below al67)).mono ?_
    rintro e w8 ⟨rfl,oq,or_,w9,h9,h8⟩
    have on8:=((on5.below al67).hole k7 (by decide) (show zo≠w5.heap.size+1 by omega) h9)
    have od8:=((od5.below al67).hole k7 (by decide) (show w.heap.size≠w5.heap.size+1 by omega) h9)
    have k69:At w9 w5.heap.size 95 []:=by obtain⟨x1,x2,hx⟩:=k67;exact⟨x1,x2,h9.blk hx (by omega)⟩
    have on9:=on8.hole k69 (by decide) (show zo≠w5.heap.size by omega) h8
    have od9:=od8.hole k69 (by decide) (show w.heap.size≠w5.heap.size by omega) h8
    have B9:=hole_fresh B7 h9 (by have:=B5.size;omega)
    have B8:=hole_fresh B9 h8 B5.size
    have hqA:NUM/(DEN*2^s)=tA NUM (s:Int)/tD DEN (s:Int):=by rw[←HA.out, ←HD.out]
    have hrA:NUM%(DEN*2^s)=tA NUM (s:Int)%tD DEN (s:Int):=by rw[←HA.out, ←HD.out]
    rw[hqA] at oq
    rw[hrA] at or_
    have hqs:=B5.size
    clear h9 h8 k69 on8 od8 on5 od5 k67 k7 k6 al67 al7 al6 B7 B9 hqA hrA hw6 e6 oa45 ob' B5 B2
    have hql:(limbs (tA NUM (s:Int)/tD DEN (s:Int))).length≤20000:=Nat.le_trans (limbs_div_le _ _) (by rw[←HA.out];exact hlA)
    obtain⟨Q,hQ⟩:∃Q,Q=tA NUM (s:Int)/tD DEN (s:Int):=⟨_,rfl⟩
    obtain⟨R,hR⟩:∃R,R=tA NUM (s:Int)%tD DEN (s:Int):=⟨_,rfl⟩
    rw[←hQ] at oq hql
    rw[←hR] at or_
    go_wp2_with fail
    refine(int_BitLen w5.heap.size _ [] Q hql _ oq).mono ?_
    rintro e wb ⟨rfl,rfl⟩
    by_cases hbx:bitLen Q=128
    · have hxx:x1=(s:Int):=by
       rcases HREL1.out with ⟨_,h⟩|⟨_,h,_⟩
       · rcases HX1.out with h1|⟨h1,h2⟩
         · rw[h1, ←h]
         · exfalso;apply h2;rw[←h, ←hQ];exact hbx
       · exact h.symm
      have hbx':((bitLen Q:Int)==128)=true:=by rw[hbx];rfl
      have HQ:=Lib.hid hQ
      have HR:=Lib.hid hR
      have HXX:=Lib.hid hxx
      clear hbx hQ hR hxx
      go_wp2_with fail
      refine(int_Sign (w5.heap.size+1) _ [] R _ or_).mono ?_
      rintro e wb ⟨rfl,rfl⟩
      by_cases h0:R=0
      · rw[if_pos h0]
        have hX:decide (tA NUM x1%tD DEN x1=0)=true:=by rw[HXX.out, ←HR.out,decide_eq_true h0]
        have HX:=Lib.hid hX
        clear hX h0
        go_wp2
        (try go_returns)
        rw[HPOST.out]
        exact⟨w5.heap.size,by rw[HX.out,HXX.out];rfl,hqs,by rw[HXX.out, ←HQ.out];exact oq,B8⟩
      · rw[if_neg h0]
        have hX:decide (tA NUM x1%tD DEN x1=0)=false:=by rw[HXX.out, ←HR.out,decide_eq_false h0]
        have HX:=Lib.hid hX
        clear hX h0
        go_wp2
        (try go_returns)
        rw[HPOST.out]
        exact⟨w5.heap.size,by rw[HX.out,HXX.out];rfl,hqs,by rw[HXX.out, ←HQ.out];exact oq,B8⟩
    · have hnx:i=0∧x1=x0+1∧(s:Int)=x0:=by
       rcases HREL1.out with ⟨h3,h⟩|⟨_,h,_⟩
       · rcases HX1.out with h1|⟨h1,h2⟩
         · exfalso;apply hbx;rw[hQ,h, ←h1];exact HBF.out
         · exact⟨h3,h1,h⟩
       · exfalso;apply hbx;rw[hQ,h];exact HBF.out
      obtain⟨rfl,hn1,hn2⟩:=hnx
      have hbx':((bitLen Q:Int)==128)=false:=by rw[beq_eq_false_iff_ne];omega
      have HN1:=Lib.hid hn1
      have HN2:=Lib.hid hn2
      clear hbx hQ hR hn1 hn2
      go_wp2
      go_roundw
      case rel=>exact⟨(s:Int)+1,1,.inr ⟨rfl,by rw[HN1.out,HN2.out],HN1.out⟩,rfl,rfl,on9,od9,hzw',B8⟩
      case measure=>first|(simp[intOf];done)|(simp[intOf];omega)
theorem ref15_Ten_pos (j:Nat) (hj:j≤400) (hjl:(limbs (10^j)).length<40) (x0 x1:Int) (NUM DEN:Nat) (hNUM:NUM=10^j) (hDENe:DEN=1) (hx0:x0=(bitLen NUM:Int)-(bitLen DEN:Int)-128) (hx0a: -2000≤x0) (hx0b:x0≤2000)
 (hx1:x1=x0∨(x1=x0+1∧bitLen (tA NUM x0/tD DEN x0)≠128)) (hbF:bitLen (tA NUM x1/tD DEN x1)=128) (w:World):
 Calls Tryz.prog 54 #[.int .i64 ((j:Int))] w (TenA w (tA NUM x1/tD DEN x1) x1 (decide (tA NUM x1%tD DEN x1=0))):=by
 have hE:=fun z a b w hz ha hb=>int_Exp z a b 95 95 95 [] [] [] (by decide) 10 j (by decide) (by omega) hjl (by decide) w hz ha hb
 have hNl:(limbs NUM).length≤40:=by rw[hNUM];omega
 have hDl:(limbs DEN).length≤40:=by rw[hDENe];decide
 have hDEN:DEN≠0:=by rw[hDENe];decide
 rw[←hNUM] at hE
 have h1':∀W,Calls Tryz.prog 57 #[.int .i64 1] W (Makes W 95 [] false DEN):=by
  rw[hDENe];exact fun W=>big_NewInt 1 (by decide) W
 have hmax:max ((j:Int)) (-((j:Int)))=(j:Int):=by omega
 have hmax2:max (-(j:Int)) (j:Int)=(j:Int):=by omega
 have hw64:IntKind.i64.wrap (-((j:Int)))= -((j:Int)):=by rw[IntKind.wrap_i64];omega
 have hdec:decide (((j:Int))<0)=false:=by simp
 have hbn:bitLen NUM≤32*40:=bl_le hNl
 have hbd:bitLen DEN≤32*40:=bl_le hDl
 clear hNUM hDENe hjl
 obtain⟨POST,hPOST⟩:∃P,P=TenA w (tA NUM x1/tD DEN x1) x1 (decide (tA NUM x1%tD DEN x1=0)):=⟨_,rfl⟩
 rw[←hPOST]
 have HPOST:=Lib.hid hPOST
 clear hPOST
 go_enter Tryz.func54,Tryz.ntmps54
 go_wp2_with fail
 have al1:Below w.heap.size w (w.alloc (.cells #[.bool false,.slice none 0 0] 95)):=(Below.refl _ _).alloc nrf _
 have k1:At (w.alloc (.cells #[.bool false,.slice none 0 0] 95)) w.heap.size 95 []:=⟨_,_,Blk.new w _ _⟩
 refine(big_NewInt 10 (by decide) _).mono ?_
 rintro e w1 ⟨g1,rfl,hg1,o1,b1⟩
 have B1:=al1.trans (b1.mono al1.size)
 have k11:=at_of_below k1 b1
 go_wp2_with fail
 refine(big_NewInt j (by omega) _).mono ?_
 rintro e w2 ⟨g2,rfl,hg2,o2,b2⟩
 have B2:=B1.trans (b2.mono B1.size)
 have k12:=at_of_below k11 b2
 have o12:=o1.below b2
 go_wp2_with fail
 refine(hE w.heap.size g1 g2 _ k12 o12 o2).mono ?_
 rintro e w3 ⟨rfl,h3,o3⟩
 have B3:=hole_fresh B2 h3 nrf
 clear h3 o12 o2 o1 k12 k11 k1 al1 b1 b2 B1 B2 hg1 hg2 hE
 go_wp2_with fail
 refine(h1' _).mono ?_
 rintro e w4 ⟨zo,rfl,hzo,oo,b4⟩
 have B4:=B3.trans (b4.mono B3.size)
 have o34:=o3.below b4
 have zlt:=o3.lt
 clear h1' B3 b4 o3
 go_wp2_with fail
 refine(int_BitLen w.heap.size _ [] NUM (by omega) _ o34).mono ?_
 rintro e w5 ⟨rfl,rfl⟩
 go_wp2_with fail
 refine(int_BitLen zo _ [] DEN (by omega) _ oo).mono ?_
 rintro e w5 ⟨rfl,rfl⟩
 have on0:=o34
 have od0:=oo
 have hzw:w.heap.size≤w.heap.size:=by omega
 have hzdw:w.heap.size≤zo:=by omega
 generalize bitLen NUM=LN at*
 generalize bitLen DEN=LD at*
 go_wp2
 go_loopw [9,10] (fun v9 v10 wr=>∃(x:Int) (i:Nat),((i=0∧x=x0)∨(i=1∧x=x1∧x1=x0+1))∧v9=.int .i64 x∧v10=.int .i64 (i:Int)∧Ob wr (w.heap.size) 95 false NUM []∧Ob wr (zo) 95 false DEN []∧w.heap.size≤zo∧Below w.heap.size w wr) (fun _ v10 _=>(3-intOf v10).toNat)
 case atStart=>exact⟨x0,0,.inl ⟨rfl,rfl⟩,by rw[hx0],rfl,on0,od0,(by omega),B4⟩
 case round=>
  clear hx0 on0 od0 B4 oo o34 zlt hmax hmax2 hw64 hdec hbn hbd
  obtain⟨x,i,hrel1,rfl,rfl,on,od,hzw',hb⟩:=hrel
  have HREL1:=Lib.hid hrel1
  have HX1:=Lib.hid hx1
  have HBF:=Lib.hid hbF
  have hi3:decide ((i:Int)<3)=true:=by simp;omega
  have hi64:i≤1:=by omega
  have hxb: -2000≤x∧x≤2001:=by omega
  clear hrel1 hx1 hbF
  by_cases hneg:x<0
  · obtain⟨s,rfl⟩:∃s:Nat,x= -(s:Int):=⟨(-x).toNat,by omega⟩
    have hs3:s≤1000000:=by omega
    have hs4:s≤2000:=by omega
    have hlA:(limbs (NUM*2^s)).length≤20000:=by have:=limbs_mul_le NUM (2^s);have:=two_len s;omega
    have hA:NUM*2^s=tA NUM (-(s:Int)):=by unfold tA;rw[show(-(-(s:Int))).toNat=s by omega]
    have hD:DEN=tD DEN (-(s:Int)):=by unfold tD;rw[show(-(s:Int)).toNat=0 by omega,Nat.pow_zero,Nat.mul_one]
    have HA:=Lib.hid hA
    have HD:=Lib.hid hD
    clear hA hD
    have hdx:decide (-(s:Int)<0)=true:=by simp;omega
    have hnn: -(-(s:Int))=(s:Int):=by omega
    go_wp2_with fail
    have nlt:=on.lt
    have dlt:=od.lt
    have al1:Below wr.heap.size wr (wr.alloc (.cells #[.bool false,.slice none 0 0] 95)):=(Below.refl _ _).alloc nrf _
    have k1:At (wr.alloc (.cells #[.bool false,.slice none 0 0] 95)) wr.heap.size 95 []:=⟨_,_,Blk.new wr _ _⟩
    have B1:=hb.trans (al1.mono hb.size)
    refine(int_Set wr.heap.size w.heap.size 95 95 [] [] (by decide) NUM _ k1 (on.below al1)).mono ?_
    rintro e w2 ⟨rfl,h2,oa⟩
    have on2:=(on.below al1).hole k1 (by decide) (show w.heap.size≠wr.heap.size by omega) h2
    have od2:=(od.below al1).hole k1 (by decide) (show zo≠wr.heap.size by omega) h2
    have B2:=hole_fresh B1 h2 hb.size
    clear al1 k1 B1 h2
    go_wp2_with fail
    have alt:=oa.lt
    have al3:Below w2.heap.size w2 (w2.alloc (.cells #[.bool false,.slice none 0 0] 95)):=(Below.refl _ _).alloc nrf _
    have k3:At (w2.alloc (.cells #[.bool false,.slice none 0 0] 95)) w2.heap.size 95 []:=⟨_,_,Blk.new w2 _ _⟩
    have B3:=B2.trans (al3.mono B2.size)
    refine(int_Set w2.heap.size zo 95 95 [] [] (by decide) DEN _ k3 (od2.below al3)).mono ?_
    rintro e w4 ⟨rfl,h4,ob⟩
    have on4:=(on2.below al3).hole k3 (by decide) (show w.heap.size≠w2.heap.size by omega) h4
    have od4:=(od2.below al3).hole k3 (by decide) (show zo≠w2.heap.size by omega) h4
    have oa4:=(oa.below al3).hole k3 (by decide) (show wr.heap.size≠w2.heap.size by omega) h4
    have B4:=hole_fresh B3 h4 B2.size
    have s24:w2.heap.size≤w4.heap.size:=Nat.le_trans al3.size h4.size
    clear al3 k3 B3 h4 oa on2 od2
    go_wp2_with fail
    refine(int_Lsh wr.heap.size wr.heap.size 95 95 [] [] (by decide) NUM s hs3 (by omega) _ oa4.at_ oa4).mono ?_
    rintro e w5 ⟨rfl,h5,oa4'⟩
    have on5:=on4.hole oa4.at_ (by decide) (show w.heap.size≠wr.heap.size by omega) h5
    have od5:=od4.hole oa4.at_ (by decide) (show zo≠wr.heap.size by omega) h5
    have ob5:=ob.hole oa4.at_ (by decide) (show w2.heap.size≠wr.heap.size by omega) h5
    have B5:=hole_fresh B4 h5 hb.size
    have B2s:=B2.size
    have h5s:=h5.size
    clear h5 oa4 ob on4 od4 B4
    go_wp2_with fail
    have al6:Below w5.heap.size w5 (w5.alloc (.cells #[.bool false,.slice none 0 0] 95)):=(Below.refl _ _).alloc nrf _
    have k6:At (w5.alloc (.cells #[.bool false,.slice none 0 0] 95)) w5.heap.size 95 []:=⟨_,_,Blk.new w5 _ _⟩
    obtain⟨w6,hw6⟩:∃w6,w6=w5.alloc (.cells #[.bool false,.slice none 0 0] 95):=⟨_,rfl⟩
    rw[←hw6] at al6 k6 ⊢
    have e6:w6.heap.size=w5.heap.size+1:=by rw[hw6];simp
    have al7:Below w6.heap.size w6 (w6.alloc (.cells #[.bool false,.slice none 0 0] 95)):=(Below.refl _ _).alloc nrf _
    have k7:At (w6.alloc (.cells #[.bool false,.slice none 0 0] 95)) w6.heap.size 95 []:=⟨_,_,Blk.new w6 _ _⟩
    rw[e6] at k7
    have k67:=k6.below al7 (by omega)
    have al67:=al6.trans (al7.mono al6.size)
    have B7:=B5.trans (al67.mono B5.size)
    refine(int_QuoRem w5.heap.size wr.heap.size w2.heap.size (w5.heap.size+1) 95 95 95 95 [] [] [] [] (by decide) (by decide) (NUM*2^s) DEN hDEN hlA (by omega) _ k67 k7 (oa4'.below al67) (ob5.below al67)).mono ?_
    rintro e w8 ⟨rfl,oq,or_,w9,h9,h8⟩
    have on8:=((on5.below al67).hole k7 (by decide) (show w.heap.size≠w5.heap.size+1 by omega) h9)
    have od8:=((od5.below al67).hole k7 (by decide) (show zo≠w5.heap.size+1 by omega) h9)
    have k69:At w9 w5.heap.size 95 []:=by obtain⟨x1,x2,hx⟩:=k67;exact⟨x1,x2,h9.blk hx (by omega)⟩
    have on9:=on8.hole k69 (by decide) (show w.heap.size≠w5.heap.size by omega) h8
    have od9:=od8.hole k69 (by decide) (show zo≠w5.heap.size by omega) h8
    have B9:=hole_fresh B7 h9 (by have:=B5.size;omega)
    have B8:=hole_fresh B9 h8 B5.size
    have hqA:(NUM*2^s)/DEN=tA NUM (-(s:Int))/tD DEN (-(s:Int)):=by rw[←HA.out, ←HD.out]
    have hrA:(NUM*2^s)%DEN=tA NUM (-(s:Int))%tD DEN (-(s:Int)):=by rw[←HA.out, ←HD.out]
    rw[hqA] at oq
    rw[hrA] at or_
    have hqs:=B5.size
    clear h9 h8 k69 on8 od8 on5 od5 k67 k7 k6 al67 al7 al6 B7 B9 hqA hrA hw6 e6 oa4' ob5 B5 B2
    have hql:(limbs (tA NUM (-(s:Int))/tD DEN (-(s:Int)))).length≤20000:=Nat.le_trans (limbs_div_le _ _) (by rw[←HA.out];exact hlA)
    obtain⟨Q,hQ⟩:∃Q,Q=tA NUM (-(s:Int))/tD DEN (-(s:Int)):=⟨_,rfl⟩
    obtain⟨R,hR⟩:∃R,R=tA NUM (-(s:Int))%tD DEN (-(s:Int)):=⟨_,rfl⟩
    rw[←hQ] at oq hql
    rw[←hR] at or_
    go_wp2_with fail
    refine(int_BitLen w5.heap.size _ [] Q hql _ oq).mono ?_
    rintro e wb ⟨rfl,rfl⟩
    by_cases hbx:bitLen Q=128
    · have hxx:x1=(-(s:Int)):=by
       rcases HREL1.out with ⟨_,h⟩|⟨_,h,_⟩
       · rcases HX1.out with h1|⟨h1,h2⟩
         · rw[h1, ←h]
         · exfalso;apply h2;rw[←h, ←hQ];exact hbx
       · exact h.symm
      have hbx':((bitLen Q:Int)==128)=true:=by rw[hbx];rfl
      have HQ:=Lib.hid hQ
      have HR:=Lib.hid hR
      have HXX:=Lib.hid hxx
      clear hbx hQ hR hxx
      go_wp2_with fail
      refine(int_Sign (w5.heap.size+1) _ [] R _ or_).mono ?_
      rintro e wb ⟨rfl,rfl⟩
      by_cases h0:R=0
      · rw[if_pos h0]
        have hX:decide (tA NUM x1%tD DEN x1=0)=true:=by rw[HXX.out, ←HR.out,decide_eq_true h0]
        have HX:=Lib.hid hX
        clear hX h0
        go_wp2
        (try go_returns)
        rw[HPOST.out]
        exact⟨w5.heap.size,by rw[HX.out,HXX.out];rfl,hqs,by rw[HXX.out, ←HQ.out];exact oq,B8⟩
      · rw[if_neg h0]
        have hX:decide (tA NUM x1%tD DEN x1=0)=false:=by rw[HXX.out, ←HR.out,decide_eq_false h0]
        have HX:=Lib.hid hX
        clear hX h0
        go_wp2
        (try go_returns)
        rw[HPOST.out]
        exact⟨w5.heap.size,by rw[HX.out,HXX.out];rfl,hqs,by rw[HXX.out, ←HQ.out];exact oq,B8⟩
    · have hnx:i=0∧x1=x0+1∧(-(s:Int))=x0:=by
       rcases HREL1.out with ⟨h3,h⟩|⟨_,h,_⟩
       · rcases HX1.out with h1|⟨h1,h2⟩
         · exfalso;apply hbx;rw[hQ,h, ←h1];exact HBF.out
         · exact⟨h3,h1,h⟩
       · exfalso;apply hbx;rw[hQ,h];exact HBF.out
      obtain⟨rfl,hn1,hn2⟩:=hnx
      have hbx':((bitLen Q:Int)==128)=false:=by rw[beq_eq_false_iff_ne];omega
      have HN1:=Lib.hid hn1
      have HN2:=Lib.hid hn2
      clear hbx hQ hR hn1 hn2
      go_wp2
      go_roundw
      case rel=>exact⟨(-(s:Int))+1,1,.inr ⟨rfl,by rw[HN1.out,HN2.out],HN1.out⟩,rfl,rfl,on9,od9,hzw',B8⟩
      case measure=>first|(simp[intOf];done)|(simp[intOf];omega)
  · obtain⟨s,rfl⟩:∃s:Nat,x=(s:Int):=⟨x.toNat,by omega⟩
    have hs3:s≤1000000:=by omega
    have hs4:s≤2001:=by omega
    have hlA:(limbs NUM).length≤20000:=by omega
    have hDs:DEN*2^s≠0:=Nat.ne_of_gt (Nat.mul_pos (Nat.pos_of_ne_zero hDEN) (Nat.two_pow_pos s))
    have HDS:=Lib.hid hDs
    clear hDs
    have hA:NUM=tA NUM (s:Int):=by unfold tA;rw[show(-(s:Int)).toNat=0 by omega,Nat.pow_zero,Nat.mul_one]
    have hD:DEN*2^s=tD DEN (s:Int):=by unfold tD;rw[Int.toNat_natCast]
    have HA:=Lib.hid hA
    have HD:=Lib.hid hD
    clear hA hD
    have hdx:decide ((s:Int)<0)=false:=by simp
    go_wp2_with fail
    have nlt:=on.lt
    have dlt:=od.lt
    have al1:Below wr.heap.size wr (wr.alloc (.cells #[.bool false,.slice none 0 0] 95)):=(Below.refl _ _).alloc nrf _
    have k1:At (wr.alloc (.cells #[.bool false,.slice none 0 0] 95)) wr.heap.size 95 []:=⟨_,_,Blk.new wr _ _⟩
    have B1:=hb.trans (al1.mono hb.size)
    refine(int_Set wr.heap.size w.heap.size 95 95 [] [] (by decide) NUM _ k1 (on.below al1)).mono ?_
    rintro e w2 ⟨rfl,h2,oa⟩
    have on2:=(on.below al1).hole k1 (by decide) (show w.heap.size≠wr.heap.size by omega) h2
    have od2:=(od.below al1).hole k1 (by decide) (show zo≠wr.heap.size by omega) h2
    have B2:=hole_fresh B1 h2 hb.size
    clear al1 k1 B1 h2
    go_wp2_with fail
    have alt:=oa.lt
    have al3:Below w2.heap.size w2 (w2.alloc (.cells #[.bool false,.slice none 0 0] 95)):=(Below.refl _ _).alloc nrf _
    have k3:At (w2.alloc (.cells #[.bool false,.slice none 0 0] 95)) w2.heap.size 95 []:=⟨_,_,Blk.new w2 _ _⟩
    have B3:=B2.trans (al3.mono B2.size)
    refine(int_Set w2.heap.size zo 95 95 [] [] (by decide) DEN _ k3 (od2.below al3)).mono ?_
    rintro e w4 ⟨rfl,h4,ob⟩
    have on4:=(on2.below al3).hole k3 (by decide) (show w.heap.size≠w2.heap.size by omega) h4
    have od4:=(od2.below al3).hole k3 (by decide) (show zo≠w2.heap.size by omega) h4
    have oa4:=(oa.below al3).hole k3 (by decide) (show wr.heap.size≠w2.heap.size by omega) h4
    have B4:=hole_fresh B3 h4 B2.size
    have s24:w2.heap.size≤w4.heap.size:=Nat.le_trans al3.size h4.size
    clear al3 k3 B3 h4 oa on2 od2
    go_wp2_with fail
    refine(int_Lsh w2.heap.size w2.heap.size 95 95 [] [] (by decide) DEN s hs3 (by omega) _ ob.at_ ob).mono ?_
    rintro e w5 ⟨rfl,h5,ob'⟩
    have on5:=on4.hole ob.at_ (by decide) (show w.heap.size≠w2.heap.size by omega) h5
    have od5:=od4.hole ob.at_ (by decide) (show zo≠w2.heap.size by omega) h5
    have oa45:=oa4.hole ob.at_ (by decide) (show wr.heap.size≠w2.heap.size by omega) h5
    have B5:=hole_fresh B4 h5 B2.size
    have B2s:=B2.size
    have h5s:=h5.size
    clear h5 oa4 ob on4 od4 B4
    go_wp2_with fail
    have al6:Below w5.heap.size w5 (w5.alloc (.cells #[.bool false,.slice none 0 0] 95)):=(Below.refl _ _).alloc nrf _
    have k6:At (w5.alloc (.cells #[.bool false,.slice none 0 0] 95)) w5.heap.size 95 []:=⟨_,_,Blk.new w5 _ _⟩
    obtain⟨w6,hw6⟩:∃w6,w6=w5.alloc (.cells #[.bool false,.slice none 0 0] 95):=⟨_,rfl⟩
    rw[←hw6] at al6 k6 ⊢
    have e6:w6.heap.size=w5.heap.size+1:=by rw[hw6];simp
    have al7:Below w6.heap.size w6 (w6.alloc (.cells #[.bool false,.slice none 0 0] 95)):=(Below.refl _ _).alloc nrf _
    have k7:At (w6.alloc (.cells #[.bool false,.slice none 0 0] 95)) w6.heap.size 95 []:=⟨_,_,Blk.new w6 _ _⟩
    rw[e6] at k7
    have k67:=k6.below al7 (by omega)
    have al67:=al6.trans (al7.mono al6.size)
    have B7:=B5.trans (al67.mono B5.size)
    refine(int_QuoRem w5.heap.size wr.heap.size w2.heap.size (w5.heap.size+1) 95 95 95 95 [] [] [] [] (by decide) (by decide) NUM (DEN*2^s) HDS.out (by omega) (by omega) _ k67 k7 (oa45.below al67) (ob'.below al67)).mono ?_
    rintro e w8 ⟨rfl,oq,or_,w9,h9,h8⟩
    have on8:=((on5.below al67).hole k7 (by decide) (show w.heap.size≠w5.heap.size+1 by omega) h9)
    have od8:=((od5.below al67).hole k7 (by decide) (show zo≠w5.heap.size+1 by omega) h9)
    have k69:At w9 w5.heap.size 95 []:=by obtain⟨x1,x2,hx⟩:=k67;exact⟨x1,x2,h9.blk hx (by omega)⟩
    have on9:=on8.hole k69 (by decide) (show w.heap.size≠w5.heap.size by omega) h8
    have od9:=od8.hole k69 (by decide) (show zo≠w5.heap.size by omega) h8
    have B9:=hole_fresh B7 h9 (by have:=B5.size;omega)
    have B8:=hole_fresh B9 h8 B5.size
    have hqA:NUM/(DEN*2^s)=tA NUM (s:Int)/tD DEN (s:Int):=by rw[←HA.out, ←HD.out]
    have hrA:NUM%(DEN*2^s)=tA NUM (s:Int)%tD DEN (s:Int):=by rw[←HA.out, ←HD.out]
    rw[hqA] at oq
    rw[hrA] at or_
    have hqs:=B5.size
    clear h9 h8 k69 on8 od8 on5 od5 k67 k7 k6 al67 al7 al6 B7 B9 hqA hrA hw6 e6 oa45 ob' B5 B2
    have hql:(limbs (tA NUM (s:Int)/tD DEN (s:Int))).length≤20000:=Nat.le_trans (limbs_div_le _ _) (by rw[←HA.out];exact hlA)
    obtain⟨Q,hQ⟩:∃Q,Q=tA NUM (s:Int)/tD DEN (s:Int):=⟨_,rfl⟩
    obtain⟨R,hR⟩:∃R,R=tA NUM (s:Int)%tD DEN (s:Int):=⟨_,rfl⟩
    rw[←hQ] at oq hql
    rw[←hR] at or_
    go_wp2_with fail
    refine(int_BitLen w5.heap.size _ [] Q hql _ oq).mono ?_
    rintro e wb ⟨rfl,rfl⟩
    by_cases hbx:bitLen Q=128
    · have hxx:x1=(s:Int):=by
       rcases HREL1.out with ⟨_,h⟩|⟨_,h,_⟩
       · rcases HX1.out with h1|⟨h1,h2⟩
         · rw[h1, ←h]
         · exfalso;apply h2;rw[←h, ←hQ];exact hbx
       · exact h.symm
      have hbx':((bitLen Q:Int)==128)=true:=by rw[hbx];rfl
      have HQ:=Lib.hid hQ
      have HR:=Lib.hid hR
      have HXX:=Lib.hid hxx
      clear hbx hQ hR hxx
      go_wp2_with fail
      refine(int_Sign (w5.heap.size+1) _ [] R _ or_).mono ?_
      rintro e wb ⟨rfl,rfl⟩
      by_cases h0:R=0
      · rw[if_pos h0]
        have hX:decide (tA NUM x1%tD DEN x1=0)=true:=by rw[HXX.out, ←HR.out,decide_eq_true h0]
        have HX:=Lib.hid hX
        clear hX h0
        go_wp2
        (try go_returns)
        rw[HPOST.out]
        exact⟨w5.heap.size,by rw[HX.out,HXX.out];rfl,hqs,by rw[HXX.out, ←HQ.out];exact oq,B8⟩
      · rw[if_neg h0]
        have hX:decide (tA NUM x1%tD DEN x1=0)=false:=by rw[HXX.out, ←HR.out,decide_eq_false h0]
        have HX:=Lib.hid hX
        clear hX h0
        go_wp2
        (try go_returns)
        rw[HPOST.out]
        exact⟨w5.heap.size,by rw[HX.out,HXX.out];rfl,hqs,by rw[HXX.out, ←HQ.out];exact oq,B8⟩
    · have hnx:i=0∧x1=x0+1∧(s:Int)=x0:=by
       rcases HREL1.out with ⟨h3,h⟩|⟨_,h,_⟩
       · rcases HX1.out with h1|⟨h1,h2⟩
         · exfalso;apply hbx;rw[hQ,h, ←h1];exact HBF.out
         · exact⟨h3,h1,h⟩
       · exfalso;apply hbx;rw[hQ,h];exact HBF.out
      obtain⟨rfl,hn1,hn2⟩:=hnx
      have hbx':((bitLen Q:Int)==128)=false:=by rw[beq_eq_false_iff_ne];omega
      have HN1:=Lib.hid hn1
      have HN2:=Lib.hid hn2
      clear hbx hQ hR hn1 hn2
      go_wp2
      go_roundw
      case rel=>exact⟨(s:Int)+1,1,.inr ⟨rfl,by rw[HN1.out,HN2.out],HN1.out⟩,rfl,rfl,on9,od9,hzw',B8⟩
      case measure=>first|(simp[intOf];done)|(simp[intOf];omega)
end Bg
end Go.Proofs.YtenekbfnlbipiaaGreatDoor
