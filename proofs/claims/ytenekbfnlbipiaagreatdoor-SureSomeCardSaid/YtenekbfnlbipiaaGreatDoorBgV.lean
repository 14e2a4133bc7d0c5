/- Walks of numeralbig: fractions, added. -/
import Derived.Test.YtenekbfnlbipiaaGreatDoorBgU
namespace Go.Proofs.YtenekbfnlbipiaaGreatDoor
open Go.RowKit
set_option linter.unusedVariables false
set_option linter.unusedSimpArgs false
set_option maxHeartbeats 4000000
set_option maxRecDepth 100000
namespace Bg
theorem int_AddAny (t:Bool) (z x y:Nat) (T TX TY:TypeId) (rest restx resty:List Value) (hT:T≠153) (u v:Nat) (hl:(limbs u).length+(limbs v).length≤20000) (ht:t=true→v≤u) (w:World) (hz:At w z T rest) (hx:Ob w x TX false u restx) (hy:Ob w y TY (t&&decide (v≠0)) v resty):
 Calls Tryz.prog 56 #[.pointer (some ⟨z,0,none⟩),.pointer (some ⟨x,0,none⟩),.pointer (some ⟨y,0,none⟩)] w (Sets w z T rest false (if t then u-v else u+v)):=by
 cases t
 · exact int_Add z x y T TX TY rest restx resty hT u v hl w hz hx hy
 · by_cases h:v=0
   · subst h
     exact int_Add z x y T TX TY rest restx resty hT u 0 hl w hz hx hy
   · have e:(true&&decide (v≠0))=true:=by simp[h]
     rw[e] at hy
     exact int_AddN z x y T TX TY rest restx resty hT u v hl (ht rfl) w hz hx hy
def sumA (t:Bool) (u1 v1 u2 v2:Nat):Nat:=if t then u1*(v2/Nat.gcd v1 v2)-u2*(v1/Nat.gcd v1 v2) else u1*(v2/Nat.gcd v1 v2)+u2*(v1/Nat.gcd v1 v2)
def sumN (t:Bool) (u1 v1 u2 v2:Nat):Nat:=if sumA t u1 v1 u2 v2=0 then 0 else sumA t u1 v1 u2 v2/Nat.gcd (sumA t u1 v1 u2 v2) (Nat.gcd v1 v2)
def sumD (t:Bool) (u1 v1 u2 v2:Nat):Nat:=if sumA t u1 v1 u2 v2=0 then 1 else v1/Nat.gcd v1 v2*(v2/Nat.gcd (sumA t u1 v1 u2 v2) (Nat.gcd v1 v2))
structure FitA (t:Bool) (u1 v1 u2 v2:Nat):Prop where
 n1:v1≠0
 n2:v2≠0
 p1:v1=2^tz v1∨v2=2^tz v2
 p2:sumA t u1 v1 u2 v2=2^tz (sumA t u1 v1 u2 v2)∨Nat.gcd v1 v2=2^tz (Nat.gcd v1 v2)
 l1:(limbs u1).length≤1000
 l2:(limbs u2).length≤1000
 l3:(limbs v1).length≤1000
 l4:(limbs v2).length≤1000
 l5:(limbs (sumA t u1 v1 u2 v2)).length≤5000
 s1:(limbs u1).length<40∨(limbs v2).length<40
 s2:(limbs u2).length<40∨(limbs v1).length<40
 s3:(limbs v1).length<40∨(limbs v2).length<40
 le:t=true→u2*(v1/Nat.gcd v1 v2)≤u1*(v2/Nat.gcd v1 v2)
theorem rat_added_false (z x y:Nat) (u1 v1 u2 v2:Nat) (F:FitA false u1 v1 u2 v2) (w:World) (hT:Tz w) (hz:RAt w z) (hx:Rt w x u1 v1) (hy:Rt w y u2 v2):
 Calls Tryz.prog 100 #[.pointer (some ⟨z,0,none⟩),.pointer (some ⟨x,0,none⟩),.pointer (some ⟨y,0,none⟩),.bool false] w (RSets w z (sumN false u1 v1 u2 v2) (sumD false u1 v1 u2 v2)):=by
 have hC1:=fun X Y a b=>big_common X Y v1 v2 a b F.n1 F.n2 F.p1 (by have:=F.l3;omega) (by have:=F.l4;omega)
 have hC2:=fun h0 X Y a b=>big_common X Y (sumA false u1 v1 u2 v2) (Nat.gcd v1 v2) a b h0 (gcd_ne F.n1) F.p2 (by have:=F.l5;omega) (Nat.le_trans (limbs_mono (Nat.le_of_dvd (by have:=F.n1;omega) (Nat.gcd_dvd_left v1 v2))) (by have:=F.l3;omega))
 unfold sumN sumD
 have hle:=F.le
 have l5:=F.l5
 have g0:Nat.gcd v1 v2≠0:=gcd_ne F.n1
 have hd2:∀r,v2/Nat.gcd r (Nat.gcd v1 v2)≠0:=fun r=>div_ne F.n2 (Nat.dvd_trans (Nat.gcd_dvd_right r _) (Nat.gcd_dvd_right v1 v2))
 have hd1:=div_ne F.n1 (Nat.gcd_dvd_left v1 v2)
 have eA:(if (false:Bool) then u1*(v2/Nat.gcd v1 v2)-u2*(v1/Nat.gcd v1 v2) else u1*(v2/Nat.gcd v1 v2)+u2*(v1/Nat.gcd v1 v2))=sumA false u1 v1 u2 v2:=rfl
 obtain⟨g,hg⟩:∃g,g=Nat.gcd v1 v2:=⟨_,rfl⟩
 obtain⟨r,hr⟩:∃r,r=sumA false u1 v1 u2 v2:=⟨_,rfl⟩
 rw[←hg] at hC1 hC2 g0 hd1 hle eA ⊢
 rw[←hr] at hC2 l5 eA ⊢
 rw[←hg] at hd2
 have l1:=F.l1
 have l2:=F.l2
 have l3:=F.l3
 have l4:=F.l4
 have y1:=fun X G a k=>fun ha=>big_by X G v2 g a k g0 ha (by omega)
 have y2:=fun X G a k=>fun ha=>big_by X G v1 g a k g0 ha (by omega)
 have q1:=limbs_div_le v1 g
 have q2:=limbs_div_le v2 g
 have q3:=fun h=>limbs_div_le v2 h
 have m1:=fun X Y a b=>big_mul X Y (limbs u1) (limbs (v2/g)) _ _ a b rfl rfl (by omega) (F.s1.imp id short_div)
 have m2:=fun X Y a b=>big_mul X Y (limbs u2) (limbs (v1/g)) _ _ a b rfl rfl (by omega) (F.s2.imp id short_div)
 have m3:=fun h X Y a b=>big_mul X Y (limbs (v1/g)) (limbs (v2/h)) _ _ a b rfl rfl (by have:=q3 h;omega) (F.s3.imp short_div short_div)
 simp only[val_limbs] at m1 m2 m3
 have lU:(limbs (u1*(v2/g))).length≤2000:=Nat.le_trans (limbs_mul_le _ _) (by omega)
 have lV:(limbs (u2*(v1/g))).length≤2000:=Nat.le_trans (limbs_mul_le _ _) (by omega)
 obtain⟨V1,hV1⟩:∃x,x=v1/g:=⟨_,rfl⟩
 obtain⟨V2,hV2⟩:∃x,x=v2/g:=⟨_,rfl⟩
 rw[←hV1] at y2 m2 m3 lV hle eA hd1 ⊢
 rw[←hV2] at y1 m1 lU hle eA
 obtain⟨U,hU⟩:∃x,x=u1*V2:=⟨_,rfl⟩
 obtain⟨V,hV⟩:∃x,x=u2*V1:=⟨_,rfl⟩
 rw[←hU] at m1 lU hle eA
 rw[←hV] at m2 lV hle eA
 obtain⟨N,hN⟩:∃N,N=if r=0 then 0 else r/Nat.gcd r g:=⟨_,rfl⟩
 obtain⟨M,hM⟩:∃M,M=if r=0 then 1 else V1*(v2/Nat.gcd r g):=⟨_,rfl⟩
 rw[←hN, ←hM]
 have HN:=Lib.hid hN
 have HM:=Lib.hid hM
 have EA:=Lib.hid eA
 have HLE:=Lib.hid hle
 clear hg hr hV1 hV2 hU hV hN hM F q1 q2 l1 l2 l3 eA hle
 obtain⟨A,a,A',a',lx,c0,c1,c2,hc,ho,_,_,_⟩:=hx.cells
 obtain⟨B,b,B',b',ly,b0,b1,b2,hb,hp,_,_,_⟩:=hy.cells
 go_enter Tryz.func100,Tryz.ntmps100
 go_wp2_with fail
 refine(rat_below x u1 v1 _ hx).mono ?_
 rintro e w1 ⟨P,kp,rfl,hkp,hP,hb1⟩
 go_wp2_with fail
 refine(rat_below y u2 v2 _ (hy.below hb1)).mono ?_
 rintro e w2 ⟨Q,kq,rfl,hkq,hQ,hb2⟩
 have b2':Below w.heap.size w w2:=hb1.trans (hb2.mono hb1.size)
 have hP2:=hP.below hb2 nrf
 go_wp2_with fail
 refine(hC1 P Q kp kq _ hP2.rd hQ.rd (hT.below b2')).mono ?_
 rintro e w3 ⟨G,kg,rfl,hkg,hGo,hb3⟩
 have b3':Below w.heap.size w w3:=b2'.trans (hb3.mono b2'.size)
 have hP3:=hP2.below hb3 nrf
 have hQ3:=hQ.below hb3 nrf
 have hG3:=hGo.mono (Nat.zero_le _)
 have al1:=(Below.refl w3.heap.size w3).alloc nrf (.cells #[.bool false,.slice none 0 0] 95)
 have k1:At (w3.alloc (.cells #[.bool false,.slice none 0 0] 95)) w3.heap.size 95 []:=⟨_,_,Blk.new w3 _ _⟩
 obtain⟨w4,hw4⟩:∃w4,w4=w3.alloc (.cells #[.bool false,.slice none 0 0] 95):=⟨_,rfl⟩
 rw[←hw4] at al1 k1
 have al2:=(Below.refl w4.heap.size w4).alloc nrf (.cells #[.bool false,.slice none 0 0] 95)
 have k2:At (w4.alloc (.cells #[.bool false,.slice none 0 0] 95)) w4.heap.size 95 []:=⟨_,_,Blk.new w4 _ _⟩
 obtain⟨w5,hw5⟩:∃w5,w5=w4.alloc (.cells #[.bool false,.slice none 0 0] 95):=⟨_,rfl⟩
 rw[←hw5] at al2 k2
 go_wp2_with fail
 rw[←hw4, ←hw5]
 have k12:=at_of_below k1 al2
 have b35:=al1.trans (al2.mono al1.size)
 have b5':Below w.heap.size w w5:=b3'.trans (b35.mono b3'.size)
 have hlt12:w3.heap.size<w4.heap.size:=k1.lt
 have hw35:w.heap.size≤w3.heap.size:=b3'.size
 obtain⟨ga,hga⟩:∃ga,ga=w3.heap.size:=⟨_,rfl⟩
 have e4:w4.heap.size=w3.heap.size+1:=by rw[hw4];simp
 rw[e4] at k2 hlt12
 have hP5:=hP3.below b35 nrf
 have hQ5:=hQ3.below b35 nrf
 have hG5:=hG3.below b35 nrf
 have hx5:=hx.below b5'
 have hy5:=hy.below b5'
 have ho5:=ho.below b5' nrf
 have hp5:=hp.below b5' nrf
 have hz5:=hz.below b5'
 have hT5:=hT.below b5'
 have c05:=cell_keep b5' c0
 have c15:=cell_keep b5' c1
 have b05:=cell_keep b5' b0
 have b15:=cell_keep b5' b1
 have xlt:=hx.lt
 have ylt:=hy.lt
 have zlt:=hz.lt
 rw[←hga] at k12 k2 hlt12 hw35 ⊢
 clear hga hw4 hw5 e4 hP2 hP3 hQ hQ3 hG3 hGo al1 al2 k1 b35 b3' b2' hb1 hb2 hb3 hx hy hz hT ho hp c0 c1 c2 b0 b1 b2 hP
 refine region_until 15 (fun w'=>w'.cell? ⟨x,0,none⟩=some (.bool false)∧w'.cell? ⟨x,1,none⟩=some (.slice A (limbs u1).length a)) (by kernel_rfl) ?_
 have hS:w5.drew.cell? ⟨x,0,none⟩=some (.bool false)∧w5.drew.cell? ⟨x,1,none⟩=some (.slice A (limbs u1).length a):=⟨c05,c15⟩
 refine Until.tk (i:=0) (v:=?_) rfl hS (.inl ⟨by rfl,?_⟩) ?_
 rotate_left
 · (intro w hSw;(try dsimp only at hSw);go_simp;try with_reducible rfl)
 simp only[Act.put,setP]
 refine Until.tk (i:=1) (v:=?_) rfl hS (.inl ⟨by rfl,?_⟩) ?_
 rotate_left
 · (intro w hSw;(try dsimp only at hSw);go_simp;try with_reducible rfl)
 simp only[Act.put,setP]
 refine Until.tk (i:=2) (v:=?_) rfl hS (.inl ⟨by rfl,?_⟩) ?_
 rotate_left
 · (intro w hSw;(try dsimp only at hSw);go_simp;try with_reducible rfl)
 simp only[Act.put,setP]
 refine Until.tk (i:=3) (v:=?_) rfl hS (.inl ⟨by rfl,?_⟩) ?_
 rotate_left
 · (intro w hSw;(try dsimp only at hSw);go_simp;try with_reducible rfl)
 simp only[Act.put,setP]
 refine Until.tk (i:=4) (v:=?_) rfl hS (.inl ⟨by rfl,?_⟩) ?_
 rotate_left
 · (intro w hSw;(try dsimp only at hSw);go_simp;try with_reducible rfl)
 simp only[Act.put,setP]
 refine Until.tk (i:=5) (v:=?_) rfl hS (.inl ⟨by rfl,?_⟩) ?_
 rotate_left
 · (intro w hSw;(try dsimp only at hSw);go_simp;try with_reducible rfl)
 simp only[Act.put,setP]
 refine Until.tk (i:=6) (v:=?_) rfl hS (.inl ⟨by rfl,?_⟩) ?_
 rotate_left
 · (intro w hSw;(try dsimp only at hSw);go_simp;try with_reducible rfl)
 simp only[Act.put,setP]
 refine Until.tk (i:=7) (v:=?_) rfl hS (.inl ⟨by rfl,?_⟩) ?_
 rotate_left
 · (intro w hSw;(try dsimp only at hSw);go_simp;try with_reducible rfl)
 simp only[Act.put,setP]
 refine Until.tk (i:=8) (v:=?_) rfl hS (.inl ⟨by rfl,?_⟩) ?_
 rotate_left
 · (intro w hSw;(try dsimp only at hSw);go_simp;try with_reducible rfl)
 simp only[Act.put,setP]
 refine Until.tk (i:=9) (v:=?_) rfl hS (.inl ⟨by rfl,?_⟩) ?_
 rotate_left
 · (intro w hSw;(try dsimp only at hSw);go_simp;try with_reducible rfl)
 simp only[Act.put,setP]
 refine Until.tk (i:=10) (v:=?_) rfl hS (.inl ⟨by rfl,?_⟩) ?_
 rotate_left
 · (intro w hSw;(try dsimp only at hSw);go_simp;try with_reducible rfl)
 simp only[Act.put,setP]
 refine Until.tk (i:=11) (v:=?_) rfl hS (.inl ⟨by rfl,?_⟩) ?_
 rotate_left
 · (intro w hSw;(try dsimp only at hSw);go_simp;try with_reducible rfl)
 simp only[Act.put,setP]
 refine Until.tk (i:=12) (v:=?_) rfl hS (.inl ⟨by rfl,?_⟩) ?_
 rotate_left
 · (intro w hSw;(try dsimp only at hSw);go_simp;try with_reducible rfl)
 simp only[Act.put,setP]
 refine Until.one (c:=13) (by kernel_rfl) rfl (by rfl) (fun K hK=>?_)
 go_simp
 refine(y1 Q G kq kg hkq _ hQ5.drew hG5.drew).mono ?_
 rintro e w6 ⟨C6,k6,rfl,hk6,hC6,hb6⟩
 have b6:Below w5.heap.size w5 w6:=(Below.refl w5.heap.size w5).drew.trans hb6
 dsimp only
 replace hS:w6.cell? ⟨x,0,none⟩=some (.bool false)∧w6.cell? ⟨x,1,none⟩=some (.slice A (limbs u1).length a):=⟨cell_keep b6 c05,cell_keep b6 c15⟩
 refine hK.out _ _ (.inr hS) ?_
 clear hK K
 refine Until.one (c:=14) (by kernel_rfl) rfl (by rfl) (fun K hK=>?_)
 go_simp
 refine(m1 A C6 a k6 _ (ho5.below b6 nrf).rd hC6.rd).mono ?_
 rintro e w7 ⟨C7,k7,rfl,hk7,hC7,hb7⟩
 have b7:Below w5.heap.size w5 w7:=b6.trans (hb7.mono b6.size)
 dsimp only
 replace hS:w7.cell? ⟨x,0,none⟩=some (.bool false)∧w7.cell? ⟨x,1,none⟩=some (.slice A (limbs u1).length a):=⟨cell_keep b7 c05,cell_keep b7 c15⟩
 refine hK.out _ _ (.inr hS) ?_
 clear hK K
 refine Until.one (c:=15) (by kernel_rfl) rfl (by rfl) (fun K hK=>?_)
 go_simp
 refine(int_set ga _ [] (by decide) false C7 (limbs U) _ k7 rfl hk7 _ (at_of_below k12 b7) (hC7.mono (Nat.zero_le _))).mono ?_
 rintro e w8 ⟨rfl,hh8,hoA⟩
 rw[val_limbs,nofalse] at hoA
 dsimp only
 refine hK.out _ _ (.inl (by kernel_rfl)) ?_
 clear hK K
 refine Until.done (by kernel_rfl) ?_ _
 obtain⟨xa,ya,ka7⟩:=at_of_below k12 b7
 have P8:=own_hole (hP5.below b7 nrf) ka7 (by decide) hh8
 have Q8:=own_hole (hQ5.below b7 nrf) ka7 (by decide) hh8
 have G8:=own_hole (hG5.below b7 nrf) ka7 (by decide) hh8
 have p8:=own_hole (hp5.below b7 nrf) ka7 (by decide) hh8
 have kb8:At w8 (ga+1) 95 []:=by
  obtain⟨x',y',h⟩:=at_of_below k2 b7
  exact⟨x',y',hh8.blk h (by omega)⟩
 have b08:=hh8.keep (cell_keep b7 b05) (show y≠ga by omega)
 have b18:=hh8.keep (cell_keep b7 b15) (show y≠ga by omega)
 have z8:=(hz5.below b7).hole (show z≠ga by omega) hh8
 have T8:=(hT5.below b7).hole ⟨_,_,ka7⟩ (by decide) hh8
 have B8:Below w.heap.size w w8:=hole_fresh (b5'.trans (b7.mono b5'.size)) hh8 hw35
 clear hP5 hQ5 hG5 hx5 hy5 ho5 hp5 hz5 hT5 c05 c15 b05 b15 b5' k12 k2 ka7 hh8 hC6 hC7 hb6 hb7 b6 b7 hk6 hk7
 go_wp2_with fail
 refine region_until 17 (fun w'=>w'.cell? ⟨y,0,none⟩=some (.bool false)∧w'.cell? ⟨y,1,none⟩=some (.slice B (limbs u2).length b)) (by kernel_rfl) ?_
 have hS:w8.drew.cell? ⟨y,0,none⟩=some (.bool false)∧w8.drew.cell? ⟨y,1,none⟩=some (.slice B (limbs u2).length b):=⟨b08,b18⟩
 refine Until.tk (i:=0) (v:=?_) rfl hS (.inl ⟨by rfl,?_⟩) ?_
 rotate_left
 · (intro w hSw;(try dsimp only at hSw);go_simp;try with_reducible rfl)
 simp only[Act.put,setP]
 refine Until.tk (i:=1) (v:=?_) rfl hS (.inl ⟨by rfl,?_⟩) ?_
 rotate_left
 · (intro w hSw;(try dsimp only at hSw);go_simp;try with_reducible rfl)
 simp only[Act.put,setP]
 refine Until.tk (i:=2) (v:=?_) rfl hS (.inl ⟨by rfl,?_⟩) ?_
 rotate_left
 · (intro w hSw;(try dsimp only at hSw);go_simp;try with_reducible rfl)
 simp only[Act.put,setP]
 refine Until.tk (i:=3) (v:=?_) rfl hS (.inl ⟨by rfl,?_⟩) ?_
 rotate_left
 · (intro w hSw;(try dsimp only at hSw);go_simp;try with_reducible rfl)
 simp only[Act.put,setP]
 refine Until.tk (i:=4) (v:=?_) rfl hS (.inl ⟨by rfl,?_⟩) ?_
 rotate_left
 · (intro w hSw;(try dsimp only at hSw);go_simp;try with_reducible rfl)
 simp only[Act.put,setP]
 refine Until.tk (i:=5) (v:=?_) rfl hS (.inl ⟨by rfl,?_⟩) ?_
 rotate_left
 · (intro w hSw;(try dsimp only at hSw);go_simp;try with_reducible rfl)
 simp only[Act.put,setP]
 refine Until.tk (i:=6) (v:=?_) rfl hS (.inl ⟨by rfl,?_⟩) ?_
 rotate_left
 · (intro w hSw;(try dsimp only at hSw);go_simp;try with_reducible rfl)
 simp only[Act.put,setP]
 refine Until.tk (i:=7) (v:=?_) rfl hS (.inl ⟨by rfl,?_⟩) ?_
 rotate_left
 · (intro w hSw;(try dsimp only at hSw);go_simp;try with_reducible rfl)
 simp only[Act.put,setP]
 refine Until.tk (i:=8) (v:=?_) rfl hS (.inl ⟨by rfl,?_⟩) ?_
 rotate_left
 · (intro w hSw;(try dsimp only at hSw);go_simp;try with_reducible rfl)
 simp only[Act.put,setP]
 refine Until.tk (i:=9) (v:=?_) rfl hS (.inl ⟨by rfl,?_⟩) ?_
 rotate_left
 · (intro w hSw;(try dsimp only at hSw);go_simp;try with_reducible rfl)
 simp only[Act.put,setP]
 refine Until.tk (i:=10) (v:=?_) rfl hS (.inl ⟨by rfl,?_⟩) ?_
 rotate_left
 · (intro w hSw;(try dsimp only at hSw);go_simp;try with_reducible rfl)
 simp only[Act.put,setP]
 refine Until.tk (i:=11) (v:=?_) rfl hS (.inl ⟨by rfl,?_⟩) ?_
 rotate_left
 · (intro w hSw;(try dsimp only at hSw);go_simp;try with_reducible rfl)
 simp only[Act.put,setP]
 refine Until.tk (i:=12) (v:=?_) rfl hS (.inl ⟨by rfl,?_⟩) ?_
 rotate_left
 · (intro w hSw;(try dsimp only at hSw);go_simp;try with_reducible rfl)
 simp only[Act.put,setP]
 refine Until.tk (i:=13) (v:=?_) rfl hS (.inl ⟨by rfl,?_⟩) ?_
 rotate_left
 · (intro w hSw;(try dsimp only at hSw);go_simp;try with_reducible rfl)
 simp only[Act.put,setP]
 refine Until.tk (i:=14) (v:=?_) rfl hS (.inl ⟨by rfl,?_⟩) ?_
 rotate_left
 · (intro w hSw;(try dsimp only at hSw);go_simp;try with_reducible rfl)
 simp only[Act.put,setP]
 refine Until.one (c:=15) (by kernel_rfl) rfl (by rfl) (fun K hK=>?_)
 go_simp
 refine(y2 P G kp kg hkp _ P8.drew G8.drew).mono ?_
 rintro e w9 ⟨C9,k9,rfl,hk9,hC9,hb9⟩
 have b9:Below w8.heap.size w8 w9:=(Below.refl w8.heap.size w8).drew.trans hb9
 dsimp only
 replace hS:w9.cell? ⟨y,0,none⟩=some (.bool false)∧w9.cell? ⟨y,1,none⟩=some (.slice B (limbs u2).length b):=⟨cell_keep b9 b08,cell_keep b9 b18⟩
 refine hK.out _ _ (.inr hS) ?_
 clear hK K
 refine Until.one (c:=16) (by kernel_rfl) rfl (by rfl) (fun K hK=>?_)
 go_simp
 refine(m2 B C9 b k9 _ (p8.below b9 nrf).rd hC9.rd).mono ?_
 rintro e w10 ⟨C10,k10,rfl,hk10,hC10,hb10⟩
 have b10:Below w8.heap.size w8 w10:=b9.trans (hb10.mono b9.size)
 dsimp only
 replace hS:w10.cell? ⟨y,0,none⟩=some (.bool false)∧w10.cell? ⟨y,1,none⟩=some (.slice B (limbs u2).length b):=⟨cell_keep b10 b08,cell_keep b10 b18⟩
 refine hK.out _ _ (.inr hS) ?_
 clear hK K
 refine Until.one (c:=17) (by kernel_rfl) rfl (by rfl) (fun K hK=>?_)
 go_simp
 refine(int_set (ga+1) _ [] (by decide) false C10 (limbs V) _ k10 rfl hk10 _ (at_of_below kb8 b10) (hC10.mono (Nat.zero_le _))).mono ?_
 rintro e w11 ⟨rfl,hh11,hoB⟩
 rw[val_limbs] at hoB
 dsimp only
 refine hK.out _ _ (.inl (by kernel_rfl)) ?_
 clear hK K
 refine Until.done (by kernel_rfl) ?_ _
 obtain⟨xb,yb,kb10⟩:=at_of_below kb8 b10
 have P11:=own_hole (P8.below b10 nrf) kb10 (by decide) hh11
 have Q11:=own_hole (Q8.below b10 nrf) kb10 (by decide) hh11
 have G11:=own_hole (G8.below b10 nrf) kb10 (by decide) hh11
 have a11:=(hoA.below b10).hole ⟨_,_,kb10⟩ (by decide) (show ga≠ga+1 by omega) hh11
 have z11:=(z8.below b10).hole (show z≠ga+1 by omega) hh11
 have T11:=(T8.below b10).hole ⟨_,_,kb10⟩ (by decide) hh11
 have B11:Below w.heap.size w w11:=hole_fresh (B8.trans (b10.mono B8.size)) hh11 (by omega)
 clear P8 Q8 G8 p8 kb8 b08 b18 z8 T8 B8 kb10 hh11 hoA hC9 hC10 hb9 hb10 b9 b10 hk9 hk10
 go_wp2_with fail
 refine(int_AddAny false ga ga (ga+1) _ _ _ [] [] [] (by decide) U V (by omega) (fun _=>HLE.out (by first|trivial|rfl|assumption)) _ a11.at_ a11 hoB).mono ?_
 rintro e w12 ⟨rfl,hh12,hoR⟩
 have eR:=EA.out
 simp only[Bool.false_eq_true,if_true,if_false] at eR hoR
 rw[eR] at hoR
 clear eR
 obtain⟨xc,yc,kc⟩:=a11.at_
 have P12:=own_hole P11 kc (by decide) hh12
 have Q12:=own_hole Q11 kc (by decide) hh12
 have G12:=own_hole G11 kc (by decide) hh12
 have z12:=z11.hole (show z≠ga by omega) hh12
 have T12:=T11.hole ⟨_,_,kc⟩ (by decide) hh12
 have B12:Below w.heap.size w w12:=Hole.below B11 hh12 (by omega) B11.size
 clear P11 Q11 G11 a11 z11 T11 B11 kc hh12 hoB EA HLE
 obtain⟨X,xx,a0,a1,hxx,hX⟩:=hoR.cells
 by_cases h0:r=0
 · subst h0
   have HN2:N=0:=by rw[HN.out,if_pos rfl]
   have HM2:M=1:=by rw[HM.out,if_pos rfl]
   rw[limbs_zero] at a1
   have HN3:=Lib.hid HN2
   have HM3:=Lib.hid HM2
   clear HN HM HN2 HM2
   have hal:Below w12.heap.size w12 (w12.alloc (.cells #[.int .u32 1] 153)):=(Below.refl _ _).alloc nrf _
   have hrow:Row (w12.alloc (.cells #[.int .u32 1] 153)) 153 w12.heap.size [1]:=row_new (l:=[1]) rfl rfl
   have hsm:Sm [1]:=by intro x hx;simp at hx;omega
   have hown:=hrow.own hsm (by simp) (Nat.zero_le _) 1 nrf nrf
   go_wp2_with fail
   refine(rat_set0 z (some ⟨w12.heap.size,0,none⟩) [1] 1 nrf _ (z12.below hal) hown).mono ?_
   rintro e w13 ⟨rfl,hh,hr⟩
   go_wp2
   go_ret
   exact⟨rfl,hole_of (B12.trans (hal.mono B12.size)) hh,by rw[HN3.out,HM3.out];exact hr⟩
 · have hl:(((limbs r).length:Int)==0)=false:=by have:=limbs_pos h0;rw[beq_eq_false_iff_ne];omega
   have hC3:=hC2 h0
   have hg1:Nat.gcd r g≠0:=gcd_ne h0
   have hd3:=hd2 r
   have m4:=m3 (Nat.gcd r g)
   have HN2:N=r/Nat.gcd r g:=by rw[HN.out,if_neg h0]
   have HM2:M=V1*(v2/Nat.gcd r g):=by rw[HM.out,if_neg h0]
   obtain⟨h,hh⟩:∃h,h=Nat.gcd r g:=⟨_,rfl⟩
   rw[←hh] at hC3 hg1 hd3 m4 HN2 HM2
   have y3:=fun H a k ha=>big_by X H r h a k hg1 ha (by omega)
   have y4:=fun H a k ha=>big_by Q H v2 h a k hg1 ha (by omega)
   obtain⟨W2,hW2⟩:∃x,x=v2/h:=⟨_,rfl⟩
   rw[←hW2] at m4 HM2 hd3 y4
   rw[←HN2] at y3
   rw[←HM2] at m4
   have hM0:M≠0:=by rw[HM2];exact Nat.mul_ne_zero hd1 hd3
   clear hC2 hd2 m3 q3 HN HM HN2 HM2 hh hW2 h0
   go_wp2_with fail
   refine(hC3 X G xx kg _ hX.rd G12.rd T12).mono ?_
   rintro e w13 ⟨H,kh,rfl,hkh,hHo,hb13⟩
   have P13:=P12.below hb13 nrf
   have Q13:=Q12.below hb13 nrf
   have G13:=G12.below hb13 nrf
   have H13:=hHo.mono (Nat.zero_le _)
   have z13:=z12.below hb13
   have a03:=cell_keep hb13 a0
   have a13:=cell_keep hb13 a1
   have X13:=hX.below hb13 nrf
   have B13:Below w.heap.size w w13:=B12.trans (hb13.mono B12.size)
   clear P12 Q12 G12 z12 T12 B12 a0 a1 hX hoR hHo hb13
   go_wp2_with fail
   refine region_until 14 (fun w'=>w'.cell? ⟨ga,0,none⟩=some (.bool false)∧w'.cell? ⟨ga,1,none⟩=some (.slice X (limbs r).length xx)) (by kernel_rfl) ?_
   have hS:w13.drew.cell? ⟨ga,0,none⟩=some (.bool false)∧w13.drew.cell? ⟨ga,1,none⟩=some (.slice X (limbs r).length xx):=⟨a03,a13⟩
   refine Until.tk (i:=0) (v:=?_) rfl hS (.inl ⟨by rfl,?_⟩) ?_
   rotate_left
   · (intro w hSw;(try dsimp only at hSw);go_simp;try with_reducible rfl)
   simp only[Act.put,setP]
   refine Until.tk (i:=1) (v:=?_) rfl hS (.inl ⟨by rfl,?_⟩) ?_
   rotate_left
   · (intro w hSw;(try dsimp only at hSw);go_simp;try with_reducible rfl)
   simp only[Act.put,setP]
   refine Until.tk (i:=2) (v:=?_) rfl hS (.inl ⟨by rfl,?_⟩) ?_
   rotate_left
   · (intro w hSw;(try dsimp only at hSw);go_simp;try with_reducible rfl)
   simp only[Act.put,setP]
   refine Until.tk (i:=3) (v:=?_) rfl hS (.inl ⟨by rfl,?_⟩) ?_
   rotate_left
   · (intro w hSw;(try dsimp only at hSw);go_simp;try with_reducible rfl)
   simp only[Act.put,setP]
   refine Until.tk (i:=4) (v:=?_) rfl hS (.inl ⟨by rfl,?_⟩) ?_
   rotate_left
   · (intro w hSw;(try dsimp only at hSw);go_simp;try with_reducible rfl)
   simp only[Act.put,setP]
   refine Until.tk (i:=5) (v:=?_) rfl hS (.inl ⟨by rfl,?_⟩) ?_
   rotate_left
   · (intro w hSw;(try dsimp only at hSw);go_simp;try with_reducible rfl)
   simp only[Act.put,setP]
   refine Until.tk (i:=6) (v:=?_) rfl hS (.inl ⟨by rfl,?_⟩) ?_
   rotate_left
   · (intro w hSw;(try dsimp only at hSw);go_simp;try with_reducible rfl)
   simp only[Act.put,setP]
   refine Until.tk (i:=7) (v:=?_) rfl hS (.inl ⟨by rfl,?_⟩) ?_
   rotate_left
   · (intro w hSw;(try dsimp only at hSw);go_simp;try with_reducible rfl)
   simp only[Act.put,setP]
   refine Until.tk (i:=8) (v:=?_) rfl hS (.inl ⟨by rfl,?_⟩) ?_
   rotate_left
   · (intro w hSw;(try dsimp only at hSw);go_simp;try with_reducible rfl)
   simp only[Act.put,setP]
   refine Until.tk (i:=9) (v:=?_) rfl hS (.inl ⟨by rfl,?_⟩) ?_
   rotate_left
   · (intro w hSw;(try dsimp only at hSw);go_simp;try with_reducible rfl)
   simp only[Act.put,setP]
   refine Until.tk (i:=10) (v:=?_) rfl hS (.inl ⟨by rfl,?_⟩) ?_
   rotate_left
   · (intro w hSw;(try dsimp only at hSw);go_simp;try with_reducible rfl)
   simp only[Act.put,setP]
   refine Until.tk (i:=11) (v:=?_) rfl hS (.inl ⟨by rfl,?_⟩) ?_
   rotate_left
   · (intro w hSw;(try dsimp only at hSw);go_simp;try with_reducible rfl)
   simp only[Act.put,setP]
   refine Until.one (c:=12) (by kernel_rfl) rfl (by rfl) (fun K hK=>?_)
   go_simp
   refine(y3 H xx kh hxx _ X13.drew H13.drew).mono ?_
   rintro e w14 ⟨C14,k14,rfl,hk14,hC14,hb14⟩
   have b14:Below w13.heap.size w13 w14:=(Below.refl w13.heap.size w13).drew.trans hb14
   dsimp only
   replace hS:w14.cell? ⟨ga,0,none⟩=some (.bool false)∧w14.cell? ⟨ga,1,none⟩=some (.slice X (limbs r).length xx):=⟨cell_keep b14 a03,cell_keep b14 a13⟩
   refine hK.out _ _ (.inr hS) ?_
   clear hK K
   refine Until.one (c:=13) (by kernel_rfl) rfl (by rfl) (fun K hK=>?_)
   go_simp
   refine(big_copied C14 (limbs N) _ k14 rfl _ hC14.rd).mono ?_
   rintro e w15 ⟨g15,rfl,hg15,hrow15,hb15⟩
   have b15':Below w13.heap.size w13 w15:=b14.trans (hb15.mono b14.size)
   dsimp only
   replace hS:w15.cell? ⟨ga,0,none⟩=some (.bool false)∧w15.cell? ⟨ga,1,none⟩=some (.slice X (limbs r).length xx):=⟨cell_keep b15' a03,cell_keep b15' a13⟩
   refine hK.out _ _ (.inr hS) ?_
   clear hK K
   refine Until.one (c:=14) (by kernel_rfl) rfl (by rfl) (fun K hK=>?_)
   go_simp
   obtain⟨D0,hz15⟩:=z13.below b15'
   refine(int_set z _ [D0] (by decide) false (some ⟨g15,0,none⟩) (limbs N) _ _ rfl nrf _ hz15 (by have:=hrow15.own (sm_limbs N) hC14.rd.len (Nat.zero_le _) (limbs N).length nrf nrf;rw[List.take_length] at this;exact this)).mono ?_
   rintro e w16 ⟨rfl,hh16,hoZ⟩
   rw[val_limbs,nofalse] at hoZ
   dsimp only
   refine hK.out _ _ (.inl (by kernel_rfl)) ?_
   clear hK K
   refine Until.done (by kernel_rfl) ?_ _
   obtain⟨xz,yz,kz⟩:=id hz15
   have P16:=own_hole (P13.below b15' nrf) kz (by decide) hh16
   have Q16:=own_hole (Q13.below b15' nrf) kz (by decide) hh16
   have G16:=own_hole (G13.below b15' nrf) kz (by decide) hh16
   have H16:=own_hole (H13.below b15' nrf) kz (by decide) hh16
   have B15:Below w.heap.size w w15:=B13.trans (b15'.mono B13.size)
   clear P13 Q13 G13 H13 z13 a03 a13 X13 B13 hC14 hb14 hb15 b14 b15' hrow15
   go_wp2_with fail
   refine(y2 P G kp kg hkp _ P16 G16).mono ?_
   rintro e w17 ⟨C17,k17,rfl,hk17,hC17,hb17⟩
   go_wp2_with fail
   refine(y4 H kq kh hkq _ (Q16.below hb17 nrf) (H16.below hb17 nrf)).mono ?_
   rintro e w18 ⟨C18,k18,rfl,hk18,hC18,hb18⟩
   have b18':=hb17.trans (hb18.mono hb17.size)
   go_wp2_with fail
   refine(m4 C17 C18 k17 k18 _ (hC17.below hb18 nrf).rd hC18.rd).mono ?_
   rintro e w19 ⟨C19,k19,rfl,hk19,hC19,hb19⟩
   have b19:=b18'.trans (hb19.mono b18'.size)
   have hoZ9:=hoZ.below b19
   obtain⟨A6,c6,hb6',hc6,ho6⟩:=id hoZ9
   have e2:=hb6'.cell 2
   have f2:=hb6'.frozen 2
   simp at e2
   clear P16 Q16 G16 H16 hC17 hC18
   go_wp2
   go_ret
   exact⟨rfl,((hole_of B15 hh16).then_ b19).setCell rfl _,rt_set2 hoZ9 hk19 (hC19.mono (Nat.zero_le _)) (.inr ⟨rfl,hM0⟩)⟩
theorem rat_added_true (z x y:Nat) (u1 v1 u2 v2:Nat) (F:FitA true u1 v1 u2 v2) (w:World) (hT:Tz w) (hz:RAt w z) (hx:Rt w x u1 v1) (hy:Rt w y u2 v2):
 Calls Tryz.prog 100 #[.pointer (some ⟨z,0,none⟩),.pointer (some ⟨x,0,none⟩),.pointer (some ⟨y,0,none⟩),.bool true] w (RSets w z (sumN true u1 v1 u2 v2) (sumD true u1 v1 u2 v2)):=by
 have hC1:=fun X Y a b=>big_common X Y v1 v2 a b F.n1 F.n2 F.p1 (by have:=F.l3;omega) (by have:=F.l4;omega)
 have hC2:=fun h0 X Y a b=>big_common X Y (sumA true u1 v1 u2 v2) (Nat.gcd v1 v2) a b h0 (gcd_ne F.n1) F.p2 (by have:=F.l5;omega) (Nat.le_trans (limbs_mono (Nat.le_of_dvd (by have:=F.n1;omega) (Nat.gcd_dvd_left v1 v2))) (by have:=F.l3;omega))
 unfold sumN sumD
 have hle:=F.le
 have l5:=F.l5
 have g0:Nat.gcd v1 v2≠0:=gcd_ne F.n1
 have hd2:∀r,v2/Nat.gcd r (Nat.gcd v1 v2)≠0:=fun r=>div_ne F.n2 (Nat.dvd_trans (Nat.gcd_dvd_right r _) (Nat.gcd_dvd_right v1 v2))
 have hd1:=div_ne F.n1 (Nat.gcd_dvd_left v1 v2)
 have eA:(if (true:Bool) then u1*(v2/Nat.gcd v1 v2)-u2*(v1/Nat.gcd v1 v2) else u1*(v2/Nat.gcd v1 v2)+u2*(v1/Nat.gcd v1 v2))=sumA true u1 v1 u2 v2:=rfl
 obtain⟨g,hg⟩:∃g,g=Nat.gcd v1 v2:=⟨_,rfl⟩
 obtain⟨r,hr⟩:∃r,r=sumA true u1 v1 u2 v2:=⟨_,rfl⟩
 rw[←hg] at hC1 hC2 g0 hd1 hle eA ⊢
 rw[←hr] at hC2 l5 eA ⊢
 rw[←hg] at hd2
 have l1:=F.l1
 have l2:=F.l2
 have l3:=F.l3
 have l4:=F.l4
 have y1:=fun X G a k=>fun ha=>big_by X G v2 g a k g0 ha (by omega)
 have y2:=fun X G a k=>fun ha=>big_by X G v1 g a k g0 ha (by omega)
 have q1:=limbs_div_le v1 g
 have q2:=limbs_div_le v2 g
 have q3:=fun h=>limbs_div_le v2 h
 have m1:=fun X Y a b=>big_mul X Y (limbs u1) (limbs (v2/g)) _ _ a b rfl rfl (by omega) (F.s1.imp id short_div)
 have m2:=fun X Y a b=>big_mul X Y (limbs u2) (limbs (v1/g)) _ _ a b rfl rfl (by omega) (F.s2.imp id short_div)
 have m3:=fun h X Y a b=>big_mul X Y (limbs (v1/g)) (limbs (v2/h)) _ _ a b rfl rfl (by have:=q3 h;omega) (F.s3.imp short_div short_div)
 simp only[val_limbs] at m1 m2 m3
 have lU:(limbs (u1*(v2/g))).length≤2000:=Nat.le_trans (limbs_mul_le _ _) (by omega)
 have lV:(limbs (u2*(v1/g))).length≤2000:=Nat.le_trans (limbs_mul_le _ _) (by omega)
 obtain⟨V1,hV1⟩:∃x,x=v1/g:=⟨_,rfl⟩
 obtain⟨V2,hV2⟩:∃x,x=v2/g:=⟨_,rfl⟩
 rw[←hV1] at y2 m2 m3 lV hle eA hd1 ⊢
 rw[←hV2] at y1 m1 lU hle eA
 obtain⟨U,hU⟩:∃x,x=u1*V2:=⟨_,rfl⟩
 obtain⟨V,hV⟩:∃x,x=u2*V1:=⟨_,rfl⟩
 rw[←hU] at m1 lU hle eA
 rw[←hV] at m2 lV hle eA
 obtain⟨N,hN⟩:∃N,N=if r=0 then 0 else r/Nat.gcd r g:=⟨_,rfl⟩
 obtain⟨M,hM⟩:∃M,M=if r=0 then 1 else V1*(v2/Nat.gcd r g):=⟨_,rfl⟩
 rw[←hN, ←hM]
 have HN:=Lib.hid hN
 have HM:=Lib.hid hM
 have EA:=Lib.hid eA
 have HLE:=Lib.hid hle
 clear hg hr hV1 hV2 hU hV hN hM F q1 q2 l1 l2 l3 eA hle
 obtain⟨A,a,A',a',lx,c0,c1,c2,hc,ho,_,_,_⟩:=hx.cells
 obtain⟨B,b,B',b',ly,b0,b1,b2,hb,hp,_,_,_⟩:=hy.cells
 go_enter Tryz.func100,Tryz.ntmps100
 go_wp2_with fail
 refine(rat_below x u1 v1 _ hx).mono ?_
 rintro e w1 ⟨P,kp,rfl,hkp,hP,hb1⟩
 go_wp2_with fail
 refine(rat_below y u2 v2 _ (hy.below hb1)).mono ?_
 rintro e w2 ⟨Q,kq,rfl,hkq,hQ,hb2⟩
 have b2':Below w.heap.size w w2:=hb1.trans (hb2.mono hb1.size)
 have hP2:=hP.below hb2 nrf
 go_wp2_with fail
 refine(hC1 P Q kp kq _ hP2.rd hQ.rd (hT.below b2')).mono ?_
 rintro e w3 ⟨G,kg,rfl,hkg,hGo,hb3⟩
 have b3':Below w.heap.size w w3:=b2'.trans (hb3.mono b2'.size)
 have hP3:=hP2.below hb3 nrf
 have hQ3:=hQ.below hb3 nrf
 have hG3:=hGo.mono (Nat.zero_le _)
 have al1:=(Below.refl w3.heap.size w3).alloc nrf (.cells #[.bool false,.slice none 0 0] 95)
 have k1:At (w3.alloc (.cells #[.bool false,.slice none 0 0] 95)) w3.heap.size 95 []:=⟨_,_,Blk.new w3 _ _⟩
 obtain⟨w4,hw4⟩:∃w4,w4=w3.alloc (.cells #[.bool false,.slice none 0 0] 95):=⟨_,rfl⟩
 rw[←hw4] at al1 k1
 have al2:=(Below.refl w4.heap.size w4).alloc nrf (.cells #[.bool false,.slice none 0 0] 95)
 have k2:At (w4.alloc (.cells #[.bool false,.slice none 0 0] 95)) w4.heap.size 95 []:=⟨_,_,Blk.new w4 _ _⟩
 obtain⟨w5,hw5⟩:∃w5,w5=w4.alloc (.cells #[.bool false,.slice none 0 0] 95):=⟨_,rfl⟩
 rw[←hw5] at al2 k2
 go_wp2_with fail
 rw[←hw4, ←hw5]
 have k12:=at_of_below k1 al2
 have b35:=al1.trans (al2.mono al1.size)
 have b5':Below w.heap.size w w5:=b3'.trans (b35.mono b3'.size)
 have hlt12:w3.heap.size<w4.heap.size:=k1.lt
 have hw35:w.heap.size≤w3.heap.size:=b3'.size
 obtain⟨ga,hga⟩:∃ga,ga=w3.heap.size:=⟨_,rfl⟩
 have e4:w4.heap.size=w3.heap.size+1:=by rw[hw4];simp
 rw[e4] at k2 hlt12
 have hP5:=hP3.below b35 nrf
 have hQ5:=hQ3.below b35 nrf
 have hG5:=hG3.below b35 nrf
 have hx5:=hx.below b5'
 have hy5:=hy.below b5'
 have ho5:=ho.below b5' nrf
 have hp5:=hp.below b5' nrf
 have hz5:=hz.below b5'
 have hT5:=hT.below b5'
 have c05:=cell_keep b5' c0
 have c15:=cell_keep b5' c1
 have b05:=cell_keep b5' b0
 have b15:=cell_keep b5' b1
 have xlt:=hx.lt
 have ylt:=hy.lt
 have zlt:=hz.lt
 rw[←hga] at k12 k2 hlt12 hw35 ⊢
 clear hga hw4 hw5 e4 hP2 hP3 hQ hQ3 hG3 hGo al1 al2 k1 b35 b3' b2' hb1 hb2 hb3 hx hy hz hT ho hp c0 c1 c2 b0 b1 b2 hP
 refine region_until 15 (fun w'=>w'.cell? ⟨x,0,none⟩=some (.bool false)∧w'.cell? ⟨x,1,none⟩=some (.slice A (limbs u1).length a)) (by kernel_rfl) ?_
 have hS:w5.drew.cell? ⟨x,0,none⟩=some (.bool false)∧w5.drew.cell? ⟨x,1,none⟩=some (.slice A (limbs u1).length a):=⟨c05,c15⟩
 refine Until.tk (i:=0) (v:=?_) rfl hS (.inl ⟨by rfl,?_⟩) ?_
 rotate_left
 · (intro w hSw;(try dsimp only at hSw);go_simp;try with_reducible rfl)
 simp only[Act.put,setP]
 refine Until.tk (i:=1) (v:=?_) rfl hS (.inl ⟨by rfl,?_⟩) ?_
 rotate_left
 · (intro w hSw;(try dsimp only at hSw);go_simp;try with_reducible rfl)
 simp only[Act.put,setP]
 refine Until.tk (i:=2) (v:=?_) rfl hS (.inl ⟨by rfl,?_⟩) ?_
 rotate_left
 · (intro w hSw;(try dsimp only at hSw);go_simp;try with_reducible rfl)
 simp only[Act.put,setP]
 refine Until.tk (i:=3) (v:=?_) rfl hS (.inl ⟨by rfl,?_⟩) ?_
 rotate_left
 · (intro w hSw;(try dsimp only at hSw);go_simp;try with_reducible rfl)
 simp only[Act.put,setP]
 refine Until.tk (i:=4) (v:=?_) rfl hS (.inl ⟨by rfl,?_⟩) ?_
 rotate_left
 · (intro w hSw;(try dsimp only at hSw);go_simp;try with_reducible rfl)
 simp only[Act.put,setP]
 refine Until.tk (i:=5) (v:=?_) rfl hS (.inl ⟨by rfl,?_⟩) ?_
 rotate_left
 · (intro w hSw;(try dsimp only at hSw);go_simp;try with_reducible rfl)
 simp only[Act.put,setP]
 refine Until.tk (i:=6) (v:=?_) rfl hS (.inl ⟨by rfl,?_⟩) ?_
 rotate_left
 · (intro w hSw;(try dsimp only at hSw);go_simp;try with_reducible rfl)
 simp only[Act.put,setP]
 refine Until.tk (i:=7) (v:=?_) rfl hS (.inl ⟨by rfl,?_⟩) ?_
 rotate_left
 · (intro w hSw;(try dsimp only at hSw);go_simp;try with_reducible rfl)
 simp only[Act.put,setP]
 refine Until.tk (i:=8) (v:=?_) rfl hS (.inl ⟨by rfl,?_⟩) ?_
 rotate_left
 · (intro w hSw;(try dsimp only at hSw);go_simp;try with_reducible rfl)
 simp only[Act.put,setP]
 refine Until.tk (i:=9) (v:=?_) rfl hS (.inl ⟨by rfl,?_⟩) ?_
 rotate_left
 · (intro w hSw;(try dsimp only at hSw);go_simp;try with_reducible rfl)
 simp only[Act.put,setP]
 refine Until.tk (i:=10) (v:=?_) rfl hS (.inl ⟨by rfl,?_⟩) ?_
 rotate_left
 · (intro w hSw;(try dsimp only at hSw);go_simp;try with_reducible rfl)
 simp only[Act.put,setP]
 refine Until.tk (i:=11) (v:=?_) rfl hS (.inl ⟨by rfl,?_⟩) ?_
 rotate_left
 · (intro w hSw;(try dsimp only at hSw);go_simp;try with_reducible rfl)
 simp only[Act.put,setP]
 refine Until.tk (i:=12) (v:=?_) rfl hS (.inl ⟨by rfl,?_⟩) ?_
 rotate_left
 · (intro w hSw;(try dsimp only at hSw);go_simp;try with_reducible rfl)
 simp only[Act.put,setP]
 refine Until.one (c:=13) (by kernel_rfl) rfl (by rfl) (fun K hK=>?_)
 go_simp
 refine(y1 Q G kq kg hkq _ hQ5.drew hG5.drew).mono ?_
 rintro e w6 ⟨C6,k6,rfl,hk6,hC6,hb6⟩
 have b6:Below w5.heap.size w5 w6:=(Below.refl w5.heap.size w5).drew.trans hb6
 dsimp only
 replace hS:w6.cell? ⟨x,0,none⟩=some (.bool false)∧w6.cell? ⟨x,1,none⟩=some (.slice A (limbs u1).length a):=⟨cell_keep b6 c05,cell_keep b6 c15⟩
 refine hK.out _ _ (.inr hS) ?_
 clear hK K
 refine Until.one (c:=14) (by kernel_rfl) rfl (by rfl) (fun K hK=>?_)
 go_simp
 refine(m1 A C6 a k6 _ (ho5.below b6 nrf).rd hC6.rd).mono ?_
 rintro e w7 ⟨C7,k7,rfl,hk7,hC7,hb7⟩
 have b7:Below w5.heap.size w5 w7:=b6.trans (hb7.mono b6.size)
 dsimp only
 replace hS:w7.cell? ⟨x,0,none⟩=some (.bool false)∧w7.cell? ⟨x,1,none⟩=some (.slice A (limbs u1).length a):=⟨cell_keep b7 c05,cell_keep b7 c15⟩
 refine hK.out _ _ (.inr hS) ?_
 clear hK K
 refine Until.one (c:=15) (by kernel_rfl) rfl (by rfl) (fun K hK=>?_)
 go_simp
 refine(int_set ga _ [] (by decide) false C7 (limbs U) _ k7 rfl hk7 _ (at_of_below k12 b7) (hC7.mono (Nat.zero_le _))).mono ?_
 rintro e w8 ⟨rfl,hh8,hoA⟩
 rw[val_limbs,nofalse] at hoA
 dsimp only
 refine hK.out _ _ (.inl (by kernel_rfl)) ?_
 clear hK K
 refine Until.done (by kernel_rfl) ?_ _
 obtain⟨xa,ya,ka7⟩:=at_of_below k12 b7
 have P8:=own_hole (hP5.below b7 nrf) ka7 (by decide) hh8
 have Q8:=own_hole (hQ5.below b7 nrf) ka7 (by decide) hh8
 have G8:=own_hole (hG5.below b7 nrf) ka7 (by decide) hh8
 have p8:=own_hole (hp5.below b7 nrf) ka7 (by decide) hh8
 have kb8:At w8 (ga+1) 95 []:=by
  obtain⟨x',y',h⟩:=at_of_below k2 b7
  exact⟨x',y',hh8.blk h (by omega)⟩
 have b08:=hh8.keep (cell_keep b7 b05) (show y≠ga by omega)
 have b18:=hh8.keep (cell_keep b7 b15) (show y≠ga by omega)
 have z8:=(hz5.below b7).hole (show z≠ga by omega) hh8
 have T8:=(hT5.below b7).hole ⟨_,_,ka7⟩ (by decide) hh8
 have B8:Below w.heap.size w w8:=hole_fresh (b5'.trans (b7.mono b5'.size)) hh8 hw35
 clear hP5 hQ5 hG5 hx5 hy5 ho5 hp5 hz5 hT5 c05 c15 b05 b15 b5' k12 k2 ka7 hh8 hC6 hC7 hb6 hb7 b6 b7 hk6 hk7
 go_wp2_with fail
 refine region_until 17 (fun w'=>w'.cell? ⟨y,0,none⟩=some (.bool false)∧w'.cell? ⟨y,1,none⟩=some (.slice B (limbs u2).length b)) (by kernel_rfl) ?_
 have hS:w8.drew.cell? ⟨y,0,none⟩=some (.bool false)∧w8.drew.cell? ⟨y,1,none⟩=some (.slice B (limbs u2).length b):=⟨b08,b18⟩
 refine Until.tk (i:=0) (v:=?_) rfl hS (.inl ⟨by rfl,?_⟩) ?_
 rotate_left
 · (intro w hSw;(try dsimp only at hSw);go_simp;try with_reducible rfl)
 simp only[Act.put,setP]
 refine Until.tk (i:=1) (v:=?_) rfl hS (.inl ⟨by rfl,?_⟩) ?_
 rotate_left
 · (intro w hSw;(try dsimp only at hSw);go_simp;try with_reducible rfl)
 simp only[Act.put,setP]
 refine Until.tk (i:=2) (v:=?_) rfl hS (.inl ⟨by rfl,?_⟩) ?_
 rotate_left
 · (intro w hSw;(try dsimp only at hSw);go_simp;try with_reducible rfl)
 simp only[Act.put,setP]
 refine Until.tk (i:=3) (v:=?_) rfl hS (.inl ⟨by rfl,?_⟩) ?_
 rotate_left
 · (intro w hSw;(try dsimp only at hSw);go_simp;try with_reducible rfl)
 simp only[Act.put,setP]
 refine Until.tk (i:=4) (v:=?_) rfl hS (.inl ⟨by rfl,?_⟩) ?_
 rotate_left
 · (intro w hSw;(try dsimp only at hSw);go_simp;try with_reducible rfl)
 simp only[Act.put,setP]
 refine Until.tk (i:=5) (v:=?_) rfl hS (.inl ⟨by rfl,?_⟩) ?_
 rotate_left
 · (intro w hSw;(try dsimp only at hSw);go_simp;try with_reducible rfl)
 simp only[Act.put,setP]
 refine Until.tk (i:=6) (v:=?_) rfl hS (.inl ⟨by rfl,?_⟩) ?_
 rotate_left
 · (intro w hSw;(try dsimp only at hSw);go_simp;try with_reducible rfl)
 simp only[Act.put,setP]
 refine Until.tk (i:=7) (v:=?_) rfl hS (.inl ⟨by rfl,?_⟩) ?_
 rotate_left
 · (intro w hSw;(try dsimp only at hSw);go_simp;try with_reducible rfl)
 simp only[Act.put,setP]
 refine Until.tk (i:=8) (v:=?_) rfl hS (.inl ⟨by rfl,?_⟩) ?_
 rotate_left
 · (intro w hSw;(try dsimp only at hSw);go_simp;try with_reducible rfl)
 simp only[Act.put,setP]
 refine Until.tk (i:=9) (v:=?_) rfl hS (.inl ⟨by rfl,?_⟩) ?_
 rotate_left
 · (intro w hSw;(try dsimp only at hSw);go_simp;try with_reducible rfl)
 simp only[Act.put,setP]
 refine Until.tk (i:=10) (v:=?_) rfl hS (.inl ⟨by rfl,?_⟩) ?_
 rotate_left
 · (intro w hSw;(try dsimp only at hSw);go_simp;try with_reducible rfl)
 simp only[Act.put,setP]
 refine Until.tk (i:=11) (v:=?_) rfl hS (.inl ⟨by rfl,?_⟩) ?_
 rotate_left
 · (intro w hSw;(try dsimp only at hSw);go_simp;try with_reducible rfl)
 simp only[Act.put,setP]
 refine Until.tk (i:=12) (v:=?_) rfl hS (.inl ⟨by rfl,?_⟩) ?_
 rotate_left
 · (intro w hSw;(try dsimp only at hSw);go_simp;try with_reducible rfl)
 simp only[Act.put,setP]
 refine Until.tk (i:=13) (v:=?_) rfl hS (.inl ⟨by rfl,?_⟩) ?_
 rotate_left
 · (intro w hSw;(try dsimp only at hSw);go_simp;try with_reducible rfl)
 simp only[Act.put,setP]
 refine Until.tk (i:=14) (v:=?_) rfl hS (.inl ⟨by rfl,?_⟩) ?_
 rotate_left
 · (intro w hSw;(try dsimp only at hSw);go_simp;try with_reducible rfl)
 simp only[Act.put,setP]
 refine Until.one (c:=15) (by kernel_rfl) rfl (by rfl) (fun K hK=>?_)
 go_simp
 refine(y2 P G kp kg hkp _ P8.drew G8.drew).mono ?_
 rintro e w9 ⟨C9,k9,rfl,hk9,hC9,hb9⟩
 have b9:Below w8.heap.size w8 w9:=(Below.refl w8.heap.size w8).drew.trans hb9
 dsimp only
 replace hS:w9.cell? ⟨y,0,none⟩=some (.bool false)∧w9.cell? ⟨y,1,none⟩=some (.slice B (limbs u2).length b):=⟨cell_keep b9 b08,cell_keep b9 b18⟩
 refine hK.out _ _ (.inr hS) ?_
 clear hK K
 refine Until.one (c:=16) (by kernel_rfl) rfl (by rfl) (fun K hK=>?_)
 go_simp
 refine(m2 B C9 b k9 _ (p8.below b9 nrf).rd hC9.rd).mono ?_
 rintro e w10 ⟨C10,k10,rfl,hk10,hC10,hb10⟩
 have b10:Below w8.heap.size w8 w10:=b9.trans (hb10.mono b9.size)
 dsimp only
 replace hS:w10.cell? ⟨y,0,none⟩=some (.bool false)∧w10.cell? ⟨y,1,none⟩=some (.slice B (limbs u2).length b):=⟨cell_keep b10 b08,cell_keep b10 b18⟩
 refine hK.out _ _ (.inr hS) ?_
 clear hK K
 refine Until.one (c:=17) (by kernel_rfl) rfl (by rfl) (fun K hK=>?_)
 go_simp
 refine(int_set (ga+1) _ [] (by decide) true C10 (limbs V) _ k10 rfl hk10 _ (at_of_below kb8 b10) (hC10.mono (Nat.zero_le _))).mono ?_
 rintro e w11 ⟨rfl,hh11,hoB⟩
 rw[val_limbs] at hoB
 dsimp only
 refine hK.out _ _ (.inl (by kernel_rfl)) ?_
 clear hK K
 refine Until.done (by kernel_rfl) ?_ _
 obtain⟨xb,yb,kb10⟩:=at_of_below kb8 b10
 have P11:=own_hole (P8.below b10 nrf) kb10 (by decide) hh11
 have Q11:=own_hole (Q8.below b10 nrf) kb10 (by decide) hh11
 have G11:=own_hole (G8.below b10 nrf) kb10 (by decide) hh11
 have a11:=(hoA.below b10).hole ⟨_,_,kb10⟩ (by decide) (show ga≠ga+1 by omega) hh11
 have z11:=(z8.below b10).hole (show z≠ga+1 by omega) hh11
 have T11:=(T8.below b10).hole ⟨_,_,kb10⟩ (by decide) hh11
 have B11:Below w.heap.size w w11:=hole_fresh (B8.trans (b10.mono B8.size)) hh11 (by omega)
 clear P8 Q8 G8 p8 kb8 b08 b18 z8 T8 B8 kb10 hh11 hoA hC9 hC10 hb9 hb10 b9 b10 hk9 hk10
 go_wp2_with fail
 refine(int_AddAny true ga ga (ga+1) _ _ _ [] [] [] (by decide) U V (by omega) (fun _=>HLE.out (by first|trivial|rfl|assumption)) _ a11.at_ a11 hoB).mono ?_
 rintro e w12 ⟨rfl,hh12,hoR⟩
 have eR:=EA.out
 simp only[Bool.false_eq_true,if_true,if_false] at eR hoR
 rw[eR] at hoR
 clear eR
 obtain⟨xc,yc,kc⟩:=a11.at_
 have P12:=own_hole P11 kc (by decide) hh12
 have Q12:=own_hole Q11 kc (by decide) hh12
 have G12:=own_hole G11 kc (by decide) hh12
 have z12:=z11.hole (show z≠ga by omega) hh12
 have T12:=T11.hole ⟨_,_,kc⟩ (by decide) hh12
 have B12:Below w.heap.size w w12:=Hole.below B11 hh12 (by omega) B11.size
 clear P11 Q11 G11 a11 z11 T11 B11 kc hh12 hoB EA HLE
 obtain⟨X,xx,a0,a1,hxx,hX⟩:=hoR.cells
 by_cases h0:r=0
 · subst h0
   have HN2:N=0:=by rw[HN.out,if_pos rfl]
   have HM2:M=1:=by rw[HM.out,if_pos rfl]
   rw[limbs_zero] at a1
   have HN3:=Lib.hid HN2
   have HM3:=Lib.hid HM2
   clear HN HM HN2 HM2
   have hal:Below w12.heap.size w12 (w12.alloc (.cells #[.int .u32 1] 153)):=(Below.refl _ _).alloc nrf _
   have hrow:Row (w12.alloc (.cells #[.int .u32 1] 153)) 153 w12.heap.size [1]:=row_new (l:=[1]) rfl rfl
   have hsm:Sm [1]:=by intro x hx;simp at hx;omega
   have hown:=hrow.own hsm (by simp) (Nat.zero_le _) 1 nrf nrf
   go_wp2_with fail
   refine(rat_set0 z (some ⟨w12.heap.size,0,none⟩) [1] 1 nrf _ (z12.below hal) hown).mono ?_
   rintro e w13 ⟨rfl,hh,hr⟩
   go_wp2
   go_ret
   exact⟨rfl,hole_of (B12.trans (hal.mono B12.size)) hh,by rw[HN3.out,HM3.out];exact hr⟩
 · have hl:(((limbs r).length:Int)==0)=false:=by have:=limbs_pos h0;rw[beq_eq_false_iff_ne];omega
   have hC3:=hC2 h0
   have hg1:Nat.gcd r g≠0:=gcd_ne h0
   have hd3:=hd2 r
   have m4:=m3 (Nat.gcd r g)
   have HN2:N=r/Nat.gcd r g:=by rw[HN.out,if_neg h0]
   have HM2:M=V1*(v2/Nat.gcd r g):=by rw[HM.out,if_neg h0]
   obtain⟨h,hh⟩:∃h,h=Nat.gcd r g:=⟨_,rfl⟩
   rw[←hh] at hC3 hg1 hd3 m4 HN2 HM2
   have y3:=fun H a k ha=>big_by X H r h a k hg1 ha (by omega)
   have y4:=fun H a k ha=>big_by Q H v2 h a k hg1 ha (by omega)
   obtain⟨W2,hW2⟩:∃x,x=v2/h:=⟨_,rfl⟩
   rw[←hW2] at m4 HM2 hd3 y4
   rw[←HN2] at y3
   rw[←HM2] at m4
   have hM0:M≠0:=by rw[HM2];exact Nat.mul_ne_zero hd1 hd3
   clear hC2 hd2 m3 q3 HN HM HN2 HM2 hh hW2 h0
   go_wp2_with fail
   refine(hC3 X G xx kg _ hX.rd G12.rd T12).mono ?_
   rintro e w13 ⟨H,kh,rfl,hkh,hHo,hb13⟩
   have P13:=P12.below hb13 nrf
   have Q13:=Q12.below hb13 nrf
   have G13:=G12.below hb13 nrf
   have H13:=hHo.mono (Nat.zero_le _)
   have z13:=z12.below hb13
   have a03:=cell_keep hb13 a0
   have a13:=cell_keep hb13 a1
   have X13:=hX.below hb13 nrf
   have B13:Below w.heap.size w w13:=B12.trans (hb13.mono B12.size)
   clear P12 Q12 G12 z12 T12 B12 a0 a1 hX hoR hHo hb13
   go_wp2_with fail
   refine region_until 14 (fun w'=>w'.cell? ⟨ga,0,none⟩=some (.bool false)∧w'.cell? ⟨ga,1,none⟩=some (.slice X (limbs r).length xx)) (by kernel_rfl) ?_
   have hS:w13.drew.cell? ⟨ga,0,none⟩=some (.bool false)∧w13.drew.cell? ⟨ga,1,none⟩=some (.slice X (limbs r).length xx):=⟨a03,a13⟩
   refine Until.tk (i:=0) (v:=?_) rfl hS (.inl ⟨by rfl,?_⟩) ?_
   rotate_left
   · (intro w hSw;(try dsimp only at hSw);go_simp;try with_reducible rfl)
   simp only[Act.put,setP]
   refine Until.tk (i:=1) (v:=?_) rfl hS (.inl ⟨by rfl,?_⟩) ?_
   rotate_left
   · (intro w hSw;(try dsimp only at hSw);go_simp;try with_reducible rfl)
   simp only[Act.put,setP]
   refine Until.tk (i:=2) (v:=?_) rfl hS (.inl ⟨by rfl,?_⟩) ?_
   rotate_left
   · (intro w hSw;(try dsimp only at hSw);go_simp;try with_reducible rfl)
   simp only[Act.put,setP]
   refine Until.tk (i:=3) (v:=?_) rfl hS (.inl ⟨by rfl,?_⟩) ?_
   rotate_left
   · (intro w hSw;(try dsimp only at hSw);go_simp;try with_reducible rfl)
   simp only[Act.put,setP]
   refine Until.tk (i:=4) (v:=?_) rfl hS (.inl ⟨by rfl,?_⟩) ?_
   rotate_left
   · (intro w hSw;(try dsimp only at hSw);go_simp;try with_reducible rfl)
   simp only[Act.put,setP]
   refine Until.tk (i:=5) (v:=?_) rfl hS (.inl ⟨by rfl,?_⟩) ?_
   rotate_left
   · (intro w hSw;(try dsimp only at hSw);go_simp;try with_reducible rfl)
   simp only[Act.put,setP]
   refine Until.tk (i:=6) (v:=?_) rfl hS (.inl ⟨by rfl,?_⟩) ?_
   rotate_left
   · (intro w hSw;(try dsimp only at hSw);go_simp;try with_reducible rfl)
   simp only[Act.put,setP]
   refine Until.tk (i:=7) (v:=?_) rfl hS (.inl ⟨by rfl,?_⟩) ?_
   rotate_left
   · (intro w hSw;(try dsimp only at hSw);go_simp;try with_reducible rfl)
   simp only[Act.put,setP]
   refine Until.tk (i:=8) (v:=?_) rfl hS (.inl ⟨by rfl,?_⟩) ?_
   rotate_left
   · (intro w hSw;(try dsimp only at hSw);go_simp;try with_reducible rfl)
   simp only[Act.put,setP]
   refine Until.tk (i:=9) (v:=?_) rfl hS (.inl ⟨by rfl,?_⟩) ?_
   rotate_left
   · (intro w hSw;(try dsimp only at hSw);go_simp;try with_reducible rfl)
   simp only[Act.put,setP]
   refine Until.tk (i:=10) (v:=?_) rfl hS (.inl ⟨by rfl,?_⟩) ?_
   rotate_left
   · (intro w hSw;(try dsimp only at hSw);go_simp;try with_reducible rfl)
   simp only[Act.put,setP]
   refine Until.tk (i:=11) (v:=?_) rfl hS (.inl ⟨by rfl,?_⟩) ?_
   rotate_left
   · (intro w hSw;(try dsimp only at hSw);go_simp;try with_reducible rfl)
   simp only[Act.put,setP]
   refine Until.one (c:=12) (by kernel_rfl) rfl (by rfl) (fun K hK=>?_)
   go_simp
   refine(y3 H xx kh hxx _ X13.drew H13.drew).mono ?_
   rintro e w14 ⟨C14,k14,rfl,hk14,hC14,hb14⟩
   have b14:Below w13.heap.size w13 w14:=(Below.refl w13.heap.size w13).drew.trans hb14
   dsimp only
   replace hS:w14.cell? ⟨ga,0,none⟩=some (.bool false)∧w14.cell? ⟨ga,1,none⟩=some (.slice X (limbs r).length xx):=⟨cell_keep b14 a03,cell_keep b14 a13⟩
   refine hK.out _ _ (.inr hS) ?_
   clear hK K
   refine Until.one (c:=13) (by kernel_rfl) rfl (by rfl) (fun K hK=>?_)
   go_simp
   refine(big_copied C14 (limbs N) _ k14 rfl _ hC14.rd).mono ?_
   rintro e w15 ⟨g15,rfl,hg15,hrow15,hb15⟩
   have b15':Below w13.heap.size w13 w15:=b14.trans (hb15.mono b14.size)
   dsimp only
   replace hS:w15.cell? ⟨ga,0,none⟩=some (.bool false)∧w15.cell? ⟨ga,1,none⟩=some (.slice X (limbs r).length xx):=⟨cell_keep b15' a03,cell_keep b15' a13⟩
   refine hK.out _ _ (.inr hS) ?_
   clear hK K
   refine Until.one (c:=14) (by kernel_rfl) rfl (by rfl) (fun K hK=>?_)
   go_simp
   obtain⟨D0,hz15⟩:=z13.below b15'
   refine(int_set z _ [D0] (by decide) false (some ⟨g15,0,none⟩) (limbs N) _ _ rfl nrf _ hz15 (by have:=hrow15.own (sm_limbs N) hC14.rd.len (Nat.zero_le _) (limbs N).length nrf nrf;rw[List.take_length] at this;exact this)).mono ?_
   rintro e w16 ⟨rfl,hh16,hoZ⟩
   rw[val_limbs,nofalse] at hoZ
   dsimp only
   refine hK.out _ _ (.inl (by kernel_rfl)) ?_
   clear hK K
   refine Until.done (by kernel_rfl) ?_ _
   obtain⟨xz,yz,kz⟩:=id hz15
   have P16:=own_hole (P13.below b15' nrf) kz (by decide) hh16
   have Q16:=own_hole (Q13.below b15' nrf) kz (by decide) hh16
   have G16:=own_hole (G13.below b15' nrf) kz (by decide) hh16
   have H16:=own_hole (H13.below b15' nrf) kz (by decide) hh16
   have B15:Below w.heap.size w w15:=B13.trans (b15'.mono B13.size)
   clear P13 Q13 G13 H13 z13 a03 a13 X13 B13 hC14 hb14 hb15 b14 b15' hrow15
   go_wp2_with fail
   refine(y2 P G kp kg hkp _ P16 G16).mono ?_
   rintro e w17 ⟨C17,k17,rfl,hk17,hC17,hb17⟩
   go_wp2_with fail
   refine(y4 H kq kh hkq _ (Q16.below hb17 nrf) (H16.below hb17 nrf)).mono ?_
   rintro e w18 ⟨C18,k18,rfl,hk18,hC18,hb18⟩
   have b18':=hb17.trans (hb18.mono hb17.size)
   go_wp2_with fail
   refine(m4 C17 C18 k17 k18 _ (hC17.below hb18 nrf).rd hC18.rd).mono ?_
   rintro e w19 ⟨C19,k19,rfl,hk19,hC19,hb19⟩
   have b19:=b18'.trans (hb19.mono b18'.size)
   have hoZ9:=hoZ.below b19
   obtain⟨A6,c6,hb6',hc6,ho6⟩:=id hoZ9
   have e2:=hb6'.cell 2
   have f2:=hb6'.frozen 2
   simp at e2
   clear P16 Q16 G16 H16 hC17 hC18
   go_wp2
   go_ret
   exact⟨rfl,((hole_of B15 hh16).then_ b19).setCell rfl _,rt_set2 hoZ9 hk19 (hC19.mono (Nat.zero_le _)) (.inr ⟨rfl,hM0⟩)⟩
end Bg
end Go.Proofs.YtenekbfnlbipiaaGreatDoor
