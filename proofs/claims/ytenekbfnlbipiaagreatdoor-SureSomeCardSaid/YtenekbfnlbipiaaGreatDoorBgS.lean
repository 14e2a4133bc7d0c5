/- Walks of numeralbig: fractions, their products. -/
import Derived.Test.YtenekbfnlbipiaaGreatDoorBgO
namespace Go.Proofs.YtenekbfnlbipiaaGreatDoor
open Go.RowKit
set_option linter.unusedVariables false
set_option linter.unusedSimpArgs false
set_option maxHeartbeats 4000000
set_option maxRecDepth 100000
namespace Bg
def mulN (u1 v1 u2 v2:Nat):Nat:=u1/Nat.gcd u1 v2*(u2/Nat.gcd u2 v1)
def mulD (u1 v1 u2 v2:Nat):Nat:=v1/Nat.gcd u2 v1*(v2/Nat.gcd u1 v2)
theorem gcd_ne {u v:Nat} (hu:u≠0):Nat.gcd u v≠0:=by intro h;exact hu (Nat.eq_zero_of_gcd_eq_zero_left h)
theorem short_div {u g:Nat} (h:(limbs u).length<40):(limbs (u/g)).length<40:=Nat.lt_of_le_of_lt (limbs_div_le u g) h
theorem rat_times (z:Nat) (A B C D:Option Addr) (u1 v1 u2 v2 a b c d:Nat) (h1:u1≠0) (h2:u2≠0) (h3:v1≠0) (h4:v2≠0)
 (hp1:u1=2^tz u1∨v2=2^tz v2) (hp2:u2=2^tz u2∨v1=2^tz v1)
 (l1:(limbs u1).length≤5000) (l2:(limbs u2).length≤5000) (l3:(limbs v1).length≤5000) (l4:(limbs v2).length≤5000)
 (s1:(limbs u1).length<40∨(limbs u2).length<40) (s2:(limbs v1).length<40∨(limbs v2).length<40)
 (k1:(limbs u1).length≤a) (k2:(limbs v1).length≤b) (k3:(limbs u2).length≤c) (k4:(limbs v2).length≤d)
 (w:World) (hT:Tz w) (hz:RAt w z) (hA:Own w 153 0 A a (limbs u1)) (hB:Own w 153 0 B b (limbs v1)) (hC:Own w 153 0 C c (limbs u2)) (hD:Own w 153 0 D d (limbs v2)):
 Calls Tryz.prog 96 #[.pointer (some ⟨z,0,none⟩),.bool false,.slice A (limbs u1).length a,.slice B (limbs v1).length b,.slice C (limbs u2).length c,.slice D (limbs v2).length d] w (RSets w z (mulN u1 v1 u2 v2) (mulD u1 v1 u2 v2)):=by
 have hG:=big_common A D u1 v2 a d h1 h4 hp1 (by omega) (by omega)
 have hH:=big_common C B u2 v1 c b h2 h3 hp2 (by omega) (by omega)
 have g0:Nat.gcd u1 v2≠0:=gcd_ne h1
 have g1:Nat.gcd u2 v1≠0:=gcd_ne h2
 have n3:=div_ne h3 (Nat.gcd_dvd_right u2 v1)
 have n4:=div_ne h4 (Nat.gcd_dvd_right u1 v2)
 have e1:(((limbs u1).length:Int)==0)=false:=by have:=limbs_pos h1;rw[beq_eq_false_iff_ne];omega
 have e2:(((limbs u2).length:Int)==0)=false:=by have:=limbs_pos h2;rw[beq_eq_false_iff_ne];omega
 unfold mulN mulD
 obtain⟨g,hg⟩:∃g,g=Nat.gcd u1 v2:=⟨_,rfl⟩
 obtain⟨h,hh⟩:∃h,h=Nat.gcd u2 v1:=⟨_,rfl⟩
 rw[←hg] at hG g0 n4 ⊢
 rw[←hh] at hH g1 n3 ⊢
 clear hg hh hp1 hp2
 have y1:=fun G k=>big_by A G u1 g a k g0 k1 (by omega)
 have y2:=fun G k=>big_by C G u2 h c k g1 k3 (by omega)
 have y3:=fun G k=>big_by B G v1 h b k g1 k2 (by omega)
 have y4:=fun G k=>big_by D G v2 g d k g0 k4 (by omega)
 have q1:=limbs_div_le u1 g
 have q2:=limbs_div_le u2 h
 have q3:=limbs_div_le v1 h
 have q4:=limbs_div_le v2 g
 have m1:=fun X Y x y=>big_mul X Y (limbs (u1/g)) (limbs (u2/h)) _ _ x y rfl rfl (by omega) (s1.imp short_div short_div)
 have m2:=fun X Y x y=>big_mul X Y (limbs (v1/h)) (limbs (v2/g)) _ _ x y rfl rfl (by omega) (s2.imp short_div short_div)
 simp only[val_limbs] at m1 m2
 have nm:v1/h*(v2/g)≠0:=Nat.mul_ne_zero n3 n4
 clear s1 s2 q1 q2 q3 q4 l1 l2 l3 l4
 obtain⟨U1,hU1⟩:∃x,x=u1/g:=⟨_,rfl⟩
 obtain⟨U2,hU2⟩:∃x,x=u2/h:=⟨_,rfl⟩
 obtain⟨V1,hV1⟩:∃x,x=v1/h:=⟨_,rfl⟩
 obtain⟨V2,hV2⟩:∃x,x=v2/g:=⟨_,rfl⟩
 rw[←hU1] at y1 m1 ⊢
 rw[←hU2] at y2 m1 ⊢
 rw[←hV1] at y3 m2 nm ⊢
 rw[←hV2] at y4 m2 nm ⊢
 obtain⟨N,hN⟩:∃x,x=U1*U2:=⟨_,rfl⟩
 obtain⟨M,hM⟩:∃x,x=V1*V2:=⟨_,rfl⟩
 rw[←hN] at m1 ⊢
 rw[←hM] at m2 nm ⊢
 clear hU1 hU2 hV1 hV2 hN hM h1 h2 h3 h4 n3 n4 g0 g1
 obtain⟨D0,hz⟩:=hz
 go_enter Tryz.func96,Tryz.ntmps96
 go_wp2_with fail
 refine(hG _ hA.rd hD.rd hT).mono ?_
 rintro e w1 ⟨G,k,rfl,hk,hGo,hb1⟩
 go_wp2_with fail
 refine(hH _ (hC.below hb1 nrf).rd (hB.below hb1 nrf).rd (hT.below hb1)).mono ?_
 rintro e w2 ⟨H,kh,rfl,hkh,hHo,hb2⟩
 have b2:=hb1.trans (hb2.mono hb1.size)
 have G2:=(hGo.mono (Nat.zero_le _)).below hb2 nrf
 have H2:=hHo.mono (Nat.zero_le _)
 go_wp2_with fail
 refine(y1 G k _ (hA.below b2 nrf) G2).mono ?_
 rintro e w3 ⟨X1,x1,rfl,hx1,hX1,hb3⟩
 have b3:=b2.trans (hb3.mono b2.size)
 have H3:=H2.below hb3 nrf
 have G3:=G2.below hb3 nrf
 go_wp2_with fail
 refine(y2 H kh _ (hC.below b3 nrf) H3).mono ?_
 rintro e w4 ⟨X2,x2,rfl,hx2,hX2,hb4⟩
 have b4:=b3.trans (hb4.mono b3.size)
 have H4:=H3.below hb4 nrf
 have G4:=G3.below hb4 nrf
 go_wp2_with fail
 refine(m1 X1 X2 x1 x2 _ (hX1.below hb4 nrf).rd hX2.rd).mono ?_
 rintro e w5 ⟨P,p,rfl,hp,hP,hb5⟩
 have b5:=b4.trans (hb5.mono b4.size)
 have H5:=H4.below hb5 nrf
 have G5:=G4.below hb5 nrf
 go_wp2_with fail
 refine(y3 H kh _ (hB.below b5 nrf) H5).mono ?_
 rintro e w6 ⟨X3,x3,rfl,hx3,hX3,hb6⟩
 have b6:=b5.trans (hb6.mono b5.size)
 have G6:=G5.below hb6 nrf
 go_wp2_with fail
 refine(y4 G k _ (hD.below b6 nrf) G6).mono ?_
 rintro e w7 ⟨X4,x4,rfl,hx4,hX4,hb7⟩
 have b7:=b6.trans (hb7.mono b6.size)
 go_wp2_with fail
 refine(m2 X3 X4 x3 x4 _ (hX3.below hb7 nrf).rd hX4.rd).mono ?_
 rintro e w8 ⟨O,o,rfl,ho,hO,hb8⟩
 have b8:=b7.trans (hb8.mono b7.size)
 have b58:=hb6.trans ((hb7.mono hb6.size).trans (hb8.mono (Nat.le_trans hb6.size hb7.size)))
 have P8:=(hP.mono (Nat.zero_le _)).below b58 nrf
 have O8:=hO.mono (Nat.zero_le _)
 have hz8:=at_of_below hz b8
 go_wp2_with fail
 refine(int_set z _ [D0] (by decide) false P (limbs N) _ p rfl hp _ hz8 P8).mono ?_
 rintro e w9 ⟨rfl,hh9,hob9⟩
 rw[val_limbs,nofalse] at hob9
 obtain⟨xx,yy,hz9⟩:=id hz8
 have O9:=own_hole O8 hz9 (by decide) hh9
 obtain⟨A6,c6,hb6',hc6,ho6⟩:=id hob9
 have c2:=hb6'.cell 2
 have f2:=hb6'.frozen 2
 simp at c2
 clear hA hB hC hD G2 H2 H3 G3 H4 G4 H5 G5 G6 hX1 hX2 hX3 hX4 hP hO P8 O8 hGo hHo
 go_wp2
 go_ret
 exact⟨rfl,(hole_of b8 hh9).setCell rfl _,rt_set2 hob9 ho O9 (.inr ⟨rfl,nm⟩)⟩
theorem rat_times0 (z:Nat) (A B C D:Option Addr) (u1 v1 u2 v2 a b c d:Nat) (h:u1=0∨u2=0) (w:World) (hz:RAt w z):
 Calls Tryz.prog 96 #[.pointer (some ⟨z,0,none⟩),.bool false,.slice A (limbs u1).length a,.slice B (limbs v1).length b,.slice C (limbs u2).length c,.slice D (limbs v2).length d] w (RSets w z 0 1):=by
 have hal:Below w.heap.size w (w.alloc (.cells #[.int .u32 1] 153)):=(Below.refl _ _).alloc nrf _
 have hrow:Row (w.alloc (.cells #[.int .u32 1] 153)) 153 w.heap.size [1]:=row_new (l:=[1]) rfl rfl
 have hsm:Sm [1]:=by intro x hx;simp at hx;omega
 have hown:=hrow.own hsm (by simp) (Nat.zero_le _) 1 nrf nrf
 by_cases h1:u1=0
 · have e1:(((limbs u1).length:Int)==0)=true:=by rw[h1];rfl
   clear h1 h
   go_enter Tryz.func96,Tryz.ntmps96
   go_wp2_with fail
   refine(rat_set0 z (some ⟨w.heap.size,0,none⟩) [1] 1 nrf _ (hz.below hal) hown).mono ?_
   rintro e w2 ⟨rfl,hh,hr⟩
   go_wp2
   go_ret
   exact⟨rfl,hole_of hal hh,hr⟩
 · have e1:(((limbs u1).length:Int)==0)=false:=by have:=limbs_pos h1;rw[beq_eq_false_iff_ne];omega
   have e2:(((limbs u2).length:Int)==0)=true:=by rw[h.resolve_left h1];rfl
   clear h1 h
   go_enter Tryz.func96,Tryz.ntmps96
   go_wp2_with fail
   refine(rat_set0 z (some ⟨w.heap.size,0,none⟩) [1] 1 nrf _ (hz.below hal) hown).mono ?_
   rintro e w2 ⟨rfl,hh,hr⟩
   go_wp2
   go_ret
   exact⟨rfl,hole_of hal hh,hr⟩
end Bg
namespace Bg
def prodN (u1 v1 u2 v2:Nat):Nat:=if u1=0∨u2=0 then 0 else mulN u1 v1 u2 v2
def prodD (u1 v1 u2 v2:Nat):Nat:=if u1=0∨u2=0 then 1 else mulD u1 v1 u2 v2
structure Fit (u1 v1 u2 v2:Nat):Prop where
 n1:v1≠0
 n2:v2≠0
 p1:u1=2^tz u1∨v2=2^tz v2
 p2:u2=2^tz u2∨v1=2^tz v1
 l1:(limbs u1).length≤5000
 l2:(limbs u2).length≤5000
 l3:(limbs v1).length≤5000
 l4:(limbs v2).length≤5000
 s1:(limbs u1).length<40∨(limbs u2).length<40
 s2:(limbs v1).length<40∨(limbs v2).length<40
theorem rat_times_any (z:Nat) (A B C D:Option Addr) (u1 v1 u2 v2 a b c d:Nat) (F:Fit u1 v1 u2 v2)
 (k1:(limbs u1).length≤a) (k2:(limbs v1).length≤b) (k3:(limbs u2).length≤c) (k4:(limbs v2).length≤d)
 (w:World) (hT:Tz w) (hz:RAt w z) (hA:Own w 153 0 A a (limbs u1)) (hB:Own w 153 0 B b (limbs v1)) (hC:Own w 153 0 C c (limbs u2)) (hD:Own w 153 0 D d (limbs v2)):
 Calls Tryz.prog 96 #[.pointer (some ⟨z,0,none⟩),.bool false,.slice A (limbs u1).length a,.slice B (limbs v1).length b,.slice C (limbs u2).length c,.slice D (limbs v2).length d] w (RSets w z (prodN u1 v1 u2 v2) (prodD u1 v1 u2 v2)):=by
 unfold prodN prodD
 by_cases h:u1=0∨u2=0
 · rw[if_pos h,if_pos h]
   exact rat_times0 z A B C D u1 v1 u2 v2 a b c d h w hz
 · rw[if_neg h,if_neg h]
   exact rat_times z A B C D u1 v1 u2 v2 a b c d (fun e=>h (.inl e)) (fun e=>h (.inr e)) F.n1 F.n2 F.p1 F.p2 F.l1 F.l2 F.l3 F.l4 F.s1 F.s2 k1 k2 k3 k4 w hT hz hA hB hC hD
theorem rat_Mul (z x y:Nat) (u1 v1 u2 v2:Nat) (F:Fit u1 v1 u2 v2) (w:World) (hT:Tz w) (hz:RAt w z) (hx:Rt w x u1 v1) (hy:Rt w y u2 v2):
 Calls Tryz.prog 47 #[.pointer (some ⟨z,0,none⟩),.pointer (some ⟨x,0,none⟩),.pointer (some ⟨y,0,none⟩)] w (RSets w z (prodN u1 v1 u2 v2) (prodD u1 v1 u2 v2)):=by
 obtain⟨A,a,A',a',l,c0,c1,c2,hc,ho,_,_,_⟩:=hx.cells
 obtain⟨B,b,B',b',m,b0,b1,b2,hb,hp,_,_,_⟩:=hy.cells
 have hTm:=fun C d k D d' k'=>rat_times_any z A C B D u1 v1 u2 v2 a d b d' F hc k hb k'
 obtain⟨N,hN⟩:∃N,N=prodN u1 v1 u2 v2:=⟨_,rfl⟩
 obtain⟨M,hM⟩:∃M,M=prodD u1 v1 u2 v2:=⟨_,rfl⟩
 rw[←hN, ←hM] at hTm ⊢
 clear hN hM F
 go_enter Tryz.func47,Tryz.ntmps47
 go_wp2_with fail
 refine region_until 26 (fun w'=>w'.cell? ⟨x,0,none⟩=some (.bool false)∧w'.cell? ⟨x,1,none⟩=some (.slice A (limbs u1).length a)∧w'.cell? ⟨y,0,none⟩=some (.bool false)∧w'.cell? ⟨y,1,none⟩=some (.slice B (limbs u2).length b)) (by kernel_rfl) ?_
 have hS:w.drew.cell? ⟨x,0,none⟩=some (.bool false)∧w.drew.cell? ⟨x,1,none⟩=some (.slice A (limbs u1).length a)∧w.drew.cell? ⟨y,0,none⟩=some (.bool false)∧w.drew.cell? ⟨y,1,none⟩=some (.slice B (limbs u2).length b):=⟨c0,c1,b0,b1⟩
 refine Until.tk (i:=0) (v:=?_) rfl hS (.inl ⟨by rfl,?_⟩) ?_
 rotate_left
 · (intro w hSw;(try dsimp only at hSw);go_simp;try with_reducible rfl)
 simp only[Act.put,setP]
 refine Until.tk (i:=1) (v:=?_) rfl hS (.inl ⟨by rfl,?_⟩) ?_
 rotate_left
 · (intro w hSw;(try dsimp only at hSw);go_simp;try with_reducible rfl)
 simp only[Act.put,setP]
 refine Until.tk (i:=2) (v:=?_) rfl hS (.inl ⟨by rfl,?_⟩) ?_
 rotate_left
 · (intro w hSw;(try dsimp only at hSw);go_simp;try with_reducible rfl)
 simp only[Act.put,setP]
 refine Until.tk (i:=3) (v:=?_) rfl hS (.inl ⟨by rfl,?_⟩) ?_
 rotate_left
 · (intro w hSw;(try dsimp only at hSw);go_simp;try with_reducible rfl)
 simp only[Act.put,setP]
 refine Until.tk (i:=4) (v:=?_) rfl hS (.inl ⟨by rfl,?_⟩) ?_
 rotate_left
 · (intro w hSw;(try dsimp only at hSw);go_simp;try with_reducible rfl)
 simp only[Act.put,setP]
 refine Until.tk (i:=5) (v:=?_) rfl hS (.inl ⟨by rfl,?_⟩) ?_
 rotate_left
 · (intro w hSw;(try dsimp only at hSw);go_simp;try with_reducible rfl)
 simp only[Act.put,setP]
 refine Until.tk (i:=6) (v:=?_) rfl hS (.inl ⟨by rfl,?_⟩) ?_
 rotate_left
 · (intro w hSw;(try dsimp only at hSw);go_simp;try with_reducible rfl)
 simp only[Act.put,setP]
 refine Until.tk (i:=7) (v:=?_) rfl hS (.inl ⟨by rfl,?_⟩) ?_
 rotate_left
 · (intro w hSw;(try dsimp only at hSw);go_simp;try with_reducible rfl)
 simp only[Act.put,setP]
 refine Until.tk (i:=8) (v:=?_) rfl hS (.inl ⟨by rfl,?_⟩) ?_
 rotate_left
 · (intro w hSw;(try dsimp only at hSw);go_simp;try with_reducible rfl)
 simp only[Act.put,setP]
 refine Until.tk (i:=9) (v:=?_) rfl hS (.inl ⟨by rfl,?_⟩) ?_
 rotate_left
 · (intro w hSw;(try dsimp only at hSw);go_simp;try with_reducible rfl)
 simp only[Act.put,setP]
 refine Until.tk (i:=10) (v:=?_) rfl hS (.inl ⟨by rfl,?_⟩) ?_
 rotate_left
 · (intro w hSw;(try dsimp only at hSw);go_simp;try with_reducible rfl)
 simp only[Act.put,setP]
 refine Until.tk (i:=11) (v:=?_) rfl hS (.inl ⟨by rfl,?_⟩) ?_
 rotate_left
 · (intro w hSw;(try dsimp only at hSw);go_simp;try with_reducible rfl)
 simp only[Act.put,setP]
 refine Until.tk (i:=12) (v:=?_) rfl hS (.inl ⟨by rfl,?_⟩) ?_
 rotate_left
 · (intro w hSw;(try dsimp only at hSw);go_simp;try with_reducible rfl)
 simp only[Act.put,setP]
 refine Until.tk (i:=13) (v:=?_) rfl hS (.inl ⟨by rfl,?_⟩) ?_
 rotate_left
 · (intro w hSw;(try dsimp only at hSw);go_simp;try with_reducible rfl)
 simp only[Act.put,setP]
 refine Until.tk (i:=14) (v:=?_) rfl hS (.inl ⟨by rfl,?_⟩) ?_
 rotate_left
 · (intro w hSw;(try dsimp only at hSw);go_simp;try with_reducible rfl)
 simp only[Act.put,setP]
 refine Until.tk (i:=15) (v:=?_) rfl hS (.inl ⟨by rfl,?_⟩) ?_
 rotate_left
 · (intro w hSw;(try dsimp only at hSw);go_simp;try with_reducible rfl)
 simp only[Act.put,setP]
 refine Until.tk (i:=16) (v:=?_) rfl hS (.inl ⟨by rfl,?_⟩) ?_
 rotate_left
 · (intro w hSw;(try dsimp only at hSw);go_simp;try with_reducible rfl)
 simp only[Act.put,setP]
 refine Until.tk (i:=17) (v:=?_) rfl hS (.inl ⟨by rfl,?_⟩) ?_
 rotate_left
 · (intro w hSw;(try dsimp only at hSw);go_simp;try with_reducible rfl)
 simp only[Act.put,setP]
 refine Until.tk (i:=19) (v:=?_) rfl hS (.inl ⟨by rfl,?_⟩) ?_
 rotate_left
 · (intro w hSw;(try dsimp only at hSw);go_simp;try with_reducible rfl)
 simp only[Act.put,setP]
 refine Until.tk (i:=20) (v:=?_) rfl hS (.inl ⟨by rfl,?_⟩) ?_
 rotate_left
 · (intro w hSw;(try dsimp only at hSw);go_simp;try with_reducible rfl)
 simp only[Act.put,setP]
 refine Until.tk (i:=21) (v:=?_) rfl hS (.inl ⟨by rfl,?_⟩) ?_
 rotate_left
 · (intro w hSw;(try dsimp only at hSw);go_simp;try with_reducible rfl)
 simp only[Act.put,setP]
 refine Until.tk (i:=22) (v:=?_) rfl hS (.inl ⟨by rfl,?_⟩) ?_
 rotate_left
 · (intro w hSw;(try dsimp only at hSw);go_simp;try with_reducible rfl)
 simp only[Act.put,setP]
 refine Until.tk (i:=23) (v:=?_) rfl hS (.inl ⟨by rfl,?_⟩) ?_
 rotate_left
 · (intro w hSw;(try dsimp only at hSw);go_simp;try with_reducible rfl)
 simp only[Act.put,setP]
 refine Until.tk (i:=24) (v:=?_) rfl hS (.inl ⟨by rfl,?_⟩) ?_
 rotate_left
 · (intro w hSw;(try dsimp only at hSw);go_simp;try with_reducible rfl)
 simp only[Act.put,setP]
 refine Until.one (c:=18) (by kernel_rfl) rfl (by rfl) (fun K hK=>?_)
 go_simp
 refine(rat_below x u1 v1 _ hx.drew).mono ?_
 rintro e w1 ⟨C,k,rfl,hk,hC,hb1⟩
 have hb1':Below w.heap.size w w1:=(Below.refl w.heap.size w).drew.trans hb1
 dsimp only
 replace hS:w1.cell? ⟨x,0,none⟩=some (.bool false)∧w1.cell? ⟨x,1,none⟩=some (.slice A (limbs u1).length a)∧w1.cell? ⟨y,0,none⟩=some (.bool false)∧w1.cell? ⟨y,1,none⟩=some (.slice B (limbs u2).length b):=⟨cell_keep hb1' c0,cell_keep hb1' c1,cell_keep hb1' b0,cell_keep hb1' b1⟩
 refine hK.out _ _ (.inr hS) ?_
 clear hK K
 refine Until.one (c:=25) (by kernel_rfl) rfl (by rfl) (fun K hK=>?_)
 go_simp
 refine(rat_below y u2 v2 _ (hy.below hb1')).mono ?_
 rintro e w2 ⟨D,k2,rfl,hk2,hD,hb2⟩
 have hb12:Below w.heap.size w w2:=hb1'.trans (hb2.mono hb1'.size)
 dsimp only
 replace hS:w2.cell? ⟨x,0,none⟩=some (.bool false)∧w2.cell? ⟨x,1,none⟩=some (.slice A (limbs u1).length a)∧w2.cell? ⟨y,0,none⟩=some (.bool false)∧w2.cell? ⟨y,1,none⟩=some (.slice B (limbs u2).length b):=⟨cell_keep hb12 c0,cell_keep hb12 c1,cell_keep hb12 b0,cell_keep hb12 b1⟩
 refine hK.out _ _ (.inr hS) ?_
 clear hK K
 refine Until.one (c:=26) (by kernel_rfl) rfl (by rfl) (fun K hK=>?_)
 go_simp
 refine(hTm C k hk D k2 hk2 _ (hT.below hb12) (hz.below hb12) (ho.below hb12 nrf) (hC.below hb2 nrf) (hp.below hb12 nrf) hD).mono ?_
 rintro e w3 ⟨rfl,hh3,hr3⟩
 dsimp only
 refine hK.out _ _ (.inl (by kernel_rfl)) ?_
 clear hK K
 refine Until.one (c:=27) (by kernel_rfl) rfl (by rfl) (fun K hK=>?_)
 go_simp
 refine hK.out _ _ (.inl (by kernel_rfl)) ?_
 clear hK K
 refine Until.done (by kernel_rfl) ?_ _
 go_wp2
 go_ret
 exact⟨rfl,hole_of hb12 hh3,hr3⟩
theorem rat_Quo (z x y:Nat) (u1 v1 u2 v2:Nat) (F:Fit u1 v1 v2 u2) (w:World) (hT:Tz w) (hz:RAt w z) (hx:Rt w x u1 v1) (hy:Rt w y u2 v2):
 Calls Tryz.prog 155 #[.pointer (some ⟨z,0,none⟩),.pointer (some ⟨x,0,none⟩),.pointer (some ⟨y,0,none⟩)] w (RSets w z (prodN u1 v1 v2 u2) (prodD u1 v1 v2 u2)):=by
 obtain⟨A,a,A',a',l,c0,c1,c2,hc,ho,_,_,_⟩:=hx.cells
 obtain⟨B,b,B',b',m,b0,b1,b2,hb,hp,_,_,_⟩:=hy.cells
 have hTm:=fun C d k D d' k'=>rat_times_any z A C D B u1 v1 v2 u2 a d d' b F hc k k' hb
 obtain⟨N,hN⟩:∃N,N=prodN u1 v1 v2 u2:=⟨_,rfl⟩
 obtain⟨M,hM⟩:∃M,M=prodD u1 v1 v2 u2:=⟨_,rfl⟩
 rw[←hN, ←hM] at hTm ⊢
 clear hN hM F
 go_enter Tryz.func155,Tryz.ntmps155
 go_wp2_with fail
 refine region_until 26 (fun w'=>w'.cell? ⟨x,0,none⟩=some (.bool false)∧w'.cell? ⟨x,1,none⟩=some (.slice A (limbs u1).length a)∧w'.cell? ⟨y,0,none⟩=some (.bool false)∧w'.cell? ⟨y,1,none⟩=some (.slice B (limbs u2).length b)) (by kernel_rfl) ?_
 have hS:w.drew.cell? ⟨x,0,none⟩=some (.bool false)∧w.drew.cell? ⟨x,1,none⟩=some (.slice A (limbs u1).length a)∧w.drew.cell? ⟨y,0,none⟩=some (.bool false)∧w.drew.cell? ⟨y,1,none⟩=some (.slice B (limbs u2).length b):=⟨c0,c1,b0,b1⟩
 refine Until.tk (i:=0) (v:=?_) rfl hS (.inl ⟨by rfl,?_⟩) ?_
 rotate_left
 · (intro w hSw;(try dsimp only at hSw);go_simp;try with_reducible rfl)
 simp only[Act.put,setP]
 refine Until.tk (i:=1) (v:=?_) rfl hS (.inl ⟨by rfl,?_⟩) ?_
 rotate_left
 · (intro w hSw;(try dsimp only at hSw);go_simp;try with_reducible rfl)
 simp only[Act.put,setP]
 refine Until.tk (i:=2) (v:=?_) rfl hS (.inl ⟨by rfl,?_⟩) ?_
 rotate_left
 · (intro w hSw;(try dsimp only at hSw);go_simp;try with_reducible rfl)
 simp only[Act.put,setP]
 refine Until.tk (i:=3) (v:=?_) rfl hS (.inl ⟨by rfl,?_⟩) ?_
 rotate_left
 · (intro w hSw;(try dsimp only at hSw);go_simp;try with_reducible rfl)
 simp only[Act.put,setP]
 refine Until.tk (i:=4) (v:=?_) rfl hS (.inl ⟨by rfl,?_⟩) ?_
 rotate_left
 · (intro w hSw;(try dsimp only at hSw);go_simp;try with_reducible rfl)
 simp only[Act.put,setP]
 refine Until.tk (i:=5) (v:=?_) rfl hS (.inl ⟨by rfl,?_⟩) ?_
 rotate_left
 · (intro w hSw;(try dsimp only at hSw);go_simp;try with_reducible rfl)
 simp only[Act.put,setP]
 refine Until.tk (i:=6) (v:=?_) rfl hS (.inl ⟨by rfl,?_⟩) ?_
 rotate_left
 · (intro w hSw;(try dsimp only at hSw);go_simp;try with_reducible rfl)
 simp only[Act.put,setP]
 refine Until.tk (i:=7) (v:=?_) rfl hS (.inl ⟨by rfl,?_⟩) ?_
 rotate_left
 · (intro w hSw;(try dsimp only at hSw);go_simp;try with_reducible rfl)
 simp only[Act.put,setP]
 refine Until.tk (i:=8) (v:=?_) rfl hS (.inl ⟨by rfl,?_⟩) ?_
 rotate_left
 · (intro w hSw;(try dsimp only at hSw);go_simp;try with_reducible rfl)
 simp only[Act.put,setP]
 refine Until.tk (i:=9) (v:=?_) rfl hS (.inl ⟨by rfl,?_⟩) ?_
 rotate_left
 · (intro w hSw;(try dsimp only at hSw);go_simp;try with_reducible rfl)
 simp only[Act.put,setP]
 refine Until.tk (i:=10) (v:=?_) rfl hS (.inl ⟨by rfl,?_⟩) ?_
 rotate_left
 · (intro w hSw;(try dsimp only at hSw);go_simp;try with_reducible rfl)
 simp only[Act.put,setP]
 refine Until.tk (i:=11) (v:=?_) rfl hS (.inl ⟨by rfl,?_⟩) ?_
 rotate_left
 · (intro w hSw;(try dsimp only at hSw);go_simp;try with_reducible rfl)
 simp only[Act.put,setP]
 refine Until.tk (i:=12) (v:=?_) rfl hS (.inl ⟨by rfl,?_⟩) ?_
 rotate_left
 · (intro w hSw;(try dsimp only at hSw);go_simp;try with_reducible rfl)
 simp only[Act.put,setP]
 refine Until.tk (i:=13) (v:=?_) rfl hS (.inl ⟨by rfl,?_⟩) ?_
 rotate_left
 · (intro w hSw;(try dsimp only at hSw);go_simp;try with_reducible rfl)
 simp only[Act.put,setP]
 refine Until.tk (i:=14) (v:=?_) rfl hS (.inl ⟨by rfl,?_⟩) ?_
 rotate_left
 · (intro w hSw;(try dsimp only at hSw);go_simp;try with_reducible rfl)
 simp only[Act.put,setP]
 refine Until.tk (i:=15) (v:=?_) rfl hS (.inl ⟨by rfl,?_⟩) ?_
 rotate_left
 · (intro w hSw;(try dsimp only at hSw);go_simp;try with_reducible rfl)
 simp only[Act.put,setP]
 refine Until.tk (i:=16) (v:=?_) rfl hS (.inl ⟨by rfl,?_⟩) ?_
 rotate_left
 · (intro w hSw;(try dsimp only at hSw);go_simp;try with_reducible rfl)
 simp only[Act.put,setP]
 refine Until.tk (i:=17) (v:=?_) rfl hS (.inl ⟨by rfl,?_⟩) ?_
 rotate_left
 · (intro w hSw;(try dsimp only at hSw);go_simp;try with_reducible rfl)
 simp only[Act.put,setP]
 refine Until.tk (i:=19) (v:=?_) rfl hS (.inl ⟨by rfl,?_⟩) ?_
 rotate_left
 · (intro w hSw;(try dsimp only at hSw);go_simp;try with_reducible rfl)
 simp only[Act.put,setP]
 refine Until.tk (i:=21) (v:=?_) rfl hS (.inl ⟨by rfl,?_⟩) ?_
 rotate_left
 · (intro w hSw;(try dsimp only at hSw);go_simp;try with_reducible rfl)
 simp only[Act.put,setP]
 refine Until.tk (i:=22) (v:=?_) rfl hS (.inl ⟨by rfl,?_⟩) ?_
 rotate_left
 · (intro w hSw;(try dsimp only at hSw);go_simp;try with_reducible rfl)
 simp only[Act.put,setP]
 refine Until.tk (i:=23) (v:=?_) rfl hS (.inl ⟨by rfl,?_⟩) ?_
 rotate_left
 · (intro w hSw;(try dsimp only at hSw);go_simp;try with_reducible rfl)
 simp only[Act.put,setP]
 refine Until.tk (i:=24) (v:=?_) rfl hS (.inl ⟨by rfl,?_⟩) ?_
 rotate_left
 · (intro w hSw;(try dsimp only at hSw);go_simp;try with_reducible rfl)
 simp only[Act.put,setP]
 refine Until.tk (i:=25) (v:=?_) rfl hS (.inl ⟨by rfl,?_⟩) ?_
 rotate_left
 · (intro w hSw;(try dsimp only at hSw);go_simp;try with_reducible rfl)
 simp only[Act.put,setP]
 refine Until.one (c:=18) (by kernel_rfl) rfl (by rfl) (fun K hK=>?_)
 go_simp
 refine(rat_below x u1 v1 _ hx.drew).mono ?_
 rintro e w1 ⟨C,k,rfl,hk,hC,hb1⟩
 have hb1':Below w.heap.size w w1:=(Below.refl w.heap.size w).drew.trans hb1
 dsimp only
 replace hS:w1.cell? ⟨x,0,none⟩=some (.bool false)∧w1.cell? ⟨x,1,none⟩=some (.slice A (limbs u1).length a)∧w1.cell? ⟨y,0,none⟩=some (.bool false)∧w1.cell? ⟨y,1,none⟩=some (.slice B (limbs u2).length b):=⟨cell_keep hb1' c0,cell_keep hb1' c1,cell_keep hb1' b0,cell_keep hb1' b1⟩
 refine hK.out _ _ (.inr hS) ?_
 clear hK K
 refine Until.one (c:=20) (by kernel_rfl) rfl (by rfl) (fun K hK=>?_)
 go_simp
 refine(rat_below y u2 v2 _ (hy.below hb1')).mono ?_
 rintro e w2 ⟨D,k2,rfl,hk2,hD,hb2⟩
 have hb12:Below w.heap.size w w2:=hb1'.trans (hb2.mono hb1'.size)
 dsimp only
 replace hS:w2.cell? ⟨x,0,none⟩=some (.bool false)∧w2.cell? ⟨x,1,none⟩=some (.slice A (limbs u1).length a)∧w2.cell? ⟨y,0,none⟩=some (.bool false)∧w2.cell? ⟨y,1,none⟩=some (.slice B (limbs u2).length b):=⟨cell_keep hb12 c0,cell_keep hb12 c1,cell_keep hb12 b0,cell_keep hb12 b1⟩
 refine hK.out _ _ (.inr hS) ?_
 clear hK K
 refine Until.one (c:=26) (by kernel_rfl) rfl (by rfl) (fun K hK=>?_)
 go_simp
 refine(hTm C k hk D k2 hk2 _ (hT.below hb12) (hz.below hb12) (ho.below hb12 nrf) (hC.below hb2 nrf) hD (hp.below hb12 nrf)).mono ?_
 rintro e w3 ⟨rfl,hh3,hr3⟩
 dsimp only
 refine hK.out _ _ (.inl (by kernel_rfl)) ?_
 clear hK K
 refine Until.one (c:=27) (by kernel_rfl) rfl (by rfl) (fun K hK=>?_)
 go_simp
 refine hK.out _ _ (.inl (by kernel_rfl)) ?_
 clear hK K
 refine Until.done (by kernel_rfl) ?_ _
 go_wp2
 go_ret
 exact⟨rfl,hole_of hb12 hh3,hr3⟩
theorem rat_SetInt (z x:Nat) (TX:TypeId) (restx:List Value) (v:Nat) (w:World) (hz:RAt w z) (hx:Ob w x TX false v restx):
 Calls Tryz.prog 45 #[.pointer (some ⟨z,0,none⟩),.pointer (some ⟨x,0,none⟩)] w (RSets w z v 1):=by
 obtain⟨D0,hz⟩:=hz
 go_enter Tryz.func45,Tryz.ntmps45
 go_wp2_with fail
 refine(int_Set z x _ TX [D0] restx (by decide) v _ hz hx).mono ?_
 rintro e w1 ⟨rfl,hh,hob⟩
 obtain⟨A6,c6,hb6',hc6,ho6⟩:=id hob
 have c2:=hb6'.cell 2
 have f2:=hb6'.frozen 2
 simp at c2
 go_wp2
 go_ret
 exact⟨rfl,hh.setCell rfl _,rt_set2 (l:=[]) hob nrf (Own.nil _ _ _) (.inl ⟨rfl,rfl⟩)⟩
theorem Rt.ob {w:World} {z n d:Nat} (h:Rt w z n d):∃v,Ob w z 97 false n [v]:=by
 obtain⟨D,e,l,ho,_⟩:=h;exact⟨_,ho⟩
theorem rat_Num (x n d:Nat) (w:World) (hx:Rt w x n d):
 Calls Tryz.prog 112 #[.pointer (some ⟨x,0,none⟩)] w (Makes w 95 [] false n):=by
 obtain⟨v,hob⟩:=hx.ob
 have hal:Below w.heap.size w (w.alloc (.cells #[.bool false,.slice none 0 0] 95)):=(Below.refl _ _).alloc nrf _
 have hat:At (w.alloc (.cells #[.bool false,.slice none 0 0] 95)) w.heap.size 95 []:=⟨_,_,Blk.new w _ _⟩
 go_enter Tryz.func112,Tryz.ntmps112
 go_wp2_with fail
 refine(int_Set w.heap.size x _ _ [] _ (by decide) n _ hat (hob.below hal)).mono ?_
 rintro e w1 ⟨rfl,hh,hob1⟩
 go_wp2
 go_ret
 exact⟨_,rfl,Nat.le_refl _,hob1,hole_fresh hal hh nrf⟩
theorem rat_Denom (x n d:Nat) (w:World) (hx:Rt w x n d):
 Calls Tryz.prog 113 #[.pointer (some ⟨x,0,none⟩)] w (Makes w 95 [] false d):=by
 have hal:Below w.heap.size w (w.alloc (.cells #[.bool false,.slice none 0 0] 95)):=(Below.refl _ _).alloc nrf _
 have hat:At (w.alloc (.cells #[.bool false,.slice none 0 0] 95)) w.heap.size 95 []:=⟨_,_,Blk.new w _ _⟩
 go_enter Tryz.func113,Tryz.ntmps113
 go_wp2_with fail
 refine(rat_below x n d _ (hx.below hal)).mono ?_
 rintro e w1 ⟨C,k,rfl,hk,hC,hb1⟩
 have hb11:=hal.trans (hb1.mono hal.size)
 go_wp2_with fail
 refine(big_copied C (limbs d) _ k rfl _ hC.rd).mono ?_
 rintro e w2 ⟨g,rfl,hg,hrow,hb2⟩
 have hb12:=hb11.trans (hb2.mono hb11.size)
 have hat2:=at_of_below (at_of_below hat hb1) hb2
 go_wp2_with fail
 refine(int_set w.heap.size _ [] (by decide) false (some ⟨g,0,none⟩) (limbs d) _ _ rfl nrf _ hat2 (by have:=hrow.own (sm_limbs d) hC.rd.len (Nat.zero_le _) (limbs d).length nrf nrf;rw[List.take_length] at this;exact this)).mono ?_
 rintro e w3 ⟨rfl,hh,hob⟩
 rw[val_limbs,nofalse] at hob
 go_wp2
 go_ret
 exact⟨_,rfl,Nat.le_refl _,hob,hole_fresh hb12 hh nrf⟩
theorem rat_Sign (x n d:Nat) (w:World) (hx:Rt w x n d):
 Calls Tryz.prog 102 #[.pointer (some ⟨x,0,none⟩)] w fun e w'=>e=.returned (.int .i64 (if n=0 then 0 else 1))∧w=w':=by
 obtain⟨v,hob⟩:=hx.ob
 have hS:=int_Sign x _ _ n w hob
 obtain⟨s,hs⟩:∃s:Int,s=if n=0 then 0 else 1:=⟨_,rfl⟩
 rw[←hs] at hS ⊢
 clear hs
 go_enter Tryz.func102,Tryz.ntmps102
 go_wp2_with fail
 refine hS.mono ?_
 rintro e w1 ⟨rfl,rfl⟩
 go_wp2
 go_ret
 exact⟨rfl,rfl⟩
theorem rat_Inv (z x n d:Nat) (hn:n≠0) (w:World) (hz:RAt w z) (hx:Rt w x n d):
 Calls Tryz.prog 99 #[.pointer (some ⟨z,0,none⟩),.pointer (some ⟨x,0,none⟩)] w (RSets w z d n):=by
 obtain⟨A,a,A',a',l,c0,c1,c2,hc,ho,_,_,_⟩:=hx.cells
 obtain⟨D0,hz⟩:=hz
 go_enter Tryz.func99,Tryz.ntmps99
 go_wp2_with fail
 refine(rat_below x n d _ hx).mono ?_
 rintro e w1 ⟨C,k,rfl,hk,hC,hb1⟩
 have d1:=cell_keep hb1 c1
 go_wp2_with fail
 refine(big_copied C (limbs d) _ k rfl _ hC.rd).mono ?_
 rintro e w2 ⟨g,rfl,hg,hrow,hb2⟩
 have hb12:=hb1.trans (hb2.mono hb1.size)
 have d2:=cell_keep hb12 c1
 clear d1
 go_wp2_with fail
 refine(big_copied A (limbs n) _ a rfl _ (ho.below hb12 nrf).rd).mono ?_
 rintro e w3 ⟨g2,rfl,hg2,hrow2,hb3⟩
 have hb13:=hb12.trans (hb3.mono hb12.size)
 have hrow1:=hrow.below hb3 hrow.lt
 have hz3:=at_of_below hz hb13
 have o1:Own w3 153 0 (some ⟨g,0,none⟩) (limbs d).length (limbs d):=by have:=hrow1.own (sm_limbs d) hC.rd.len (Nat.zero_le _) (limbs d).length nrf nrf;rw[List.take_length] at this;exact this
 have o2:Own w3 153 0 (some ⟨g2,0,none⟩) (limbs n).length (limbs n):=by have:=hrow2.own (sm_limbs n) ho.rd.len (Nat.zero_le _) (limbs n).length nrf nrf;rw[List.take_length] at this;exact this
 clear d2
 go_wp2_with fail
 refine(int_set z _ [D0] (by decide) false (some ⟨g,0,none⟩) (limbs d) _ _ rfl nrf _ hz3 o1).mono ?_
 rintro e w4 ⟨rfl,hh,hob⟩
 rw[val_limbs,nofalse] at hob
 obtain⟨x5,y5,hz5⟩:=id hz3
 have o3:=own_hole o2 hz5 (by decide) hh
 obtain⟨A6,c6,hb6',hc6,ho6⟩:=id hob
 have e2:=hb6'.cell 2
 have f2:=hb6'.frozen 2
 simp at e2
 go_wp2
 go_ret
 exact⟨rfl,(hole_of hb13 hh).setCell rfl _,rt_set2 hob nrf o3 (.inr ⟨rfl,hn⟩)⟩
end Bg
end Go.Proofs.YtenekbfnlbipiaaGreatDoor
