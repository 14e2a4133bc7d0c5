/- Walks of numeralbig: fractions, compared and added. -/
import Derived.Test.YtenekbfnlbipiaaGreatDoorBgS
namespace Go.Proofs.YtenekbfnlbipiaaGreatDoor
open Go.RowKit
set_option linter.unusedVariables false
set_option linter.unusedSimpArgs false
set_option maxHeartbeats 4000000
set_option maxRecDepth 100000
namespace Bg
theorem rat_Cmp_pos (x y:Nat) (u1 v1 u2 v2:Nat) (h1:u1≠0) (h2:u2≠0) (l1:(limbs u1).length≤5000) (l2:(limbs u2).length≤5000) (l3:(limbs v1).length≤5000) (l4:(limbs v2).length≤5000)
 (s1:(limbs u1).length<40∨(limbs v2).length<40) (s2:(limbs u2).length<40∨(limbs v1).length<40) (w:World) (hx:Rt w x u1 v1) (hy:Rt w y u2 v2):
 Calls Tryz.prog 52 #[.pointer (some ⟨x,0,none⟩),.pointer (some ⟨y,0,none⟩)] w fun e w'=>e=.returned (.int .i64 (cmpV (u1*v2) (u2*v1)))∧Below w.heap.size w w':=by
 obtain⟨A,a,A',a',l,c0,c1,c2,hc,ho,_,_,_⟩:=hx.cells
 obtain⟨B,b,B',b',m,b0,b1,b2,hb,hp,_,_,_⟩:=hy.cells
 have hsx:=fun w h=>rat_Sign x u1 v1 w h
 have hsy:=fun w h=>rat_Sign y u2 v2 w h
 rw[if_neg h1] at hsx
 rw[if_neg h2] at hsy
 have m1:=fun X x=>big_mul A X (limbs u1) (limbs v2) _ _ a x rfl rfl (by omega) s1
 have m2:=fun X x=>big_mul B X (limbs u2) (limbs v1) _ _ b x rfl rfl (by omega) s2
 simp only[val_limbs] at m1 m2
 have hC:=fun X Y k j w h h'=>big_cmp X Y (limbs (u1*v2)) (limbs (u2*v1)) _ _ k j rfl rfl w h h'
 rw[cmp_limbs] at hC
 obtain⟨r,hr⟩:∃r,r=cmpV (u1*v2) (u2*v1):=⟨_,rfl⟩
 rw[←hr] at hC ⊢
 obtain⟨P,hP⟩:∃P,P=u1*v2:=⟨_,rfl⟩
 obtain⟨O,hO⟩:∃O,O=u2*v1:=⟨_,rfl⟩
 rw[←hP] at m1 hC
 rw[←hO] at m2 hC
 clear hr hP hO h1 h2 s1 s2
 go_enter Tryz.func52,Tryz.ntmps52
 go_wp2_with fail
 refine(hsx _ hx).mono ?_
 rintro e w1 ⟨rfl,rfl⟩
 go_wp2_with fail
 refine(hsy _ hy).mono ?_
 rintro e w1 ⟨rfl,rfl⟩
 go_wp2_with fail
 refine(hsx _ hx).mono ?_
 rintro e w1 ⟨rfl,rfl⟩
 go_wp2_with fail
 refine region_until 16 (fun w'=>w'.cell? ⟨x,1,none⟩=some (.slice A (limbs u1).length a)∧w'.cell? ⟨y,1,none⟩=some (.slice B (limbs u2).length b)) (by kernel_rfl) ?_
 have hS:w.drew.cell? ⟨x,1,none⟩=some (.slice A (limbs u1).length a)∧w.drew.cell? ⟨y,1,none⟩=some (.slice B (limbs u2).length b):=⟨c1,b1⟩
 refine Until.tk (i:=0) (v:=?_) rfl hS (.inl ⟨by rfl,?_⟩) ?_
 rotate_left
 · (intro w hSw;(try dsimp only at hSw);go_simp;try with_reducible rfl)
 simp only[Act.put,setP]
 refine Until.tk (i:=1) (v:=?_) rfl hS (.inl ⟨by rfl,?_⟩) ?_
 rotate_left
 · (intro w hSw;(try dsimp only at hSw);go_simp;try with_reducible rfl)
 simp only[Act.put,setP]
 refine Until.tk (i:=2) (v:=?_) rfl hS (.inl ⟨by rfl,?_⟩) ?_
 rotate_left
 · (intro w hSw;(try dsimp only at hSw);go_simp;try with_reducible rfl)
 simp only[Act.put,setP]
 refine Until.tk (i:=3) (v:=?_) rfl hS (.inl ⟨by rfl,?_⟩) ?_
 rotate_left
 · (intro w hSw;(try dsimp only at hSw);go_simp;try with_reducible rfl)
 simp only[Act.put,setP]
 refine Until.tk (i:=4) (v:=?_) rfl hS (.inl ⟨by rfl,?_⟩) ?_
 rotate_left
 · (intro w hSw;(try dsimp only at hSw);go_simp;try with_reducible rfl)
 simp only[Act.put,setP]
 refine Until.tk (i:=5) (v:=?_) rfl hS (.inl ⟨by rfl,?_⟩) ?_
 rotate_left
 · (intro w hSw;(try dsimp only at hSw);go_simp;try with_reducible rfl)
 simp only[Act.put,setP]
 refine Until.tk (i:=8) (v:=?_) rfl hS (.inl ⟨by rfl,?_⟩) ?_
 rotate_left
 · (intro w hSw;(try dsimp only at hSw);go_simp;try with_reducible rfl)
 simp only[Act.put,setP]
 refine Until.tk (i:=9) (v:=?_) rfl hS (.inl ⟨by rfl,?_⟩) ?_
 rotate_left
 · (intro w hSw;(try dsimp only at hSw);go_simp;try with_reducible rfl)
 simp only[Act.put,setP]
 refine Until.tk (i:=10) (v:=?_) rfl hS (.inl ⟨by rfl,?_⟩) ?_
 rotate_left
 · (intro w hSw;(try dsimp only at hSw);go_simp;try with_reducible rfl)
 simp only[Act.put,setP]
 refine Until.tk (i:=11) (v:=?_) rfl hS (.inl ⟨by rfl,?_⟩) ?_
 rotate_left
 · (intro w hSw;(try dsimp only at hSw);go_simp;try with_reducible rfl)
 simp only[Act.put,setP]
 refine Until.tk (i:=12) (v:=?_) rfl hS (.inl ⟨by rfl,?_⟩) ?_
 rotate_left
 · (intro w hSw;(try dsimp only at hSw);go_simp;try with_reducible rfl)
 simp only[Act.put,setP]
 refine Until.tk (i:=13) (v:=?_) rfl hS (.inl ⟨by rfl,?_⟩) ?_
 rotate_left
 · (intro w hSw;(try dsimp only at hSw);go_simp;try with_reducible rfl)
 simp only[Act.put,setP]
 refine Until.one (c:=6) (by kernel_rfl) rfl (by rfl) (fun K hK=>?_)
 go_simp
 refine(rat_below y u2 v2 _ hy.drew).mono ?_
 rintro e w1 ⟨C,k,rfl,hk,hCo,hb1⟩
 have b1':Below w.heap.size w w1:=(Below.refl w.heap.size w).drew.trans hb1
 dsimp only
 replace hS:w1.cell? ⟨x,1,none⟩=some (.slice A (limbs u1).length a)∧w1.cell? ⟨y,1,none⟩=some (.slice B (limbs u2).length b):=⟨cell_keep b1' c1,cell_keep b1' b1⟩
 refine hK.out _ _ (.inr hS) ?_
 clear hK K
 refine Until.one (c:=7) (by kernel_rfl) rfl (by rfl) (fun K hK=>?_)
 go_simp
 refine(m1 C k _ (ho.below b1' nrf).rd hCo.rd).mono ?_
 rintro e w2 ⟨D,k2,rfl,hk2,hD,hb2⟩
 have b2':Below w.heap.size w w2:=b1'.trans (hb2.mono b1'.size)
 dsimp only
 replace hS:w2.cell? ⟨x,1,none⟩=some (.slice A (limbs u1).length a)∧w2.cell? ⟨y,1,none⟩=some (.slice B (limbs u2).length b):=⟨cell_keep b2' c1,cell_keep b2' b1⟩
 refine hK.out _ _ (.inr hS) ?_
 clear hK K
 refine Until.one (c:=14) (by kernel_rfl) rfl (by rfl) (fun K hK=>?_)
 go_simp
 refine(rat_below x u1 v1 _ (hx.below b2')).mono ?_
 rintro e w3 ⟨E,k3,rfl,hk3,hE,hb3⟩
 have b3':Below w.heap.size w w3:=b2'.trans (hb3.mono b2'.size)
 have hD3:=hD.below hb3 nrf
 dsimp only
 replace hS:w3.cell? ⟨x,1,none⟩=some (.slice A (limbs u1).length a)∧w3.cell? ⟨y,1,none⟩=some (.slice B (limbs u2).length b):=⟨cell_keep b3' c1,cell_keep b3' b1⟩
 refine hK.out _ _ (.inr hS) ?_
 clear hK K
 refine Until.one (c:=15) (by kernel_rfl) rfl (by rfl) (fun K hK=>?_)
 go_simp
 refine(m2 E k3 _ (hp.below b3' nrf).rd hE.rd).mono ?_
 rintro e w4 ⟨G,k4,rfl,hk4,hG,hb4⟩
 have b4':Below w.heap.size w w4:=b3'.trans (hb4.mono b3'.size)
 have hD4:=hD3.below hb4 nrf
 dsimp only
 replace hS:w4.cell? ⟨x,1,none⟩=some (.slice A (limbs u1).length a)∧w4.cell? ⟨y,1,none⟩=some (.slice B (limbs u2).length b):=⟨cell_keep b4' c1,cell_keep b4' b1⟩
 refine hK.out _ _ (.inr hS) ?_
 clear hK K
 refine Until.one (c:=16) (by kernel_rfl) rfl (by rfl) (fun K hK=>?_)
 go_simp
 refine(hC D G k2 k4 _ hD4.rd hG.rd).mono ?_
 rintro e w5 ⟨rfl,hb5⟩
 have b5':Below w.heap.size w w5:=b4'.trans (hb5.mono b4'.size)
 dsimp only
 refine hK.out _ _ (.inl (by kernel_rfl)) ?_
 clear hK K
 refine Until.one (c:=17) (by kernel_rfl) rfl (by rfl) (fun K hK=>?_)
 go_simp
 refine hK.out _ _ (.inl (by kernel_rfl)) ?_
 clear hK K
 refine Until.done (by kernel_rfl) ?_ _
 have c5:=cell_keep b5' c0
 go_wp2
 go_ret
 exact⟨rfl,b5'⟩
theorem rat_Cmp_none (x y:Nat) (u1 v1 u2 v2:Nat) (h1:u1=0) (h2:u2≠0) (hv:v1≠0) (w:World) (hx:Rt w x u1 v1) (hy:Rt w y u2 v2):
 Calls Tryz.prog 52 #[.pointer (some ⟨x,0,none⟩),.pointer (some ⟨y,0,none⟩)] w fun e w'=>e=.returned (.int .i64 (cmpV (u1*v2) (u2*v1)))∧Below w.heap.size w w':=by
 have hr:cmpV (u1*v2) (u2*v1)= -1:=by
  unfold cmpV
  rw[if_pos]
  rw[h1,Nat.zero_mul];exact Nat.mul_pos (by omega) (by omega)
 rw[hr]
 have hsx:=fun w h=>rat_Sign x u1 v1 w h
 have hsy:=fun w h=>rat_Sign y u2 v2 w h
 rw[if_pos h1] at hsx
 rw[if_neg h2] at hsy
 clear hr h1 h2 hv
 go_enter Tryz.func52,Tryz.ntmps52
 go_wp2_with fail
 refine(hsx _ hx).mono ?_
 rintro e w1 ⟨rfl,rfl⟩
 go_wp2_with fail
 refine(hsy _ hy).mono ?_
 rintro e w1 ⟨rfl,rfl⟩
 go_wp2_with fail
 refine(hsx _ hx).mono ?_
 rintro e w1 ⟨rfl,rfl⟩
 go_wp2_with fail
 refine(hsy _ hy).mono ?_
 rintro e w1 ⟨rfl,rfl⟩
 go_wp2
 go_ret
 exact⟨rfl,Below.refl _ _⟩
theorem rat_Cmp (x y:Nat) (u1 v1 u2 v2:Nat) (h2:u2≠0) (l1:(limbs u1).length≤5000) (l2:(limbs u2).length≤5000) (l3:(limbs v1).length≤5000) (l4:(limbs v2).length≤5000)
 (s1:(limbs u1).length<40∨(limbs v2).length<40) (s2:(limbs u2).length<40∨(limbs v1).length<40) (w:World) (hx:Rt w x u1 v1) (hy:Rt w y u2 v2):
 Calls Tryz.prog 52 #[.pointer (some ⟨x,0,none⟩),.pointer (some ⟨y,0,none⟩)] w fun e w'=>e=.returned (.int .i64 (cmpV (u1*v2) (u2*v1)))∧Below w.heap.size w w':=by
 by_cases h:u1=0
 · exact rat_Cmp_none x y u1 v1 u2 v2 h h2 hx.ne w hx hy
 · exact rat_Cmp_pos x y u1 v1 u2 v2 h h2 l1 l2 l3 l4 s1 s2 w hx hy
end Bg
end Go.Proofs.YtenekbfnlbipiaaGreatDoor
