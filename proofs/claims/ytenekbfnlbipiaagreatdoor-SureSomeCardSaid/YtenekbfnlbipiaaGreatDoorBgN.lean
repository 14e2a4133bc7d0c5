/- Walks of numeralbig: a number's methods that may set what they read. -/
import Derived.Test.YtenekbfnlbipiaaGreatDoorBgL
namespace Go.Proofs.YtenekbfnlbipiaaGreatDoor
open Go.RowKit
set_option linter.unusedVariables false
set_option linter.unusedSimpArgs false
set_option maxHeartbeats 4000000
set_option maxRecDepth 100000
namespace Bg
theorem int_Lsh (z x:Nat) (T TX:TypeId) (rest restx:List Value) (hT:T≠153) (v n:Nat) (hn:n≤1000000) (hl:(limbs v).length≤20000) (w:World) (hz:At w z T rest) (hx:Ob w x TX false v restx):
 Calls Tryz.prog 98 #[.pointer (some ⟨z,0,none⟩),.pointer (some ⟨x,0,none⟩),.int .u64 (n:Int)] w (Sets w z T rest false (v*2^n)):=by
 obtain⟨A,c,c0,c1,hc,ho⟩:=hx.cells
 have hU:=big_up A (limbs v) _ c rfl n hn (by omega)
 rw[val_limbs] at hU
 obtain⟨r,hr⟩:∃r,r=v*2^n:=⟨_,rfl⟩
 rw[←hr] at hU ⊢
 clear hr
 have hn2:(n:Int)≤1000000:=by omega
 have hwr:IntKind.i64.wrap (n:Int)=(n:Int):=by rw[IntKind.wrap_i64];omega
 go_enter Tryz.func98,Tryz.ntmps98
 go_wp2_with fail
 refine region_until 12 (fun w'=>w'.cell? ⟨x,0,none⟩=some (.bool false)∧w'.cell? ⟨x,1,none⟩=some (.slice A (limbs v).length c)) (by kernel_rfl) ?_
 have hS:w.drew.cell? ⟨x,0,none⟩=some (.bool false)∧w.drew.cell? ⟨x,1,none⟩=some (.slice A (limbs v).length c):=⟨c0,c1⟩
 refine Until.tk (i:=0) (v:=?_) rfl hS (.inl ⟨by rfl,?_⟩) ?_
 rotate_left
 · (intro w hSw;(try dsimp only at hSw);go_simp;try with_reducible rfl)
 simp only[Act.put,setP]
 refine Until.tk (i:=1) (v:=?_) rfl hS (.inl ⟨by rfl,?_⟩) ?_
 rotate_left
 · (intro w hSw;(try dsimp only at hSw);go_simp;try with_reducible rfl)
 simp only[Act.put,setP]
 refine Until.tk (i:=2) (v:=?_) rfl hS (.inl ⟨by rfl,?_⟩) ?_
 rotate_left
 · (intro w hSw;(try dsimp only at hSw);go_simp;try with_reducible rfl)
 simp only[Act.put,setP]
 refine Until.tk (i:=3) (v:=?_) rfl hS (.inl ⟨by rfl,?_⟩) ?_
 rotate_left
 · (intro w hSw;(try dsimp only at hSw);go_simp;try with_reducible rfl)
 simp only[Act.put,setP]
 refine Until.tk (i:=4) (v:=?_) rfl hS (.inl ⟨by rfl,?_⟩) ?_
 rotate_left
 · (intro w hSw;(try dsimp only at hSw);go_simp;try with_reducible rfl)
 simp only[Act.put,setP]
 refine Until.tk (i:=5) (v:=?_) rfl hS (.inl ⟨by rfl,?_⟩) ?_
 rotate_left
 · (intro w hSw;(try dsimp only at hSw);go_simp;try with_reducible rfl)
 simp only[Act.put,setP]
 refine Until.tk (i:=6) (v:=?_) rfl hS (.inl ⟨by rfl,?_⟩) ?_
 rotate_left
 · (intro w hSw;(try dsimp only at hSw);go_simp;try with_reducible rfl)
 simp only[Act.put,setP]
 refine Until.tk (i:=7) (v:=?_) rfl hS (.inl ⟨by rfl,?_⟩) ?_
 rotate_left
 · (intro w hSw;(try dsimp only at hSw);go_simp;try with_reducible rfl)
 simp only[Act.put,setP]
 refine Until.tk (i:=8) (v:=?_) rfl hS (.inl ⟨by rfl,?_⟩) ?_
 rotate_left
 · (intro w hSw;(try dsimp only at hSw);go_simp;try with_reducible rfl)
 simp only[Act.put,setP]
 refine Until.tk (i:=9) (v:=?_) rfl hS (.inl ⟨by rfl,?_⟩) ?_
 rotate_left
 · (intro w hSw;(try dsimp only at hSw);go_simp;try with_reducible rfl)
 simp only[Act.put,setP]
 refine Until.tk (i:=10) (v:=?_) rfl hS (.inl ⟨by rfl,?_⟩) ?_
 rotate_left
 · (intro w hSw;(try dsimp only at hSw);go_simp;try with_reducible rfl)
 simp only[Act.put,setP]
 refine Until.one (c:=11) (by kernel_rfl) rfl (by rfl) (fun K hK=>?_)
 go_simp
 refine(hU _ ho.rd.drew).mono ?_
 rintro e w1 ⟨B,d,rfl,hd,hB,hb⟩
 have hb2:Below w.heap.size w w1:=(Below.refl w.heap.size w).drew.trans hb
 dsimp only
 replace hS:w1.cell? ⟨x,0,none⟩=some (.bool false)∧w1.cell? ⟨x,1,none⟩=some (.slice A (limbs v).length c):=⟨cell_keep hb2 c0,cell_keep hb2 c1⟩
 refine hK.out _ _ (.inr hS) ?_
 clear hK K
 refine Until.one (c:=12) (by kernel_rfl) rfl (by rfl) (fun K hK=>?_)
 go_simp
 refine(int_set z T rest hT false B (limbs r) _ d rfl hd _ (at_of_below hz hb2) (hB.mono (Nat.zero_le _))).mono ?_
 rintro e w2 ⟨rfl,hh,hob⟩
 rw[val_limbs,nofalse] at hob
 dsimp only
 refine hK.out _ _ (.inl (by kernel_rfl)) ?_
 clear hK K
 refine Until.one (c:=13) (by kernel_rfl) rfl (by rfl) (fun K hK=>?_)
 go_simp
 refine hK.out _ _ (.inl (by kernel_rfl)) ?_
 clear hK K
 refine Until.done (by kernel_rfl) ?_ _
 go_wp2
 go_ret
 exact⟨rfl,hole_of hb2 hh,hob⟩
theorem int_Mul (z x y:Nat) (T TX TY:TypeId) (rest restx resty:List Value) (hT:T≠153) (u v:Nat) (hl:(limbs u).length+(limbs v).length≤20000) (hs:(limbs u).length<40∨(limbs v).length<40) (w:World) (hz:At w z T rest) (hx:Ob w x TX false u restx) (hy:Ob w y TY false v resty):
 Calls Tryz.prog 158 #[.pointer (some ⟨z,0,none⟩),.pointer (some ⟨x,0,none⟩),.pointer (some ⟨y,0,none⟩)] w (Sets w z T rest false (u*v)):=by
 obtain⟨A,c,c0,c1,hc,ho⟩:=hx.cells
 obtain⟨B,d,b0,b1,hd,hp⟩:=hy.cells
 have hU:=big_mul A B (limbs u) (limbs v) _ _ c d rfl rfl (by omega) hs
 rw[val_limbs,val_limbs] at hU
 obtain⟨r,hr⟩:∃r,r=u*v:=⟨_,rfl⟩
 rw[←hr] at hU ⊢
 clear hr
 go_enter Tryz.func158,Tryz.ntmps158
 go_wp2_with fail
 refine region_until 19 (fun w'=>w'.cell? ⟨x,0,none⟩=some (.bool false)∧w'.cell? ⟨x,1,none⟩=some (.slice A (limbs u).length c)∧w'.cell? ⟨y,0,none⟩=some (.bool false)∧w'.cell? ⟨y,1,none⟩=some (.slice B (limbs v).length d)) (by kernel_rfl) ?_
 have hS:w.drew.cell? ⟨x,0,none⟩=some (.bool false)∧w.drew.cell? ⟨x,1,none⟩=some (.slice A (limbs u).length c)∧w.drew.cell? ⟨y,0,none⟩=some (.bool false)∧w.drew.cell? ⟨y,1,none⟩=some (.slice B (limbs v).length d):=⟨c0,c1,b0,b1⟩
 refine Until.tk (i:=0) (v:=?_) rfl hS (.inl ⟨by rfl,?_⟩) ?_
 rotate_left
 · (intro w hSw;(try dsimp only at hSw);go_simp;try with_reducible rfl)
 simp only[Act.put,setP]
 refine Until.tk (i:=1) (v:=?_) rfl hS (.inl ⟨by rfl,?_⟩) ?_
 rotate_left
 · (intro w hSw;(try dsimp only at hSw);go_simp;try with_reducible rfl)
 simp only[Act.put,setP]
 refine Until.tk (i:=2) (v:=?_) rfl hS (.inl ⟨by rfl,?_⟩) ?_
 rotate_left
 · (intro w hSw;(try dsimp only at hSw);go_simp;try with_reducible rfl)
 simp only[Act.put,setP]
 refine Until.tk (i:=3) (v:=?_) rfl hS (.inl ⟨by rfl,?_⟩) ?_
 rotate_left
 · (intro w hSw;(try dsimp only at hSw);go_simp;try with_reducible rfl)
 simp only[Act.put,setP]
 refine Until.tk (i:=4) (v:=?_) rfl hS (.inl ⟨by rfl,?_⟩) ?_
 rotate_left
 · (intro w hSw;(try dsimp only at hSw);go_simp;try with_reducible rfl)
 simp only[Act.put,setP]
 refine Until.tk (i:=5) (v:=?_) rfl hS (.inl ⟨by rfl,?_⟩) ?_
 rotate_left
 · (intro w hSw;(try dsimp only at hSw);go_simp;try with_reducible rfl)
 simp only[Act.put,setP]
 refine Until.tk (i:=6) (v:=?_) rfl hS (.inl ⟨by rfl,?_⟩) ?_
 rotate_left
 · (intro w hSw;(try dsimp only at hSw);go_simp;try with_reducible rfl)
 simp only[Act.put,setP]
 refine Until.tk (i:=7) (v:=?_) rfl hS (.inl ⟨by rfl,?_⟩) ?_
 rotate_left
 · (intro w hSw;(try dsimp only at hSw);go_simp;try with_reducible rfl)
 simp only[Act.put,setP]
 refine Until.tk (i:=8) (v:=?_) rfl hS (.inl ⟨by rfl,?_⟩) ?_
 rotate_left
 · (intro w hSw;(try dsimp only at hSw);go_simp;try with_reducible rfl)
 simp only[Act.put,setP]
 refine Until.tk (i:=9) (v:=?_) rfl hS (.inl ⟨by rfl,?_⟩) ?_
 rotate_left
 · (intro w hSw;(try dsimp only at hSw);go_simp;try with_reducible rfl)
 simp only[Act.put,setP]
 refine Until.tk (i:=10) (v:=?_) rfl hS (.inl ⟨by rfl,?_⟩) ?_
 rotate_left
 · (intro w hSw;(try dsimp only at hSw);go_simp;try with_reducible rfl)
 simp only[Act.put,setP]
 refine Until.tk (i:=11) (v:=?_) rfl hS (.inl ⟨by rfl,?_⟩) ?_
 rotate_left
 · (intro w hSw;(try dsimp only at hSw);go_simp;try with_reducible rfl)
 simp only[Act.put,setP]
 refine Until.tk (i:=12) (v:=?_) rfl hS (.inl ⟨by rfl,?_⟩) ?_
 rotate_left
 · (intro w hSw;(try dsimp only at hSw);go_simp;try with_reducible rfl)
 simp only[Act.put,setP]
 refine Until.tk (i:=13) (v:=?_) rfl hS (.inl ⟨by rfl,?_⟩) ?_
 rotate_left
 · (intro w hSw;(try dsimp only at hSw);go_simp;try with_reducible rfl)
 simp only[Act.put,setP]
 refine Until.tk (i:=14) (v:=?_) rfl hS (.inl ⟨by rfl,?_⟩) ?_
 rotate_left
 · (intro w hSw;(try dsimp only at hSw);go_simp;try with_reducible rfl)
 simp only[Act.put,setP]
 refine Until.tk (i:=15) (v:=?_) rfl hS (.inl ⟨by rfl,?_⟩) ?_
 rotate_left
 · (intro w hSw;(try dsimp only at hSw);go_simp;try with_reducible rfl)
 simp only[Act.put,setP]
 refine Until.tk (i:=16) (v:=?_) rfl hS (.inl ⟨by rfl,?_⟩) ?_
 rotate_left
 · (intro w hSw;(try dsimp only at hSw);go_simp;try with_reducible rfl)
 simp only[Act.put,setP]
 refine Until.tk (i:=17) (v:=?_) rfl hS (.inl ⟨by rfl,?_⟩) ?_
 rotate_left
 · (intro w hSw;(try dsimp only at hSw);go_simp;try with_reducible rfl)
 simp only[Act.put,setP]
 refine Until.one (c:=18) (by kernel_rfl) rfl (by rfl) (fun K hK=>?_)
 go_simp
 refine(hU _ ho.rd.drew hp.rd.drew).mono ?_
 rintro e w1 ⟨C,k,rfl,hk,hC,hb⟩
 have hb2:Below w.heap.size w w1:=(Below.refl w.heap.size w).drew.trans hb
 dsimp only
 replace hS:w1.cell? ⟨x,0,none⟩=some (.bool false)∧w1.cell? ⟨x,1,none⟩=some (.slice A (limbs u).length c)∧w1.cell? ⟨y,0,none⟩=some (.bool false)∧w1.cell? ⟨y,1,none⟩=some (.slice B (limbs v).length d):=⟨cell_keep hb2 c0,cell_keep hb2 c1,cell_keep hb2 b0,cell_keep hb2 b1⟩
 refine hK.out _ _ (.inr hS) ?_
 clear hK K
 refine Until.one (c:=19) (by kernel_rfl) rfl (by rfl) (fun K hK=>?_)
 go_simp
 refine(int_set z T rest hT false C (limbs r) _ k rfl hk _ (at_of_below hz hb2) (hC.mono (Nat.zero_le _))).mono ?_
 rintro e w2 ⟨rfl,hh,hob⟩
 rw[val_limbs,nofalse] at hob
 dsimp only
 refine hK.out _ _ (.inl (by kernel_rfl)) ?_
 clear hK K
 refine Until.one (c:=20) (by kernel_rfl) rfl (by rfl) (fun K hK=>?_)
 go_simp
 refine hK.out _ _ (.inl (by kernel_rfl)) ?_
 clear hK K
 refine Until.done (by kernel_rfl) ?_ _
 go_wp2
 go_ret
 exact⟨rfl,hole_of hb2 hh,hob⟩
theorem int_added_same (z:Nat) (T:TypeId) (rest:List Value) (hT:T≠153) (A B:Option Addr) (c d u v:Nat) (hl:(limbs u).length+(limbs v).length≤20000) (w:World) (hz:At w z T rest) (ho:Own w 153 0 A c (limbs u)) (hp:Own w 153 0 B d (limbs v)):
 Calls Tryz.prog 110 #[.pointer (some ⟨z,0,none⟩),.slice A (limbs u).length c,.bool false,.slice B (limbs v).length d,.bool false] w (Sets w z T rest false (u+v)):=by
 have hU:=big_add A B (limbs u) (limbs v) _ _ c d rfl rfl (by omega)
 rw[val_limbs,val_limbs] at hU
 obtain⟨r,hr⟩:∃r,r=u+v:=⟨_,rfl⟩
 rw[←hr] at hU ⊢
 clear hr
 go_enter Tryz.func110,Tryz.ntmps110
 go_wp2_with fail
 refine(hU _ ho.rd hp.rd).mono ?_
 rintro e w1 ⟨C,k,rfl,hk,hC,hb⟩
 go_wp2_with fail
 refine(int_set z T rest hT false C (limbs r) _ k rfl hk _ (at_of_below hz hb) (hC.mono (Nat.zero_le _))).mono ?_
 rintro e w2 ⟨rfl,hh,hob⟩
 rw[val_limbs,nofalse] at hob
 go_wp2
 go_ret
 exact⟨rfl,hole_of hb hh,hob⟩
theorem int_added_less (z:Nat) (T:TypeId) (rest:List Value) (hT:T≠153) (A B:Option Addr) (c d u v:Nat) (hl:(limbs u).length+(limbs v).length≤20000) (hvu:v≤u) (w:World) (hz:At w z T rest) (ho:Own w 153 0 A c (limbs u)) (hp:Own w 153 0 B d (limbs v)):
 Calls Tryz.prog 110 #[.pointer (some ⟨z,0,none⟩),.slice A (limbs u).length c,.bool false,.slice B (limbs v).length d,.bool true] w (Sets w z T rest false (u-v)):=by
 have hU:=big_sub A B (limbs u) (limbs v) _ _ c d rfl rfl (by omega) (limbs_mono hvu) (by rw[val_limbs,val_limbs];exact hvu)
 rw[val_limbs,val_limbs] at hU
 have hcmp:decide (0≤cmpL (limbs u) (limbs v))=true:=by
  rw[decide_eq_true_iff,cmpL_canon (sm_limbs u) (sm_limbs v) (last_limbs u) (last_limbs v),val_limbs,val_limbs]
  unfold cmpV
  rw[if_neg (by omega)]
  split <;> decide
 obtain⟨r,hr⟩:∃r,r=u-v:=⟨_,rfl⟩
 rw[←hr] at hU ⊢
 clear hr
 go_enter Tryz.func110,Tryz.ntmps110
 go_wp2_with fail
 refine(big_cmp A B (limbs u) (limbs v) _ _ c d rfl rfl _ ho.rd hp.rd).mono ?_
 rintro e w1 ⟨rfl,hb1⟩
 have ho1:=ho.below hb1 nrf
 have hp1:=hp.below hb1 nrf
 go_wp2_with fail
 refine(hU _ ho1.rd hp1.rd).mono ?_
 rintro e w2 ⟨C,k,rfl,hk,hC,hb2⟩
 have hb:=hb1.trans (hb2.mono hb1.size)
 go_wp2_with fail
 refine(int_set z T rest hT false C (limbs r) _ k rfl hk _ (at_of_below hz hb) (hC.mono (Nat.zero_le _))).mono ?_
 rintro e w3 ⟨rfl,hh,hob⟩
 rw[val_limbs,nofalse] at hob
 go_wp2
 go_ret
 exact⟨rfl,hole_of hb hh,hob⟩
theorem int_Add (z x y:Nat) (T TX TY:TypeId) (rest restx resty:List Value) (hT:T≠153) (u v:Nat) (hl:(limbs u).length+(limbs v).length≤20000) (w:World) (hz:At w z T rest) (hx:Ob w x TX false u restx) (hy:Ob w y TY false v resty):
 Calls Tryz.prog 56 #[.pointer (some ⟨z,0,none⟩),.pointer (some ⟨x,0,none⟩),.pointer (some ⟨y,0,none⟩)] w (Sets w z T rest false (u+v)):=by
 obtain⟨A,c,c0,c1,hc,ho⟩:=hx.cells
 obtain⟨B,d,b0,b1,hd,hp⟩:=hy.cells
 have hU:=int_added_same z T rest hT A B c d u v hl
 obtain⟨r,hr⟩:∃r,r=u+v:=⟨_,rfl⟩
 rw[←hr] at hU ⊢
 clear hr
 go_enter Tryz.func56,Tryz.ntmps56
 go_wp2_with fail
 refine region_until 17 (fun w'=>w'.cell? ⟨x,0,none⟩=some (.bool false)∧w'.cell? ⟨x,1,none⟩=some (.slice A (limbs u).length c)∧w'.cell? ⟨y,0,none⟩=some (.bool false)∧w'.cell? ⟨y,1,none⟩=some (.slice B (limbs v).length d)) (by kernel_rfl) ?_
 have hS:w.drew.cell? ⟨x,0,none⟩=some (.bool false)∧w.drew.cell? ⟨x,1,none⟩=some (.slice A (limbs u).length c)∧w.drew.cell? ⟨y,0,none⟩=some (.bool false)∧w.drew.cell? ⟨y,1,none⟩=some (.slice B (limbs v).length d):=⟨c0,c1,b0,b1⟩
 refine Until.tk (i:=0) (v:=?_) rfl hS (.inl ⟨by rfl,?_⟩) ?_
 rotate_left
 · (intro w hSw;(try dsimp only at hSw);go_simp;try with_reducible rfl)
 simp only[Act.put,setP]
 refine Until.tk (i:=1) (v:=?_) rfl hS (.inl ⟨by rfl,?_⟩) ?_
 rotate_left
 · (intro w hSw;(try dsimp only at hSw);go_simp;try with_reducible rfl)
 simp only[Act.put,setP]
 refine Until.tk (i:=2) (v:=?_) rfl hS (.inl ⟨by rfl,?_⟩) ?_
 rotate_left
 · (intro w hSw;(try dsimp only at hSw);go_simp;try with_reducible rfl)
 simp only[Act.put,setP]
 refine Until.tk (i:=3) (v:=?_) rfl hS (.inl ⟨by rfl,?_⟩) ?_
 rotate_left
 · (intro w hSw;(try dsimp only at hSw);go_simp;try with_reducible rfl)
 simp only[Act.put,setP]
 refine Until.tk (i:=4) (v:=?_) rfl hS (.inl ⟨by rfl,?_⟩) ?_
 rotate_left
 · (intro w hSw;(try dsimp only at hSw);go_simp;try with_reducible rfl)
 simp only[Act.put,setP]
 refine Until.tk (i:=5) (v:=?_) rfl hS (.inl ⟨by rfl,?_⟩) ?_
 rotate_left
 · (intro w hSw;(try dsimp only at hSw);go_simp;try with_reducible rfl)
 simp only[Act.put,setP]
 refine Until.tk (i:=6) (v:=?_) rfl hS (.inl ⟨by rfl,?_⟩) ?_
 rotate_left
 · (intro w hSw;(try dsimp only at hSw);go_simp;try with_reducible rfl)
 simp only[Act.put,setP]
 refine Until.tk (i:=7) (v:=?_) rfl hS (.inl ⟨by rfl,?_⟩) ?_
 rotate_left
 · (intro w hSw;(try dsimp only at hSw);go_simp;try with_reducible rfl)
 simp only[Act.put,setP]
 refine Until.tk (i:=8) (v:=?_) rfl hS (.inl ⟨by rfl,?_⟩) ?_
 rotate_left
 · (intro w hSw;(try dsimp only at hSw);go_simp;try with_reducible rfl)
 simp only[Act.put,setP]
 refine Until.tk (i:=9) (v:=?_) rfl hS (.inl ⟨by rfl,?_⟩) ?_
 rotate_left
 · (intro w hSw;(try dsimp only at hSw);go_simp;try with_reducible rfl)
 simp only[Act.put,setP]
 refine Until.tk (i:=10) (v:=?_) rfl hS (.inl ⟨by rfl,?_⟩) ?_
 rotate_left
 · (intro w hSw;(try dsimp only at hSw);go_simp;try with_reducible rfl)
 simp only[Act.put,setP]
 refine Until.tk (i:=11) (v:=?_) rfl hS (.inl ⟨by rfl,?_⟩) ?_
 rotate_left
 · (intro w hSw;(try dsimp only at hSw);go_simp;try with_reducible rfl)
 simp only[Act.put,setP]
 refine Until.tk (i:=12) (v:=?_) rfl hS (.inl ⟨by rfl,?_⟩) ?_
 rotate_left
 · (intro w hSw;(try dsimp only at hSw);go_simp;try with_reducible rfl)
 simp only[Act.put,setP]
 refine Until.tk (i:=13) (v:=?_) rfl hS (.inl ⟨by rfl,?_⟩) ?_
 rotate_left
 · (intro w hSw;(try dsimp only at hSw);go_simp;try with_reducible rfl)
 simp only[Act.put,setP]
 refine Until.tk (i:=14) (v:=?_) rfl hS (.inl ⟨by rfl,?_⟩) ?_
 rotate_left
 · (intro w hSw;(try dsimp only at hSw);go_simp;try with_reducible rfl)
 simp only[Act.put,setP]
 refine Until.tk (i:=15) (v:=?_) rfl hS (.inl ⟨by rfl,?_⟩) ?_
 rotate_left
 · (intro w hSw;(try dsimp only at hSw);go_simp;try with_reducible rfl)
 simp only[Act.put,setP]
 refine Until.tk (i:=16) (v:=?_) rfl hS (.inl ⟨by rfl,?_⟩) ?_
 rotate_left
 · (intro w hSw;(try dsimp only at hSw);go_simp;try with_reducible rfl)
 simp only[Act.put,setP]
 refine Until.one (c:=17) (by kernel_rfl) rfl (by rfl) (fun K hK=>?_)
 go_simp
 refine(hU _ hz.drew ho.drew hp.drew).mono ?_
 rintro e w2 ⟨rfl,hh,hob⟩
 dsimp only
 refine hK.out _ _ (.inl (by kernel_rfl)) ?_
 clear hK K
 refine Until.one (c:=18) (by kernel_rfl) rfl (by rfl) (fun K hK=>?_)
 go_simp
 refine hK.out _ _ (.inl (by kernel_rfl)) ?_
 clear hK K
 refine Until.done (by kernel_rfl) ?_ _
 go_wp2
 go_ret
 exact⟨rfl,hole_of (Below.refl w.heap.size w).drew hh,hob⟩
theorem int_AddN (z x y:Nat) (T TX TY:TypeId) (rest restx resty:List Value) (hT:T≠153) (u v:Nat) (hl:(limbs u).length+(limbs v).length≤20000) (hvu:v≤u) (w:World) (hz:At w z T rest) (hx:Ob w x TX false u restx) (hy:Ob w y TY true v resty):
 Calls Tryz.prog 56 #[.pointer (some ⟨z,0,none⟩),.pointer (some ⟨x,0,none⟩),.pointer (some ⟨y,0,none⟩)] w (Sets w z T rest false (u-v)):=by
 obtain⟨A,c,c0,c1,hc,ho⟩:=hx.cells
 obtain⟨B,d,b0,b1,hd,hp⟩:=hy.cells
 have hU:=int_added_less z T rest hT A B c d u v hl hvu
 obtain⟨r,hr⟩:∃r,r=u-v:=⟨_,rfl⟩
 rw[←hr] at hU ⊢
 clear hr
 go_enter Tryz.func56,Tryz.ntmps56
 go_wp2_with fail
 refine region_until 17 (fun w'=>w'.cell? ⟨x,0,none⟩=some (.bool false)∧w'.cell? ⟨x,1,none⟩=some (.slice A (limbs u).length c)∧w'.cell? ⟨y,0,none⟩=some (.bool true)∧w'.cell? ⟨y,1,none⟩=some (.slice B (limbs v).length d)) (by kernel_rfl) ?_
 have hS:w.drew.cell? ⟨x,0,none⟩=some (.bool false)∧w.drew.cell? ⟨x,1,none⟩=some (.slice A (limbs u).length c)∧w.drew.cell? ⟨y,0,none⟩=some (.bool true)∧w.drew.cell? ⟨y,1,none⟩=some (.slice B (limbs v).length d):=⟨c0,c1,b0,b1⟩
 refine Until.tk (i:=0) (v:=?_) rfl hS (.inl ⟨by rfl,?_⟩) ?_
 rotate_left
 · (intro w hSw;(try dsimp only at hSw);go_simp;try with_reducible rfl)
 simp only[Act.put,setP]
 refine Until.tk (i:=1) (v:=?_) rfl hS (.inl ⟨by rfl,?_⟩) ?_
 rotate_left
 · (intro w hSw;(try dsimp only at hSw);go_simp;try with_reducible rfl)
 simp only[Act.put,setP]
 refine Until.tk (i:=2) (v:=?_) rfl hS (.inl ⟨by rfl,?_⟩) ?_
 rotate_left
 · (intro w hSw;(try dsimp only at hSw);go_simp;try with_reducible rfl)
 simp only[Act.put,setP]
 refine Until.tk (i:=3) (v:=?_) rfl hS (.inl ⟨by rfl,?_⟩) ?_
 rotate_left
 · (intro w hSw;(try dsimp only at hSw);go_simp;try with_reducible rfl)
 simp only[Act.put,setP]
 refine Until.tk (i:=4) (v:=?_) rfl hS (.inl ⟨by rfl,?_⟩) ?_
 rotate_left
 · (intro w hSw;(try dsimp only at hSw);go_simp;try with_reducible rfl)
 simp only[Act.put,setP]
 refine Until.tk (i:=5) (v:=?_) rfl hS (.inl ⟨by rfl,?_⟩) ?_
 rotate_left
 · (intro w hSw;(try dsimp only at hSw);go_simp;try with_reducible rfl)
 simp only[Act.put,setP]
 refine Until.tk (i:=6) (v:=?_) rfl hS (.inl ⟨by rfl,?_⟩) ?_
 rotate_left
 · (intro w hSw;(try dsimp only at hSw);go_simp;try with_reducible rfl)
 simp only[Act.put,setP]
 refine Until.tk (i:=7) (v:=?_) rfl hS (.inl ⟨by rfl,?_⟩) ?_
 rotate_left
 · (intro w hSw;(try dsimp only at hSw);go_simp;try with_reducible rfl)
 simp only[Act.put,setP]
 refine Until.tk (i:=8) (v:=?_) rfl hS (.inl ⟨by rfl,?_⟩) ?_
 rotate_left
 · (intro w hSw;(try dsimp only at hSw);go_simp;try with_reducible rfl)
 simp only[Act.put,setP]
 refine Until.tk (i:=9) (v:=?_) rfl hS (.inl ⟨by rfl,?_⟩) ?_
 rotate_left
 · (intro w hSw;(try dsimp only at hSw);go_simp;try with_reducible rfl)
 simp only[Act.put,setP]
 refine Until.tk (i:=10) (v:=?_) rfl hS (.inl ⟨by rfl,?_⟩) ?_
 rotate_left
 · (intro w hSw;(try dsimp only at hSw);go_simp;try with_reducible rfl)
 simp only[Act.put,setP]
 refine Until.tk (i:=11) (v:=?_) rfl hS (.inl ⟨by rfl,?_⟩) ?_
 rotate_left
 · (intro w hSw;(try dsimp only at hSw);go_simp;try with_reducible rfl)
 simp only[Act.put,setP]
 refine Until.tk (i:=12) (v:=?_) rfl hS (.inl ⟨by rfl,?_⟩) ?_
 rotate_left
 · (intro w hSw;(try dsimp only at hSw);go_simp;try with_reducible rfl)
 simp only[Act.put,setP]
 refine Until.tk (i:=13) (v:=?_) rfl hS (.inl ⟨by rfl,?_⟩) ?_
 rotate_left
 · (intro w hSw;(try dsimp only at hSw);go_simp;try with_reducible rfl)
 simp only[Act.put,setP]
 refine Until.tk (i:=14) (v:=?_) rfl hS (.inl ⟨by rfl,?_⟩) ?_
 rotate_left
 · (intro w hSw;(try dsimp only at hSw);go_simp;try with_reducible rfl)
 simp only[Act.put,setP]
 refine Until.tk (i:=15) (v:=?_) rfl hS (.inl ⟨by rfl,?_⟩) ?_
 rotate_left
 · (intro w hSw;(try dsimp only at hSw);go_simp;try with_reducible rfl)
 simp only[Act.put,setP]
 refine Until.tk (i:=16) (v:=?_) rfl hS (.inl ⟨by rfl,?_⟩) ?_
 rotate_left
 · (intro w hSw;(try dsimp only at hSw);go_simp;try with_reducible rfl)
 simp only[Act.put,setP]
 refine Until.one (c:=17) (by kernel_rfl) rfl (by rfl) (fun K hK=>?_)
 go_simp
 refine(hU _ hz.drew ho.drew hp.drew).mono ?_
 rintro e w2 ⟨rfl,hh,hob⟩
 dsimp only
 refine hK.out _ _ (.inl (by kernel_rfl)) ?_
 clear hK K
 refine Until.one (c:=18) (by kernel_rfl) rfl (by rfl) (fun K hK=>?_)
 go_simp
 refine hK.out _ _ (.inl (by kernel_rfl)) ?_
 clear hK K
 refine Until.done (by kernel_rfl) ?_ _
 go_wp2
 go_ret
 exact⟨rfl,hole_of (Below.refl w.heap.size w).drew hh,hob⟩
theorem int_Sub (z x y:Nat) (T TX TY:TypeId) (rest restx resty:List Value) (hT:T≠153) (u v:Nat) (hl:(limbs u).length+(limbs v).length≤20000) (hvu:v≤u) (w:World) (hz:At w z T rest) (hx:Ob w x TX false u restx) (hy:Ob w y TY false v resty):
 Calls Tryz.prog 77 #[.pointer (some ⟨z,0,none⟩),.pointer (some ⟨x,0,none⟩),.pointer (some ⟨y,0,none⟩)] w (Sets w z T rest false (u-v)):=by
 obtain⟨A,c,c0,c1,hc,ho⟩:=hx.cells
 obtain⟨B,d,b0,b1,hd,hp⟩:=hy.cells
 have hU:=int_added_less z T rest hT A B c d u v hl hvu
 obtain⟨r,hr⟩:∃r,r=u-v:=⟨_,rfl⟩
 rw[←hr] at hU ⊢
 clear hr
 go_enter Tryz.func77,Tryz.ntmps77
 go_wp2_with fail
 refine region_until 18 (fun w'=>w'.cell? ⟨x,0,none⟩=some (.bool false)∧w'.cell? ⟨x,1,none⟩=some (.slice A (limbs u).length c)∧w'.cell? ⟨y,0,none⟩=some (.bool false)∧w'.cell? ⟨y,1,none⟩=some (.slice B (limbs v).length d)) (by kernel_rfl) ?_
 have hS:w.drew.cell? ⟨x,0,none⟩=some (.bool false)∧w.drew.cell? ⟨x,1,none⟩=some (.slice A (limbs u).length c)∧w.drew.cell? ⟨y,0,none⟩=some (.bool false)∧w.drew.cell? ⟨y,1,none⟩=some (.slice B (limbs v).length d):=⟨c0,c1,b0,b1⟩
 refine Until.tk (i:=0) (v:=?_) rfl hS (.inl ⟨by rfl,?_⟩) ?_
 rotate_left
 · (intro w hSw;(try dsimp only at hSw);go_simp;try with_reducible rfl)
 simp only[Act.put,setP]
 refine Until.tk (i:=1) (v:=?_) rfl hS (.inl ⟨by rfl,?_⟩) ?_
 rotate_left
 · (intro w hSw;(try dsimp only at hSw);go_simp;try with_reducible rfl)
 simp only[Act.put,setP]
 refine Until.tk (i:=2) (v:=?_) rfl hS (.inl ⟨by rfl,?_⟩) ?_
 rotate_left
 · (intro w hSw;(try dsimp only at hSw);go_simp;try with_reducible rfl)
 simp only[Act.put,setP]
 refine Until.tk (i:=3) (v:=?_) rfl hS (.inl ⟨by rfl,?_⟩) ?_
 rotate_left
 · (intro w hSw;(try dsimp only at hSw);go_simp;try with_reducible rfl)
 simp only[Act.put,setP]
 refine Until.tk (i:=4) (v:=?_) rfl hS (.inl ⟨by rfl,?_⟩) ?_
 rotate_left
 · (intro w hSw;(try dsimp only at hSw);go_simp;try with_reducible rfl)
 simp only[Act.put,setP]
 refine Until.tk (i:=5) (v:=?_) rfl hS (.inl ⟨by rfl,?_⟩) ?_
 rotate_left
 · (intro w hSw;(try dsimp only at hSw);go_simp;try with_reducible rfl)
 simp only[Act.put,setP]
 refine Until.tk (i:=6) (v:=?_) rfl hS (.inl ⟨by rfl,?_⟩) ?_
 rotate_left
 · (intro w hSw;(try dsimp only at hSw);go_simp;try with_reducible rfl)
 simp only[Act.put,setP]
 refine Until.tk (i:=7) (v:=?_) rfl hS (.inl ⟨by rfl,?_⟩) ?_
 rotate_left
 · (intro w hSw;(try dsimp only at hSw);go_simp;try with_reducible rfl)
 simp only[Act.put,setP]
 refine Until.tk (i:=8) (v:=?_) rfl hS (.inl ⟨by rfl,?_⟩) ?_
 rotate_left
 · (intro w hSw;(try dsimp only at hSw);go_simp;try with_reducible rfl)
 simp only[Act.put,setP]
 refine Until.tk (i:=9) (v:=?_) rfl hS (.inl ⟨by rfl,?_⟩) ?_
 rotate_left
 · (intro w hSw;(try dsimp only at hSw);go_simp;try with_reducible rfl)
 simp only[Act.put,setP]
 refine Until.tk (i:=10) (v:=?_) rfl hS (.inl ⟨by rfl,?_⟩) ?_
 rotate_left
 · (intro w hSw;(try dsimp only at hSw);go_simp;try with_reducible rfl)
 simp only[Act.put,setP]
 refine Until.tk (i:=11) (v:=?_) rfl hS (.inl ⟨by rfl,?_⟩) ?_
 rotate_left
 · (intro w hSw;(try dsimp only at hSw);go_simp;try with_reducible rfl)
 simp only[Act.put,setP]
 refine Until.tk (i:=12) (v:=?_) rfl hS (.inl ⟨by rfl,?_⟩) ?_
 rotate_left
 · (intro w hSw;(try dsimp only at hSw);go_simp;try with_reducible rfl)
 simp only[Act.put,setP]
 refine Until.tk (i:=13) (v:=?_) rfl hS (.inl ⟨by rfl,?_⟩) ?_
 rotate_left
 · (intro w hSw;(try dsimp only at hSw);go_simp;try with_reducible rfl)
 simp only[Act.put,setP]
 refine Until.tk (i:=14) (v:=?_) rfl hS (.inl ⟨by rfl,?_⟩) ?_
 rotate_left
 · (intro w hSw;(try dsimp only at hSw);go_simp;try with_reducible rfl)
 simp only[Act.put,setP]
 refine Until.tk (i:=15) (v:=?_) rfl hS (.inl ⟨by rfl,?_⟩) ?_
 rotate_left
 · (intro w hSw;(try dsimp only at hSw);go_simp;try with_reducible rfl)
 simp only[Act.put,setP]
 refine Until.tk (i:=16) (v:=?_) rfl hS (.inl ⟨by rfl,?_⟩) ?_
 rotate_left
 · (intro w hSw;(try dsimp only at hSw);go_simp;try with_reducible rfl)
 simp only[Act.put,setP]
 refine Until.tk (i:=17) (v:=?_) rfl hS (.inl ⟨by rfl,?_⟩) ?_
 rotate_left
 · (intro w hSw;(try dsimp only at hSw);go_simp;try with_reducible rfl)
 simp only[Act.put,setP]
 refine Until.one (c:=18) (by kernel_rfl) rfl (by rfl) (fun K hK=>?_)
 go_simp
 refine(hU _ hz.drew ho.drew hp.drew).mono ?_
 rintro e w2 ⟨rfl,hh,hob⟩
 dsimp only
 refine hK.out _ _ (.inl (by kernel_rfl)) ?_
 clear hK K
 refine Until.one (c:=19) (by kernel_rfl) rfl (by rfl) (fun K hK=>?_)
 go_simp
 refine hK.out _ _ (.inl (by kernel_rfl)) ?_
 clear hK K
 refine Until.done (by kernel_rfl) ?_ _
 go_wp2
 go_ret
 exact⟨rfl,hole_of (Below.refl w.heap.size w).drew hh,hob⟩
theorem int_Sign (x:Nat) (T:TypeId) (rest:List Value) (v:Nat) (w:World) (hx:Ob w x T false v rest):
 Calls Tryz.prog 108 #[.pointer (some ⟨x,0,none⟩)] w fun e w'=>e=.returned (.int .i64 (if v=0 then 0 else 1))∧w=w':=by
 obtain⟨A,c,c0,c1,hc,ho⟩:=hx.cells
 by_cases h:v=0
 · subst h
   rw[limbs_zero] at c1
   go_enter Tryz.func108,Tryz.ntmps108
   go_wp2
   go_ret
   exact⟨rfl,rfl⟩
 · have hp:=limbs_pos h
   rw[if_neg h]
   have hl:(((limbs v).length:Int)==0)=false:=by rw[beq_eq_false_iff_ne];omega
   clear h
   go_enter Tryz.func108,Tryz.ntmps108
   go_wp2
   go_ret
   exact⟨rfl,rfl⟩
theorem int_BitLen (x:Nat) (T:TypeId) (rest:List Value) (v:Nat) (hl:(limbs v).length≤20000) (w:World) (hx:Ob w x T false v rest):
 Calls Tryz.prog 106 #[.pointer (some ⟨x,0,none⟩)] w fun e w'=>e=.returned (.int .i64 (bitLen v:Int))∧w=w':=by
 obtain⟨A,c,c0,c1,hc,ho⟩:=hx.cells
 have hB:=big_bitLen A (limbs v) _ c rfl (by omega)
 rw[val_limbs] at hB
 go_enter Tryz.func106,Tryz.ntmps106
 go_wp2_with fail
 refine(hB _ ho.rd (last_limbs v)).mono ?_
 rintro e w1 ⟨rfl,rfl⟩
 go_wp2
 go_ret
 exact⟨rfl,rfl⟩
end Bg
end Go.Proofs.YtenekbfnlbipiaaGreatDoor
