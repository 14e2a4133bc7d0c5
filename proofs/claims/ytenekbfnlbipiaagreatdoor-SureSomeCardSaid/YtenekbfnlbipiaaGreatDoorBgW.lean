/- Walks: fractions added; the document's powers of two (layer 5). -/
import Derived.Test.YtenekbfnlbipiaaGreatDoorBgV
namespace Go.Proofs.YtenekbfnlbipiaaGreatDoor
open Go.RowKit
set_option linter.unusedVariables false
set_option linter.unusedSimpArgs false
set_option maxHeartbeats 4000000
set_option maxRecDepth 100000
namespace Bg
theorem rat_Add (z x y:Nat) (u1 v1 u2 v2:Nat) (F:FitA false u1 v1 u2 v2) (w:World) (hT:Tz w) (hz:RAt w z) (hx:Rt w x u1 v1) (hy:Rt w y u2 v2):
 Calls Tryz.prog 50 #[.pointer (some ⟨z,0,none⟩),.pointer (some ⟨x,0,none⟩),.pointer (some ⟨y,0,none⟩)] w (RSets w z (sumN false u1 v1 u2 v2) (sumD false u1 v1 u2 v2)):=by
 have h:=rat_added_false z x y u1 v1 u2 v2 F w hT hz hx hy
 obtain⟨N,hN⟩:∃N,N=sumN false u1 v1 u2 v2:=⟨_,rfl⟩
 obtain⟨M,hM⟩:∃M,M=sumD false u1 v1 u2 v2:=⟨_,rfl⟩
 rw[←hN, ←hM] at h ⊢
 clear hN hM
 go_enter Tryz.func50,Tryz.ntmps50
 go_wp2_with fail
 refine h.mono ?_
 rintro e w1 ⟨rfl,hh,hr⟩
 go_wp2
 go_ret
 exact⟨rfl,hh,hr⟩
theorem rat_Sub (z x y:Nat) (u1 v1 u2 v2:Nat) (F:FitA true u1 v1 u2 v2) (w:World) (hT:Tz w) (hz:RAt w z) (hx:Rt w x u1 v1) (hy:Rt w y u2 v2):
 Calls Tryz.prog 60 #[.pointer (some ⟨z,0,none⟩),.pointer (some ⟨x,0,none⟩),.pointer (some ⟨y,0,none⟩)] w (RSets w z (sumN true u1 v1 u2 v2) (sumD true u1 v1 u2 v2)):=by
 have h:=rat_added_true z x y u1 v1 u2 v2 F w hT hz hx hy
 obtain⟨N,hN⟩:∃N,N=sumN true u1 v1 u2 v2:=⟨_,rfl⟩
 obtain⟨M,hM⟩:∃M,M=sumD true u1 v1 u2 v2:=⟨_,rfl⟩
 rw[←hN, ←hM] at h ⊢
 clear hN hM
 go_enter Tryz.func60,Tryz.ntmps60
 go_wp2_with fail
 refine h.mono ?_
 rintro e w1 ⟨rfl,hh,hr⟩
 go_wp2
 go_ret
 exact⟨rfl,hh,hr⟩
theorem ref05_power_pos (n:Nat) (hn:n≤3000) (w:World):
 Calls Tryz.prog 48 #[.int .i64 (n:Int)] w (RMakes w (2^n) 1):=by
 have hmax:max (n:Int) (-(n:Int))=(n:Int):=by omega
 have hwr:IntKind.u64.wrap (n:Int)=(n:Int):=by rw[IntKind.wrap_u64];omega
 have hw64:IntKind.i64.wrap (-(n:Int))= -(n:Int):=by rw[IntKind.wrap_i64];omega
 have hal1:Below w.heap.size w (w.alloc (.cells #[.bool false,.slice none 0 0,.slice none 0 0] 97)):=(Below.refl _ _).alloc nrf _
 have k1:RAt (w.alloc (.cells #[.bool false,.slice none 0 0,.slice none 0 0] 97)) w.heap.size:=⟨_,_,_,Blk.new w _ _⟩
 obtain⟨w1,hw1⟩:∃w1,w1=w.alloc (.cells #[.bool false,.slice none 0 0,.slice none 0 0] 97):=⟨_,rfl⟩
 rw[←hw1] at hal1 k1
 have hal2:Below w1.heap.size w1 (w1.alloc (.cells #[.bool false,.slice none 0 0] 95)):=(Below.refl _ _).alloc nrf _
 have k2:At (w1.alloc (.cells #[.bool false,.slice none 0 0] 95)) w1.heap.size 95 []:=⟨_,_,Blk.new w1 _ _⟩
 obtain⟨w2,hw2⟩:∃w2,w2=w1.alloc (.cells #[.bool false,.slice none 0 0] 95):=⟨_,rfl⟩
 rw[←hw2] at hal2 k2
 have e1:w1.heap.size=w.heap.size+1:=by rw[hw1];simp
 rw[e1] at k2
 obtain⟨g,hg⟩:∃g,g=w.heap.size:=⟨_,rfl⟩
 have hgw:w.heap.size≤g:=by omega
 rw[←hg] at k1 k2
 have HG:=Lib.hid hg
 have b2:Below w.heap.size w w2:=hal1.trans (hal2.mono hal1.size)
 go_enter Tryz.func48,Tryz.ntmps48
 go_wp2_with fail
 rw[←hw1, ←hw2, ←hg]
 have k1':=k1.below hal2
 clear hw1 hw2 hg e1 hal1 hal2 k1
 refine(big_NewInt 1 (by decide) _).mono ?_
 rintro e w3 ⟨x,rfl,hx,ho,hb3⟩
 have k13:=k1'.below hb3
 have k23:=at_of_below k2 hb3
 have b3:=b2.trans (hb3.mono b2.size)
 go_wp2_with fail
 refine(int_Lsh (g+1) x _ _ [] [] (by decide) 1 n (by omega) (by decide) _ k23 ho).mono ?_
 rintro e w4 ⟨rfl,hh4,ho4⟩
 rw[Nat.one_mul] at ho4
 have k14:=k13.hole (show g≠g+1 by omega) hh4
 have b4:Below w.heap.size w w4:=hole_fresh b3 hh4 (by omega)
 go_wp2_with fail
 refine(rat_SetInt g (g+1) _ [] (2^n) _ k14 ho4).mono ?_
 rintro e w5 ⟨rfl,hh5,hr5⟩
 have b5:Below w.heap.size w w5:=hole_fresh b4 hh5 (by omega)
 go_wp2
 go_ret
 exact⟨g,rfl,hgw,hr5,b5⟩
theorem ref05_power_neg (n:Nat) (hn0:0<n) (hn:n≤3000) (w:World):
 Calls Tryz.prog 48 #[.int .i64 (-(n:Int))] w (RMakes w 1 (2^n)):=by
 have hmax:max (-(n:Int)) (n:Int)=(n:Int):=by omega
 have hmax2:max (-(n:Int)) (- -(n:Int))=(n:Int):=by omega
 have hwr:IntKind.u64.wrap (n:Int)=(n:Int):=by rw[IntKind.wrap_u64];omega
 have hw64:IntKind.i64.wrap (- -(n:Int))=(n:Int):=by rw[IntKind.wrap_i64];omega
 have hneg:decide (-(n:Int)<0)=true:=by simp;omega
 have hal1:Below w.heap.size w (w.alloc (.cells #[.bool false,.slice none 0 0,.slice none 0 0] 97)):=(Below.refl _ _).alloc nrf _
 have k1:RAt (w.alloc (.cells #[.bool false,.slice none 0 0,.slice none 0 0] 97)) w.heap.size:=⟨_,_,_,Blk.new w _ _⟩
 obtain⟨w1,hw1⟩:∃w1,w1=w.alloc (.cells #[.bool false,.slice none 0 0,.slice none 0 0] 97):=⟨_,rfl⟩
 rw[←hw1] at hal1 k1
 have hal2:Below w1.heap.size w1 (w1.alloc (.cells #[.bool false,.slice none 0 0] 95)):=(Below.refl _ _).alloc nrf _
 have k2:At (w1.alloc (.cells #[.bool false,.slice none 0 0] 95)) w1.heap.size 95 []:=⟨_,_,Blk.new w1 _ _⟩
 obtain⟨w2,hw2⟩:∃w2,w2=w1.alloc (.cells #[.bool false,.slice none 0 0] 95):=⟨_,rfl⟩
 rw[←hw2] at hal2 k2
 have e1:w1.heap.size=w.heap.size+1:=by rw[hw1];simp
 rw[e1] at k2
 obtain⟨g,hg⟩:∃g,g=w.heap.size:=⟨_,rfl⟩
 have hgw:w.heap.size≤g:=by omega
 rw[←hg] at k1 k2
 have HG:=Lib.hid hg
 have b2:Below w.heap.size w w2:=hal1.trans (hal2.mono hal1.size)
 go_enter Tryz.func48,Tryz.ntmps48
 go_wp2_with fail
 rw[←hw1, ←hw2, ←hg]
 have k1':=k1.below hal2
 clear hw1 hw2 hg e1 hal1 hal2 k1
 refine(big_NewInt 1 (by decide) _).mono ?_
 rintro e w3 ⟨x,rfl,hx,ho,hb3⟩
 have k13:=k1'.below hb3
 have k23:=at_of_below k2 hb3
 have b3:=b2.trans (hb3.mono b2.size)
 go_wp2_with fail
 refine(int_Lsh (g+1) x _ _ [] [] (by decide) 1 n (by omega) (by decide) _ k23 ho).mono ?_
 rintro e w4 ⟨rfl,hh4,ho4⟩
 rw[Nat.one_mul] at ho4
 have k14:=k13.hole (show g≠g+1 by omega) hh4
 have b4:Below w.heap.size w w4:=hole_fresh b3 hh4 (by omega)
 go_wp2_with fail
 refine(rat_SetInt g (g+1) _ [] (2^n) _ k14 ho4).mono ?_
 rintro e w5 ⟨rfl,hh5,hr5⟩
 have b5:Below w.heap.size w w5:=hole_fresh b4 hh5 (by omega)
 go_wp2_with fail
 refine(rat_Inv g g (2^n) 1 (Nat.ne_of_gt (Nat.two_pow_pos n)) _ hr5.at_ hr5).mono ?_
 rintro e w6 ⟨rfl,hh6,hr6⟩
 have b6:Below w.heap.size w w6:=hole_fresh b5 hh6 (by omega)
 go_wp2
 go_ret
 exact⟨g,rfl,hgw,hr6,b6⟩
end Bg
namespace Bg
theorem ref05_Near (n b:Int) (h1: -1000≤n) (h2:n≤1000) (b1:0≤b) (b2:b≤100000) (w:World):
 Calls Tryz.prog 154 #[.int .i64 n,.int .i64 b] w fun e w'=>e=.returned (.int .i64 n)∧w=w':=by
 have hw1:IntKind.i64.wrap (b+1500)=b+1500:=by rw[IntKind.wrap_i64];omega
 have hw2:IntKind.i64.wrap (-(b+1500))= -(b+1500):=by rw[IntKind.wrap_i64];omega
 have hmin:min n (b+1500)=n:=by omega
 have hmax:max (-(b+1500)) n=n:=by omega
 go_enter Tryz.func154,Tryz.ntmps154
 go_wp2
 all_goals (try (exfalso;omega))
 all_goals (
  go_ret
  exact⟨rfl,rfl⟩)
theorem B_pow (j:Nat):(4294967296:Nat)^j=2^(32*j):=by rw[Nat.pow_mul]
theorem ten_lt (m k j:Nat) (hm:m≤10*k) (hj:34*k<32*j):10^m<4294967296^j:=by
 rw[B_pow]
 refine Nat.lt_of_le_of_lt (Nat.pow_le_pow_right (by decide) hm) ?_
 rw[Nat.pow_mul]
 refine Nat.lt_of_le_of_lt (Nat.pow_le_pow_left (show(10:Nat)^10≤2^34 by decide) k) ?_
 rw[←Nat.pow_mul]
 exact Nat.pow_lt_pow_right (by decide) hj
theorem ten_len {m:Nat} (hm:m≤360):(limbs (10^m)).length<40:=by
 have:=(length_limbs_le (10^m) 39).2 (ten_lt m 36 39 (by omega) (by decide))
 omega
theorem tz_one:(1:Nat)=2^tz 1:=by rw[show tz 1=0 from tz_of (k:=0) (m:=0) rfl]
theorem bl_one:bitLen 1=1:=by decide
theorem gcd1 (x:Nat):Nat.gcd 1 x=1:=Nat.gcd_one_left x
theorem gcd1' (x:Nat):Nat.gcd x 1=1:=Nat.gcd_one_right x
theorem prod_one (P:Nat) (hP:P≠0):prodN 1 1 P 1=P∧prodD 1 1 P 1=1:=by
 unfold prodN prodD mulN mulD
 rw[if_neg (by omega),if_neg (by omega),gcd1,gcd1']
 simp
theorem prod_inv (P:Nat) (hP:P≠0):prodN 1 1 1 P=1∧prodD 1 1 1 P=P:=by
 unfold prodN prodD mulN mulD
 rw[if_neg (by omega),if_neg (by omega),gcd1,gcd1']
 simp
theorem ref05_Tens_pos (x m:Nat) (hm:m≤360) (w:World) (hT:Tz w) (hx:Rt w x 1 1):
 Calls Tryz.prog 104 #[.pointer (some ⟨x,0,none⟩),.int .i64 ((m:Int))] w (RMakes w (10^m) 1):=by
 have hl:=ten_len hm
 have hP0:10^m≠0:=Nat.ne_of_gt (Nat.pow_pos (by decide))
 have hE:=fun z a b w hz ha hb=>int_Exp z a b 95 95 95 [] [] [] (by decide) 10 m (by decide) (by omega) hl (by decide) w hz ha hb
 have hF:Fit 1 1 (10^m) 1:=⟨by decide,by decide,.inl tz_one,.inr tz_one,by decide,by omega,by decide,by decide,.inl (by decide),.inl (by decide)⟩
 have hM:=fun z p=>rat_Mul z x p 1 1 (10^m) 1 hF
 rw[(prod_one _ hP0).1,(prod_one _ hP0).2] at hM
 obtain⟨P,hP⟩:∃P,P=10^m:=⟨_,rfl⟩
 rw[←hP] at hE hM ⊢
 clear hP hl hP0 hF
 have hmax:max ((m:Int)) (-((m:Int)))=(m:Int):=by omega
 have hmax2:max (-(m:Int)) (m:Int)=(m:Int):=by omega
 have hw64:IntKind.i64.wrap (-((m:Int)))= -((m:Int)):=by rw[IntKind.wrap_i64];omega
 have hdec:decide (((m:Int))<0)=false:=by simp
 go_enter Tryz.func104,Tryz.ntmps104
 go_wp2_with fail
 refine(rat_Num x 1 1 _ hx).mono ?_
 rintro e w1 ⟨g1,rfl,hg1,o1,b1⟩
 go_wp2_with fail
 refine(int_BitLen g1 _ [] 1 (by decide) _ o1).mono ?_
 rintro e w2 ⟨rfl,rfl⟩
 rw[bl_one]
 have hx1:=hx.below b1
 go_wp2_with fail
 refine(rat_Denom x 1 1 _ hx1).mono ?_
 rintro e w2 ⟨g2,rfl,hg2,o2,b2⟩
 have hx2:=hx1.below b2
 have B2:=b1.trans (b2.mono b1.size)
 go_wp2_with fail
 refine(int_BitLen g2 _ [] 1 (by decide) _ o2).mono ?_
 rintro e w3 ⟨rfl,rfl⟩
 rw[bl_one]
 go_wp2_with fail
 refine(ref05_Near ((m:Int)) 2 (by omega) (by omega) (by decide) (by decide) _).mono ?_
 rintro e w3 ⟨rfl,rfl⟩
 have al1:Below w2.heap.size w2 (w2.alloc (.cells #[.bool false,.slice none 0 0,.slice none 0 0] 97)):=(Below.refl _ _).alloc nrf _
 have k1:RAt (w2.alloc (.cells #[.bool false,.slice none 0 0,.slice none 0 0] 97)) w2.heap.size:=⟨_,_,_,Blk.new w2 _ _⟩
 obtain⟨w3,hw3⟩:∃w3,w3=w2.alloc (.cells #[.bool false,.slice none 0 0,.slice none 0 0] 97):=⟨_,rfl⟩
 rw[←hw3] at al1 k1
 have al2:Below w3.heap.size w3 (w3.alloc (.cells #[.bool false,.slice none 0 0] 95)):=(Below.refl _ _).alloc nrf _
 have k2:At (w3.alloc (.cells #[.bool false,.slice none 0 0] 95)) w3.heap.size 95 []:=⟨_,_,Blk.new w3 _ _⟩
 obtain⟨w4,hw4⟩:∃w4,w4=w3.alloc (.cells #[.bool false,.slice none 0 0] 95):=⟨_,rfl⟩
 rw[←hw4] at al2 k2
 have e1:w3.heap.size=w2.heap.size+1:=by rw[hw3];simp
 rw[e1] at k2
 go_wp2_with fail
 rw[←hw3, ←hw4]
 have k14:=k1.below al2
 have al12:=al1.trans (al2.mono al1.size)
 have hx4:=hx2.below al12
 have B4:=B2.trans (al12.mono B2.size)
 have hT4:=hT.below B4
 have hgw:w.heap.size≤w2.heap.size:=B2.size
 clear hw3 hw4 e1 al1 al2 al12 k1 hx2 hx1 o1 o2 b1 b2 hg1 hg2
 have xlt:=hx.lt
 refine(big_NewInt 10 (by decide) _).mono ?_
 rintro e w5 ⟨g5,rfl,hg5,o5,b5⟩
 have k25:=at_of_below k2 b5
 have k15:=k14.below b5
 have hx5:=hx4.below b5
 have B5:=B4.trans (b5.mono B4.size)
 go_wp2_with fail
 refine(big_NewInt m (by omega) _).mono ?_
 rintro e w6 ⟨g6,rfl,hg6,o6,b6⟩
 have k26:=at_of_below k25 b6
 have k16:=k15.below b6
 have hx6:=hx5.below b6
 have o56:=o5.below b6
 have B6:=B5.trans (b6.mono B5.size)
 go_wp2_with fail
 refine(hE (w2.heap.size+1) g5 g6 _ k26 o56 o6).mono ?_
 rintro e w7 ⟨rfl,hh7,o7⟩
 have k17:=k16.hole (show w2.heap.size≠w2.heap.size+1 by omega) hh7
 have hx7:=hx6.hole k26 (by decide) (show x≠w2.heap.size+1 by omega) hh7
 have T7:=(hT.below B6).hole k26 (by decide) hh7
 have B7:Below w.heap.size w w7:=hole_fresh B6 hh7 (by omega)
 clear k2 k25 k26 k14 k15 k16 hx4 hx5 hx6 o5 o6 o56 B4 B5 B6 hT4 b5 b6 hg5 hg6 hh7 hE
 go_wp2_with fail
 refine(rat_SetInt w2.heap.size (w2.heap.size+1) _ [] P _ k17 o7).mono ?_
 rintro e w8 ⟨rfl,hh8,r8⟩
 obtain⟨D0,hz8⟩:=k17
 have hx8:=hx7.hole hz8 (by decide) (show x≠w2.heap.size by omega) hh8
 have T8:=T7.hole hz8 (Nat.le_refl 1) hh8
 have B8:Below w.heap.size w w8:=hole_fresh B7 hh8 hgw
 clear hx7 T7 B7 hz8 hh8 o7
 go_wp2_with fail
 have al3:Below w8.heap.size w8 (w8.alloc (.cells #[.bool false,.slice none 0 0,.slice none 0 0] 97)):=(Below.refl _ _).alloc nrf _
 have k9:RAt (w8.alloc (.cells #[.bool false,.slice none 0 0,.slice none 0 0] 97)) w8.heap.size:=⟨_,_,_,Blk.new w8 _ _⟩
 refine(hM w8.heap.size w2.heap.size _ (T8.below al3) k9 (hx8.below al3) (r8.below al3)).mono ?_
 rintro e w9 ⟨rfl,hh9,r9⟩
 go_wp2
 go_ret
 exact⟨_,rfl,B8.size,r9,hole_fresh (B8.trans (al3.mono B8.size)) hh9 B8.size⟩
theorem ref05_Tens_neg (x m:Nat) (hm0:0<m) (hm:m≤360) (w:World) (hT:Tz w) (hx:Rt w x 1 1):
 Calls Tryz.prog 104 #[.pointer (some ⟨x,0,none⟩),.int .i64 (-(m:Int))] w (RMakes w 1 (10^m)):=by
 have hl:=ten_len hm
 have hP0:10^m≠0:=Nat.ne_of_gt (Nat.pow_pos (by decide))
 have hE:=fun z a b w hz ha hb=>int_Exp z a b 95 95 95 [] [] [] (by decide) 10 m (by decide) (by omega) hl (by decide) w hz ha hb
 have hF:Fit 1 1 1 (10^m):=⟨by decide,hP0,.inl tz_one,.inl tz_one,by decide,by decide,by decide,by omega,.inl (by decide),.inl (by decide)⟩
 have hM:=fun z p=>rat_Quo z x p 1 1 (10^m) 1 hF
 rw[(prod_inv _ hP0).1,(prod_inv _ hP0).2] at hM
 obtain⟨P,hP⟩:∃P,P=10^m:=⟨_,rfl⟩
 rw[←hP] at hE hM ⊢
 clear hP hl hP0 hF
 have hmax:max (-(m:Int)) (-(-(m:Int)))=(m:Int):=by omega
 have hmax2:max (-(m:Int)) (m:Int)=(m:Int):=by omega
 have hw64:IntKind.i64.wrap (-(-(m:Int)))= -(-(m:Int)):=by rw[IntKind.wrap_i64];omega
 have hdec:decide ((-(m:Int))<0)=true:=by simp;omega
 go_enter Tryz.func104,Tryz.ntmps104
 go_wp2_with fail
 refine(rat_Num x 1 1 _ hx).mono ?_
 rintro e w1 ⟨g1,rfl,hg1,o1,b1⟩
 go_wp2_with fail
 refine(int_BitLen g1 _ [] 1 (by decide) _ o1).mono ?_
 rintro e w2 ⟨rfl,rfl⟩
 rw[bl_one]
 have hx1:=hx.below b1
 go_wp2_with fail
 refine(rat_Denom x 1 1 _ hx1).mono ?_
 rintro e w2 ⟨g2,rfl,hg2,o2,b2⟩
 have hx2:=hx1.below b2
 have B2:=b1.trans (b2.mono b1.size)
 go_wp2_with fail
 refine(int_BitLen g2 _ [] 1 (by decide) _ o2).mono ?_
 rintro e w3 ⟨rfl,rfl⟩
 rw[bl_one]
 go_wp2_with fail
 refine(ref05_Near (-(m:Int)) 2 (by omega) (by omega) (by decide) (by decide) _).mono ?_
 rintro e w3 ⟨rfl,rfl⟩
 have al1:Below w2.heap.size w2 (w2.alloc (.cells #[.bool false,.slice none 0 0,.slice none 0 0] 97)):=(Below.refl _ _).alloc nrf _
 have k1:RAt (w2.alloc (.cells #[.bool false,.slice none 0 0,.slice none 0 0] 97)) w2.heap.size:=⟨_,_,_,Blk.new w2 _ _⟩
 obtain⟨w3,hw3⟩:∃w3,w3=w2.alloc (.cells #[.bool false,.slice none 0 0,.slice none 0 0] 97):=⟨_,rfl⟩
 rw[←hw3] at al1 k1
 have al2:Below w3.heap.size w3 (w3.alloc (.cells #[.bool false,.slice none 0 0] 95)):=(Below.refl _ _).alloc nrf _
 have k2:At (w3.alloc (.cells #[.bool false,.slice none 0 0] 95)) w3.heap.size 95 []:=⟨_,_,Blk.new w3 _ _⟩
 obtain⟨w4,hw4⟩:∃w4,w4=w3.alloc (.cells #[.bool false,.slice none 0 0] 95):=⟨_,rfl⟩
 rw[←hw4] at al2 k2
 have e1:w3.heap.size=w2.heap.size+1:=by rw[hw3];simp
 rw[e1] at k2
 go_wp2_with fail
 rw[←hw3, ←hw4]
 have k14:=k1.below al2
 have al12:=al1.trans (al2.mono al1.size)
 have hx4:=hx2.below al12
 have B4:=B2.trans (al12.mono B2.size)
 have hT4:=hT.below B4
 have hgw:w.heap.size≤w2.heap.size:=B2.size
 clear hw3 hw4 e1 al1 al2 al12 k1 hx2 hx1 o1 o2 b1 b2 hg1 hg2
 have xlt:=hx.lt
 refine(big_NewInt 10 (by decide) _).mono ?_
 rintro e w5 ⟨g5,rfl,hg5,o5,b5⟩
 have k25:=at_of_below k2 b5
 have k15:=k14.below b5
 have hx5:=hx4.below b5
 have B5:=B4.trans (b5.mono B4.size)
 go_wp2_with fail
 refine(big_NewInt m (by omega) _).mono ?_
 rintro e w6 ⟨g6,rfl,hg6,o6,b6⟩
 have k26:=at_of_below k25 b6
 have k16:=k15.below b6
 have hx6:=hx5.below b6
 have o56:=o5.below b6
 have B6:=B5.trans (b6.mono B5.size)
 go_wp2_with fail
 refine(hE (w2.heap.size+1) g5 g6 _ k26 o56 o6).mono ?_
 rintro e w7 ⟨rfl,hh7,o7⟩
 have k17:=k16.hole (show w2.heap.size≠w2.heap.size+1 by omega) hh7
 have hx7:=hx6.hole k26 (by decide) (show x≠w2.heap.size+1 by omega) hh7
 have T7:=(hT.below B6).hole k26 (by decide) hh7
 have B7:Below w.heap.size w w7:=hole_fresh B6 hh7 (by omega)
 clear k2 k25 k26 k14 k15 k16 hx4 hx5 hx6 o5 o6 o56 B4 B5 B6 hT4 b5 b6 hg5 hg6 hh7 hE
 go_wp2_with fail
 refine(rat_SetInt w2.heap.size (w2.heap.size+1) _ [] P _ k17 o7).mono ?_
 rintro e w8 ⟨rfl,hh8,r8⟩
 obtain⟨D0,hz8⟩:=k17
 have hx8:=hx7.hole hz8 (by decide) (show x≠w2.heap.size by omega) hh8
 have T8:=T7.hole hz8 (Nat.le_refl 1) hh8
 have B8:Below w.heap.size w w8:=hole_fresh B7 hh8 hgw
 clear hx7 T7 B7 hz8 hh8 o7
 go_wp2_with fail
 have al3:Below w8.heap.size w8 (w8.alloc (.cells #[.bool false,.slice none 0 0,.slice none 0 0] 97)):=(Below.refl _ _).alloc nrf _
 have k9:RAt (w8.alloc (.cells #[.bool false,.slice none 0 0,.slice none 0 0] 97)) w8.heap.size:=⟨_,_,_,Blk.new w8 _ _⟩
 refine(hM w8.heap.size w2.heap.size _ (T8.below al3) k9 (hx8.below al3) (r8.below al3)).mono ?_
 rintro e w9 ⟨rfl,hh9,r9⟩
 go_wp2
 go_ret
 exact⟨_,rfl,B8.size,r9,hole_fresh (B8.trans (al3.mono B8.size)) hh9 B8.size⟩
end Bg
namespace Bg
theorem ref19_tens_pos (m:Nat) (hm:m≤360) (w:World) (hT:Tz w):
 Calls Tryz.prog 53 #[.int .i64 ((m:Int))] w (RMakes w (10^m) 1):=by
 have h1:=rat_New 1 1 (by decide) (by decide) (by decide) (by decide) (.inl tz_one) w hT
 have hTn:=fun x w=>ref05_Tens_pos x m hm w
 rw[show 1/Nat.gcd 1 1=1 from rfl] at h1
 obtain⟨P,hP⟩:∃P,P=10^m:=⟨_,rfl⟩
 rw[←hP] at hTn ⊢
 clear hP
 go_enter Tryz.func53,Tryz.ntmps53
 go_wp2_with fail
 refine h1.mono ?_
 rintro e w1 ⟨x,rfl,hx,rx,b1⟩
 go_wp2_with fail
 refine(hTn x _ (hT.below b1) rx).mono ?_
 rintro e w2 ⟨y,rfl,hy,ry,b2⟩
 go_wp2
 go_ret
 exact⟨y,rfl,Nat.le_trans b1.size hy,ry,b1.trans (b2.mono b1.size)⟩
theorem ref19_tens_neg (m:Nat) (hm0:0<m) (hm:m≤360) (w:World) (hT:Tz w):
 Calls Tryz.prog 53 #[.int .i64 (-(m:Int))] w (RMakes w 1 (10^m)):=by
 have h1:=rat_New 1 1 (by decide) (by decide) (by decide) (by decide) (.inl tz_one) w hT
 have hTn:=fun x w=>ref05_Tens_neg x m hm0 hm w
 rw[show 1/Nat.gcd 1 1=1 from rfl] at h1
 obtain⟨P,hP⟩:∃P,P=10^m:=⟨_,rfl⟩
 rw[←hP] at hTn ⊢
 clear hP
 go_enter Tryz.func53,Tryz.ntmps53
 go_wp2_with fail
 refine h1.mono ?_
 rintro e w1 ⟨x,rfl,hx,rx,b1⟩
 go_wp2_with fail
 refine(hTn x _ (hT.below b1) rx).mono ?_
 rintro e w2 ⟨y,rfl,hy,ry,b2⟩
 go_wp2
 go_ret
 exact⟨y,rfl,Nat.le_trans b1.size hy,ry,b1.trans (b2.mono b1.size)⟩
end Bg
namespace Bg
theorem ref19_floor (y n d:Nat) (hl:(limbs n).length≤20000) (w:World) (hy:Rt w y n d):
 Calls Tryz.prog 59 #[.pointer (some ⟨y,0,none⟩)] w fun e w'=>∃q,e=.returned (.tuple #[.pointer (some ⟨q,0,none⟩),.bool (decide (n%d=0))])∧w.heap.size≤q∧Ob w' q 95 false (n/d) []∧Below w.heap.size w w':=by
 have hd:=hy.ne
 have hQ:=fun z x y r w h1 h2 h3 h4 h5=>int_QuoRem z x y r 95 95 95 95 [] [] [] [] (by decide) (by decide) n d hd hl h1 w h2 h3 h4 h5
 obtain⟨Q,hQ'⟩:∃Q,Q=n/d:=⟨_,rfl⟩
 obtain⟨R,hR⟩:∃R,R=n%d:=⟨_,rfl⟩
 rw[←hQ', ←hR] at hQ
 rw[←hQ', ←hR]
 clear hQ' hR hl hd
 have al1:Below w.heap.size w (w.alloc (.cells #[.bool false,.slice none 0 0] 95)):=(Below.refl _ _).alloc nrf _
 have k1:At (w.alloc (.cells #[.bool false,.slice none 0 0] 95)) w.heap.size 95 []:=⟨_,_,Blk.new w _ _⟩
 go_enter Tryz.func59,Tryz.ntmps59
 go_wp2_with fail
 refine(rat_Num y n d _ (hy.below al1)).mono ?_
 rintro e w1 ⟨g1,rfl,hg1,o1,b1⟩
 have B1:=al1.trans (b1.mono al1.size)
 have k11:=at_of_below k1 b1
 go_wp2_with fail
 refine(rat_Denom y n d _ (hy.below B1)).mono ?_
 rintro e w2 ⟨g2,rfl,hg2,o2,b2⟩
 have B2:=B1.trans (b2.mono B1.size)
 have k12:=at_of_below k11 b2
 have o12:=o1.below b2
 have al2:Below w2.heap.size w2 (w2.alloc (.cells #[.bool false,.slice none 0 0] 95)):=(Below.refl _ _).alloc nrf _
 have k2:At (w2.alloc (.cells #[.bool false,.slice none 0 0] 95)) w2.heap.size 95 []:=⟨_,_,Blk.new w2 _ _⟩
 have lt1:=k12.lt
 go_wp2_with fail
 refine(hQ w.heap.size g1 g2 w2.heap.size _ (by omega) (at_of_below k12 al2) k2 (o12.below al2) (o2.below al2)).mono ?_
 rintro e w3 ⟨rfl,oq,or_,w4,hh1,hh2⟩
 have B3:Below w.heap.size w w3:=by
  have c1:=B2.trans (al2.mono B2.size)
  have c2:=hole_fresh c1 hh1 (show w.heap.size≤w2.heap.size from B2.size)
  exact hole_fresh c2 hh2 nrf
 go_wp2_with fail
 refine(int_Sign w2.heap.size _ [] R _ or_).mono ?_
 rintro e w5 ⟨rfl,rfl⟩
 by_cases h0:R=0
 · rw[if_pos h0]
   go_wp2
   go_ret2
   exact⟨_,by simp[h0],Nat.le_refl _,oq,B3⟩
 · rw[if_neg h0]
   go_wp2
   go_ret2
   exact⟨_,by simp[h0],Nat.le_refl _,oq,B3⟩
end Bg
end Go.Proofs.YtenekbfnlbipiaaGreatDoor
namespace Go.Proofs.YtenekbfnlbipiaaGreatDoor
set_option linter.unusedVariables false
namespace Bg
theorem gcd_parts {u v:Nat} (hv:v≠0):∃a b,u=Nat.gcd u v*a∧v=Nat.gcd u v*b∧u/Nat.gcd u v=a∧v/Nat.gcd u v=b:=by
 have hg:0<Nat.gcd u v:=Nat.gcd_pos_of_pos_right u (Nat.pos_of_ne_zero hv)
 obtain⟨a,ha⟩:=Nat.gcd_dvd_left u v
 obtain⟨b,hb⟩:=Nat.gcd_dvd_right u v
 refine⟨a,b,ha,hb,?_,?_⟩
 · exact Nat.div_eq_of_eq_mul_right hg ha
 · exact Nat.div_eq_of_eq_mul_right hg hb
theorem mul_ratio {u1 v1 u2 v2:Nat} (h1:v1≠0) (h2:v2≠0):
 prodN u1 v1 u2 v2*(v1*v2)=u1*u2*prodD u1 v1 u2 v2∧prodD u1 v1 u2 v2∣v1*v2∧prodN u1 v1 u2 v2∣u1*u2∧prodD u1 v1 u2 v2≠0:=by
 unfold prodN prodD
 by_cases h:u1=0∨u2=0
 · rw[if_pos h,if_pos h]
   have:u1*u2=0:=by rcases h with h|h <;> rw[h] <;> simp
   rw[this]
   exact⟨by simp,Nat.one_dvd _,Nat.dvd_refl _,by decide⟩
 · rw[if_neg h,if_neg h]
   unfold mulN mulD
   obtain⟨a,b,e1,e2,q1,q2⟩:=gcd_parts (u:=u1) h2
   obtain⟨c,d,e3,e4,q3,q4⟩:=gcd_parts (u:=u2) h1
   rw[q1,q2,q3,q4]
   obtain⟨g,hg⟩:∃g,g=Nat.gcd u1 v2:=⟨_,rfl⟩
   obtain⟨k,hk⟩:∃k,k=Nat.gcd u2 v1:=⟨_,rfl⟩
   rw[←hg] at e1 e2
   rw[←hk] at e3 e4
   refine⟨?_,?_,?_,?_⟩
   · rw[e1,e2,e3,e4];ac_rfl
   · exact⟨k*g,by rw[e2,e4];ac_rfl⟩
   · exact⟨g*k,by rw[e1,e3];ac_rfl⟩
   · intro e
     rcases Nat.mul_eq_zero.1 e with e|e
     · rw[e,Nat.mul_zero] at e4;exact h1 e4
     · rw[e,Nat.mul_zero] at e2;exact h2 e2
end Bg
end Go.Proofs.YtenekbfnlbipiaaGreatDoor
namespace Go.Proofs.YtenekbfnlbipiaaGreatDoor
open Go.RowKit
set_option linter.unusedVariables false
set_option linter.unusedSimpArgs false
set_option maxHeartbeats 4000000
set_option maxRecDepth 100000
namespace Bg
theorem ref19_times_pos (y i:Nat) (restI:List Value) (TI:TypeId) (n d N k:Nat) (hk:k≤3000) (F1:Fit n d N 1) (F2:Fit (prodN n d N 1) (prodD n d N 1) (2^k) 1) (w:World) (hT:Tz w) (hy:Rt w y n d) (hi:Ob w i TI false N restI):
 Calls Tryz.prog 58 #[.pointer (some ⟨y,0,none⟩),.pointer (some ⟨i,0,none⟩),.int .i64 ((k:Int))] w (RMakes w (prodN (prodN n d N 1) (prodD n d N 1) (2^k) 1) (prodD (prodN n d N 1) (prodD n d N 1) (2^k) 1)):=by
 have hM1:=fun z s=>rat_Mul z y s n d N 1 F1
 have hM2:=fun z a b=>rat_Mul z a b _ _ (2^k) 1 F2
 have hp0:2^k≠0:=Nat.ne_of_gt (Nat.two_pow_pos k)
 obtain⟨N1,hN1⟩:∃x,x=prodN n d N 1:=⟨_,rfl⟩
 obtain⟨D1,hD1⟩:∃x,x=prodD n d N 1:=⟨_,rfl⟩
 rw[←hN1, ←hD1] at hM1 hM2 ⊢
 have hL:=fun z x w hz hx=>int_Lsh z x 95 95 [] [] (by decide) 1 k (by omega) (by decide) w hz hx
 rw[Nat.one_mul] at hL
 obtain⟨P,hP⟩:∃P,P=2^k:=⟨_,rfl⟩
 rw[←hP] at hM2 hL hp0 ⊢
 obtain⟨N2,hN2⟩:∃x,x=prodN N1 D1 P 1:=⟨_,rfl⟩
 obtain⟨D2,hD2⟩:∃x,x=prodD N1 D1 P 1:=⟨_,rfl⟩
 rw[←hN2, ←hD2] at hM2 ⊢
 clear hN1 hD1 hP hN2 hD2 F1 F2
 have hmax:max ((k:Int)) (-((k:Int)))=(k:Int):=by omega
 have hmax2:max (-(k:Int)) (k:Int)=(k:Int):=by omega
 have hwr:IntKind.u64.wrap (k:Int)=(k:Int):=by rw[IntKind.wrap_u64];omega
 have hw64:IntKind.i64.wrap (-((k:Int)))= -((k:Int)):=by rw[IntKind.wrap_i64];omega
 have hdec:decide (((k:Int))<0)=false:=by simp
 have ylt:=hy.lt
 have ilt:=hi.lt
 have al1:Below w.heap.size w (w.alloc (.cells #[.bool false,.slice none 0 0,.slice none 0 0] 97)):=(Below.refl _ _).alloc nrf _
 have k1:RAt (w.alloc (.cells #[.bool false,.slice none 0 0,.slice none 0 0] 97)) w.heap.size:=⟨_,_,_,Blk.new w _ _⟩
 obtain⟨w1,hw1⟩:∃w1,w1=w.alloc (.cells #[.bool false,.slice none 0 0,.slice none 0 0] 97):=⟨_,rfl⟩
 rw[←hw1] at al1 k1
 have al2:Below w1.heap.size w1 (w1.alloc (.cells #[.bool false,.slice none 0 0] 95)):=(Below.refl _ _).alloc nrf _
 have k2:At (w1.alloc (.cells #[.bool false,.slice none 0 0] 95)) w1.heap.size 95 []:=⟨_,_,Blk.new w1 _ _⟩
 obtain⟨w2,hw2⟩:∃w2,w2=w1.alloc (.cells #[.bool false,.slice none 0 0] 95):=⟨_,rfl⟩
 rw[←hw2] at al2 k2
 have e1:w1.heap.size=w.heap.size+1:=by rw[hw1];simp
 rw[e1] at k2
 have b2:Below w.heap.size w w2:=al1.trans (al2.mono al1.size)
 go_enter Tryz.func58,Tryz.ntmps58
 go_wp2_with fail
 rw[←hw1, ←hw2]
 have k12:=k1.below al2
 clear hw1 hw2 e1 al1 al2 k1
 refine(big_NewInt 1 (by decide) _).mono ?_
 rintro e w3 ⟨x,rfl,hx,ho,hb3⟩
 have k13:=k12.below hb3
 have k23:=at_of_below k2 hb3
 have b3:=b2.trans (hb3.mono b2.size)
 go_wp2_with fail
 refine(hL (w.heap.size+1) x _ k23 ho).mono ?_
 rintro e w4 ⟨rfl,hh4,ho4⟩
 have k14:=k13.hole (show w.heap.size≠w.heap.size+1 by omega) hh4
 have b4:Below w.heap.size w w4:=hole_fresh b3 hh4 (by omega)
 go_wp2_with fail
 refine(rat_SetInt w.heap.size (w.heap.size+1) _ [] P _ k14 ho4).mono ?_
 rintro e w5 ⟨rfl,hh5,r5⟩
 have b5:Below w.heap.size w w5:=hole_fresh b4 hh5 nrf
 go_wp2_with fail
 have r6:=r5
 have b6:=b5
 obtain⟨w6,hw6⟩:∃w6,w6=w5:=⟨_,rfl⟩
 subst hw6
 have al3:Below w6.heap.size w6 (w6.alloc (.cells #[.bool false,.slice none 0 0,.slice none 0 0] 97)):=(Below.refl _ _).alloc nrf _
 have k7:RAt (w6.alloc (.cells #[.bool false,.slice none 0 0,.slice none 0 0] 97)) w6.heap.size:=⟨_,_,_,Blk.new w6 _ _⟩
 obtain⟨w7,hw7⟩:∃w7,w7=w6.alloc (.cells #[.bool false,.slice none 0 0,.slice none 0 0] 97):=⟨_,rfl⟩
 rw[←hw7] at al3 k7
 have al4:Below w7.heap.size w7 (w7.alloc (.cells #[.bool false,.slice none 0 0,.slice none 0 0] 97)):=(Below.refl _ _).alloc nrf _
 have k8:RAt (w7.alloc (.cells #[.bool false,.slice none 0 0,.slice none 0 0] 97)) w7.heap.size:=⟨_,_,_,Blk.new w7 _ _⟩
 obtain⟨w8,hw8⟩:∃w8,w8=w7.alloc (.cells #[.bool false,.slice none 0 0,.slice none 0 0] 97):=⟨_,rfl⟩
 rw[←hw8] at al4 k8
 have e7:w7.heap.size=w6.heap.size+1:=by rw[hw7];simp
 rw[e7] at k8
 rw[←hw7, ←hw8]
 have k78:=k7.below al4
 have al34:=al3.trans (al4.mono al3.size)
 have B8:=b6.trans (al34.mono b6.size)
 have r8:=r6.below al34
 have glt:=r6.lt
 clear hw7 hw8 e7 al3 al4 k7
 refine(rat_SetInt (w6.heap.size+1) i TI restI N _ k8 (hi.below B8)).mono ?_
 rintro e w9 ⟨rfl,hh9,r9⟩
 obtain⟨D8,hz8⟩:=k8
 have B9:Below w.heap.size w w9:=hole_fresh B8 hh9 (by have:=b6.size;omega)
 have k79:=k78.hole (show w6.heap.size≠w6.heap.size+1 by omega) hh9
 have r89:=r8.hole hz8 (by decide) (show w.heap.size≠w6.heap.size+1 by omega) hh9
 go_wp2_with fail
 refine(hM1 w6.heap.size (w6.heap.size+1) _ (hT.below B9) k79 (hy.below B9) r9).mono ?_
 rintro e w10 ⟨rfl,hh10,r10⟩
 obtain⟨D9,hz9⟩:=k79
 have B10:Below w.heap.size w w10:=hole_fresh B9 hh10 b6.size
 have r810:=r89.hole hz9 (by decide) (show w.heap.size≠w6.heap.size by omega) hh10
 go_wp2_with fail
 refine(hM2 w6.heap.size w6.heap.size w.heap.size _ (hT.below B10) r10.at_ r10 r810).mono ?_
 rintro e w11 ⟨rfl,hh11,r11⟩
 go_wp2
 go_ret
 exact⟨_,rfl,b6.size,r11,hole_fresh B10 hh11 b6.size⟩
theorem ref19_times_neg (y i:Nat) (restI:List Value) (TI:TypeId) (n d N k:Nat) (hk0:0<k) (hk:k≤3000) (F1:Fit n d N 1) (F2:Fit (prodN n d N 1) (prodD n d N 1) 1 (2^k)) (w:World) (hT:Tz w) (hy:Rt w y n d) (hi:Ob w i TI false N restI):
 Calls Tryz.prog 58 #[.pointer (some ⟨y,0,none⟩),.pointer (some ⟨i,0,none⟩),.int .i64 (-(k:Int))] w (RMakes w (prodN (prodN n d N 1) (prodD n d N 1) 1 (2^k)) (prodD (prodN n d N 1) (prodD n d N 1) 1 (2^k))):=by
 have hM1:=fun z s=>rat_Mul z y s n d N 1 F1
 have hM2:=fun z a b=>rat_Mul z a b _ _ 1 (2^k) F2
 have hp0:2^k≠0:=Nat.ne_of_gt (Nat.two_pow_pos k)
 obtain⟨N1,hN1⟩:∃x,x=prodN n d N 1:=⟨_,rfl⟩
 obtain⟨D1,hD1⟩:∃x,x=prodD n d N 1:=⟨_,rfl⟩
 rw[←hN1, ←hD1] at hM1 hM2 ⊢
 have hL:=fun z x w hz hx=>int_Lsh z x 95 95 [] [] (by decide) 1 k (by omega) (by decide) w hz hx
 rw[Nat.one_mul] at hL
 obtain⟨P,hP⟩:∃P,P=2^k:=⟨_,rfl⟩
 rw[←hP] at hM2 hL hp0 ⊢
 obtain⟨N2,hN2⟩:∃x,x=prodN N1 D1 1 P:=⟨_,rfl⟩
 obtain⟨D2,hD2⟩:∃x,x=prodD N1 D1 1 P:=⟨_,rfl⟩
 rw[←hN2, ←hD2] at hM2 ⊢
 clear hN1 hD1 hP hN2 hD2 F1 F2
 have hmax:max (-(k:Int)) (-(-(k:Int)))=(k:Int):=by omega
 have hmax2:max (-(k:Int)) (k:Int)=(k:Int):=by omega
 have hwr:IntKind.u64.wrap (k:Int)=(k:Int):=by rw[IntKind.wrap_u64];omega
 have hw64:IntKind.i64.wrap (-(-(k:Int)))= -(-(k:Int)):=by rw[IntKind.wrap_i64];omega
 have hdec:decide ((-(k:Int))<0)=true:=by simp;omega
 have ylt:=hy.lt
 have ilt:=hi.lt
 have al1:Below w.heap.size w (w.alloc (.cells #[.bool false,.slice none 0 0,.slice none 0 0] 97)):=(Below.refl _ _).alloc nrf _
 have k1:RAt (w.alloc (.cells #[.bool false,.slice none 0 0,.slice none 0 0] 97)) w.heap.size:=⟨_,_,_,Blk.new w _ _⟩
 obtain⟨w1,hw1⟩:∃w1,w1=w.alloc (.cells #[.bool false,.slice none 0 0,.slice none 0 0] 97):=⟨_,rfl⟩
 rw[←hw1] at al1 k1
 have al2:Below w1.heap.size w1 (w1.alloc (.cells #[.bool false,.slice none 0 0] 95)):=(Below.refl _ _).alloc nrf _
 have k2:At (w1.alloc (.cells #[.bool false,.slice none 0 0] 95)) w1.heap.size 95 []:=⟨_,_,Blk.new w1 _ _⟩
 obtain⟨w2,hw2⟩:∃w2,w2=w1.alloc (.cells #[.bool false,.slice none 0 0] 95):=⟨_,rfl⟩
 rw[←hw2] at al2 k2
 have e1:w1.heap.size=w.heap.size+1:=by rw[hw1];simp
 rw[e1] at k2
 have b2:Below w.heap.size w w2:=al1.trans (al2.mono al1.size)
 go_enter Tryz.func58,Tryz.ntmps58
 go_wp2_with fail
 rw[←hw1, ←hw2]
 have k12:=k1.below al2
 clear hw1 hw2 e1 al1 al2 k1
 refine(big_NewInt 1 (by decide) _).mono ?_
 rintro e w3 ⟨x,rfl,hx,ho,hb3⟩
 have k13:=k12.below hb3
 have k23:=at_of_below k2 hb3
 have b3:=b2.trans (hb3.mono b2.size)
 go_wp2_with fail
 refine(hL (w.heap.size+1) x _ k23 ho).mono ?_
 rintro e w4 ⟨rfl,hh4,ho4⟩
 have k14:=k13.hole (show w.heap.size≠w.heap.size+1 by omega) hh4
 have b4:Below w.heap.size w w4:=hole_fresh b3 hh4 (by omega)
 go_wp2_with fail
 refine(rat_SetInt w.heap.size (w.heap.size+1) _ [] P _ k14 ho4).mono ?_
 rintro e w5 ⟨rfl,hh5,r5⟩
 have b5:Below w.heap.size w w5:=hole_fresh b4 hh5 nrf
 go_wp2_with fail
 refine(rat_Inv w.heap.size w.heap.size P 1 hp0 _ r5.at_ r5).mono ?_
 rintro e w6 ⟨rfl,hh6,r6⟩
 have b6:Below w.heap.size w w6:=hole_fresh b5 hh6 nrf
 go_wp2_with fail
 have al3:Below w6.heap.size w6 (w6.alloc (.cells #[.bool false,.slice none 0 0,.slice none 0 0] 97)):=(Below.refl _ _).alloc nrf _
 have k7:RAt (w6.alloc (.cells #[.bool false,.slice none 0 0,.slice none 0 0] 97)) w6.heap.size:=⟨_,_,_,Blk.new w6 _ _⟩
 obtain⟨w7,hw7⟩:∃w7,w7=w6.alloc (.cells #[.bool false,.slice none 0 0,.slice none 0 0] 97):=⟨_,rfl⟩
 rw[←hw7] at al3 k7
 have al4:Below w7.heap.size w7 (w7.alloc (.cells #[.bool false,.slice none 0 0,.slice none 0 0] 97)):=(Below.refl _ _).alloc nrf _
 have k8:RAt (w7.alloc (.cells #[.bool false,.slice none 0 0,.slice none 0 0] 97)) w7.heap.size:=⟨_,_,_,Blk.new w7 _ _⟩
 obtain⟨w8,hw8⟩:∃w8,w8=w7.alloc (.cells #[.bool false,.slice none 0 0,.slice none 0 0] 97):=⟨_,rfl⟩
 rw[←hw8] at al4 k8
 have e7:w7.heap.size=w6.heap.size+1:=by rw[hw7];simp
 rw[e7] at k8
 rw[←hw7, ←hw8]
 have k78:=k7.below al4
 have al34:=al3.trans (al4.mono al3.size)
 have B8:=b6.trans (al34.mono b6.size)
 have r8:=r6.below al34
 have glt:=r6.lt
 clear hw7 hw8 e7 al3 al4 k7
 refine(rat_SetInt (w6.heap.size+1) i TI restI N _ k8 (hi.below B8)).mono ?_
 rintro e w9 ⟨rfl,hh9,r9⟩
 obtain⟨D8,hz8⟩:=k8
 have B9:Below w.heap.size w w9:=hole_fresh B8 hh9 (by have:=b6.size;omega)
 have k79:=k78.hole (show w6.heap.size≠w6.heap.size+1 by omega) hh9
 have r89:=r8.hole hz8 (by decide) (show w.heap.size≠w6.heap.size+1 by omega) hh9
 go_wp2_with fail
 refine(hM1 w6.heap.size (w6.heap.size+1) _ (hT.below B9) k79 (hy.below B9) r9).mono ?_
 rintro e w10 ⟨rfl,hh10,r10⟩
 obtain⟨D9,hz9⟩:=k79
 have B10:Below w.heap.size w w10:=hole_fresh B9 hh10 b6.size
 have r810:=r89.hole hz9 (by decide) (show w.heap.size≠w6.heap.size by omega) hh10
 go_wp2_with fail
 refine(hM2 w6.heap.size w6.heap.size w.heap.size _ (hT.below B10) r10.at_ r10 r810).mono ?_
 rintro e w11 ⟨rfl,hh11,r11⟩
 go_wp2
 go_ret
 exact⟨_,rfl,b6.size,r11,hole_fresh B10 hh11 b6.size⟩
end Bg
end Go.Proofs.YtenekbfnlbipiaaGreatDoor
