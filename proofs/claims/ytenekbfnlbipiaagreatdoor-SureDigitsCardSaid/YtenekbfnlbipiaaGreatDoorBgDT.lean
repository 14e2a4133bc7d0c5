/- Layer 6's Reach of a float that is not nought, mode 0: the contract. -/
import Derived.Test.YtenekbfnlbipiaaGreatDoorBgDQ
import Derived.Test.YtenekbfnlbipiaaGreatDoorBgDO
import Derived.Test.YtenekbfnlbipiaaGreatDoorBgDS
import Derived.Test.YtenekbfnlbipiaaGreatDoorBgAL
import Derived.Test.YtenekbfnlbipiaaGreatDoorSuV
namespace Go.Proofs.YtenekbfnlbipiaaGreatDoor
open Go.RowKit
set_option linter.unusedVariables false
set_option linter.unusedSimpArgs false
set_option maxHeartbeats 4000000
set_option maxRecDepth 100000
namespace Bg
def loS (st:Bool) (m:Nat):Nat:=if st then 4*m-1 else 4*m-2
def ReachA (N4 D4 N5 D5:Nat) (inn:Bool) (W:World) (e:Ending) (w':World):Prop:=
 ∃A4 c4 B4 d4 A5 c5 B5 d5,e=.returned (.tuple #[.agg #[.bool false,.slice A4 (limbs N4).length c4,.slice B4 (limbs D4).length d4],.agg #[.bool false,.slice A5 (limbs N5).length c5,.slice B5 (limbs D5).length d5],.bool inn,.bool inn,.int .i64 0])∧Own w' 153 W.heap.size A4 c4 (limbs N4)∧Own w' 153 W.heap.size B4 d4 (limbs D4)∧Own w' 153 W.heap.size A5 c5 (limbs N5)∧Own w' 153 W.heap.size B5 d5 (limbs D5)∧Below W.heap.size W w'
theorem par_facts {F b X Y:Nat} (hF1:1≤F) (hY:Y=b%2^F):mF F X Y%2=b%2:=by
 obtain⟨k,rfl⟩:∃k,F=k+1:=⟨F-1,by omega⟩
 have h1:b%2^(k+1)%2=b%2:=by rw[Nat.pow_succ,Nat.mul_comm,Nat.mod_mul_right_mod]
 rw[hY]
 unfold mF
 split
 · exact h1
 · rw[Nat.pow_succ] at h1 ⊢
   omega
theorem ref06_reach (E F b X Y:Nat) (hE2:2≤E) (hE:E≤11) (hF1:1≤F) (hF:F≤52) (hb:b<2^(E+F)) (h0:b≠0) (hX:X=b/2^F%2^E) (hY:Y=b%2^F) (hXm:X+1≠2^E) (hfit:Fo.fitS (E:Int) (F:Int) b=0) (ng:Bool) (hs:Fo.splitF E F b=(ng,X,Y)) (hcl:((Fo.classS (E:Int) (F:Int) b).1:Int)≤3)
 (m0:mF F X Y≠0) (m1:mF F X Y<9007199254740992) (q1: -1074≤qF E F X) (q2:qF E F X≤1022) (w:World):
 Calls Tryz.prog 27 #[.agg #[.int .i64 (E:Int),.int .i64 (F:Int)],.int .u64 (b:Int),.int .u8 0] w (ReachA (ratN (loS (stF X Y) (mF F X Y)) (qF E F X-2)) (ratD (loS (stF X Y) (mF F X Y)) (qF E F X-2)) (ratN (4*mF F X Y+2) (qF E F X-2)) (ratD (4*mF F X Y+2) (qF E F X-2)) (decide (b%2=0)) w):=by
 have hS64:2^(E+F)≤9223372036854775808:=Nat.le_trans (Nat.pow_le_pow_right (n:=2) (by decide) (by omega:E+F≤63)) (by decide)
 have hb64:b<18446744073709551616:=by omega
 have hFi:=fun W=>Fo.ref_Fits (E:Int) (F:Int) b b rfl hb64 W
 rw[hfit] at hFi
 have hFn:=fun W=>Fo.ref_Finite (E:Int) (F:Int) b hb64 W
 rw[decide_eq_true hcl] at hFn
 have hHa:=fun W=>ref06_half E F hE hF _ rfl W
 have hW1:=fun W=>ref06_worth E F b hE2 hE hF1 hF hb64 hb X Y hX hY hXm W
 have hBe:=fun W=>ref06_beyond E F b X Y hE2 hE hF1 hF hb64 hb hX hY hXm hfit ng hs W
 obtain⟨nm,ncs⟩:=near_facts hE2 hF1 hb h0 hX hY hXm
 have hW3:=fun W=>ref06_worth E F (b-1) hE2 hE hF1 hF (by omega) (by omega) _ _ rfl rfl nm W
 rw[show((b-1:Nat):Int)=(b:Int)-1 by omega] at hW3
 generalize (b-1)/2^F%2^E=X' at*
 generalize (b-1)%2^F=Y' at*
 generalize mF F X' Y'=m3 at*
 generalize qF E F X'=q3 at*
 generalize mF F X Y=m at*
 generalize qF E F X=q at*
 generalize stF X Y=st at*
 have two:∀x:Nat,x<18446744073709551616→(limbs x).length≤30:=fun x hx=>Nat.le_trans (limbs_two hx) (by decide)
 have hM5:∀A B c d W,Rd W A (limbs (dyK m))→Rd W B (limbs (dyK (m+1)))→Calls Tryz.prog 72 #[.agg #[.bool false,.slice A (limbs (dyK m)).length c,.int .i64 (dyE m q)],.agg #[.bool false,.slice B (limbs (dyK (m+1))).length d,.int .i64 (dyE (m+1) q)]] W (DyO W (4*m+2) (q-2)):=by
  intro A B c d W ha hb'
  refine(ref06_mean A B m (m+1) c d q (two _ (by omega)) (two _ (by omega)) (by omega) (by omega) W ha hb').mono ?_
  intro e w' h
  have:=dyO_up (by omega) 1 h
  rw[show(m+(m+1))*2^1=4*m+2 by omega,show q-1-((1:Nat):Int)=q-2 by omega] at this
  exact this
 have hM4:∀A B c d W,Rd W A (limbs (dyK m3))→Rd W B (limbs (dyK m))→Calls Tryz.prog 72 #[.agg #[.bool false,.slice A (limbs (dyK m3)).length c,.int .i64 (dyE m3 q3)],.agg #[.bool false,.slice B (limbs (dyK m)).length d,.int .i64 (dyE m q)]] W (DyO W (loS st m) (q-2)):=by
  intro A B c d W ha hb'
  rcases ncs with ⟨hst,hm3,hq3⟩|⟨hst,hm3,hq3⟩
  · obtain⟨e1,e2⟩:=dy_up (q:=q) m0 1
    rw[e1] at hb' ⊢
    rw[hm3] at ha ⊢
    rw[e2,hq3,hst,show q-((1:Nat):Int)=q-1 by omega]
    refine(ref06_mean A B (2*m-1) (m*2^1) c d (q-1) (two _ (by omega)) (two _ (by omega)) (by omega) (by omega) W ha hb').mono ?_
    intro e w' h
    rw[show 2*m-1+m*2^1=4*m-1 by omega,show q-1-1=q-2 by omega] at h
    exact h
  · rw[hm3] at ha ⊢
    rw[hq3,hst]
    refine(ref06_mean A B (m-1) m c d q (two _ (by omega)) (two _ (by omega)) (by omega) m0 W ha hb').mono ?_
    intro e w' h
    have:=dyO_up (by omega) 1 h
    rw[show(m-1+m)*2^1=4*m-2 by omega,show q-1-((1:Nat):Int)=q-2 by omega] at this
    exact this
 have hl:loS st m≠0∧loS st m<18446744073709551616:=by
  unfold loS;split <;> omega
 have hR4:=fun A c W h=>ref06_ratio A (loS st m) c (q-2) hl.1 (two _ hl.2) (by omega) (by omega) W h
 have hR5:=fun A c W h=>ref06_ratio A (4*m+2) c (q-2) (by omega) (two _ (by omega)) (by omega) (by omega) W h
 exact reach_core E F b (2^(E+F)) (dyK m) (dyK (m+1)) (dyK m3) (dyK (loS st m)) (dyK (4*m+2)) _ _ _ _ (dyE m q) (dyE (m+1) q) (dyE m3 q3) (dyE (loS st m) (q-2)) (dyE (4*m+2) (q-2)) _ hb (by omega) hS64 rfl hFi hFn hHa hW1 hBe hW3 hM4 hM5 hR4 hR5 w
end Bg
namespace Bg
theorem digS_eq (m:Nat) (q P:Int) (inn:Bool) (lo:Nat):∀fuel n,digS m q P inn lo fuel n=digG (roundS m q P inn lo) P fuel n:=by
 intro fuel
 induction fuel with
 |zero=>intro n;rfl
 |succ k ih=>
  intro n
  rcases h:roundS m q P inn lo n with _|(_|x) <;> simp only[digS,digG,h,ih]
theorem round_eq (m:Nat) (q P:Int) (inn:Bool) (lo n:Nat):roundS m q P inn lo n=
 if ceilS inn (loE P n lo) (NS q P n)=ceilS inn (hiE P n lo) (NS q P n)∧floorS inn (loE P n (4*m+2)) (NS q P n)=floorS inn (hiE P n (4*m+2)) (NS q P n) then
   (if floorS inn (loE P n (4*m+2)) (NS q P n)<ceilS inn (loE P n lo) (NS q P n) then none
    else if nearS (loE P n (4*m)) (NS q P n)=nearS (hiE P n (4*m)) (NS q P n) then some (some (max (ceilS inn (loE P n lo) (NS q P n)) (min (floorS inn (loE P n (4*m+2)) (NS q P n)) (nearS (loE P n (4*m)) (NS q P n))))) else some none)
 else some none:=by
 unfold roundS someS
 split
 · split
   · rfl
   · by_cases h:nearS (loE P n (4*m)) (NS q P n)=nearS (hiE P n (4*m)) (NS q P n)
     · rw[if_pos h,if_pos h]
     · rw[if_neg h,if_neg h]
 · rfl
theorem ref19_digits_num (E F b X Y:Nat) (ng:Bool) (hE2:2≤E) (hE:E≤11) (hF1:1≤F) (hF:F≤52) (hb64:b<18446744073709551616) (hb:b<2^(1+E+F)) (hfit:Fo.fitS (E:Int) (F:Int) b=0) (hs:Fo.splitF E F b=(ng,X,Y)) (hX:X+1≠2^E) (hz:¬(X=0∧Y=0)) (P:Int) (hP:IsFirst (mF F X Y) (qF E F X) P) (hP1: -350≤P) (hP2:P<350) (w:World) (hT:Tz w):
 Calls Tryz.prog 9 #[.agg #[.int .i64 (E:Int),.int .i64 (F:Int)],.int .u64 (b:Int)] w (Says w (digV ng (digS (mF F X Y) (qF E F X) P (decide (mF F X Y%2=0)) (if stF X Y then 4*mF F X Y-1 else 4*mF F X Y-2) 17 1))):=by
 have hA:=fun W=>ref19_asked E F b X hE2 hE hF1 hF hb64 hb hfit (split_facts hb hs).1 W
 rw[if_neg hX] at hA
 obtain⟨m1,m2,q1,q2⟩:=num_bd hE2 hE hF1 hF hs hX hz
 obtain⟨-, -, hng,hX2,hY2,hz2⟩:=split_facts hb hs
 obtain⟨S,hS⟩:∃S,S=2^(E+F):=⟨_,rfl⟩
 rw[←hS] at hng hX2 hY2 hz2
 have hS0:0<S:=by rw[hS];exact Nat.two_pow_pos _
 have hSle:S≤9223372036854775808:=by rw[hS];exact Nat.le_trans (Nat.pow_le_pow_right (n:=2) (by decide) (by omega:E+F≤63)) (by decide)
 have hSn:=fun W=>ref19_sign E F b hE hF S hS W
 rw[←hng] at hSn
 have hSg:=fun W=>ref05_Sign E F hE hF S hS W
 obtain⟨bb,hbb⟩:∃bb,bb=b%S:=⟨_,rfl⟩
 rw[←hbb] at hX2 hY2 hz2
 have hbbS:bb<S:=by rw[hbb];exact Nat.mod_lt _ hS0
 have hb00:bb≠0:=fun h=>hz (hz2.1 h)
 have hpar:decide (bb%2=0)=decide (mF F X Y%2=0):=by rw[par_facts hF1 hY2]
 have hfb:Fo.fitS (E:Int) (F:Int) bb=0:=fit_in hE2 hE hF1 hF (Nat.lt_of_lt_of_le hbbS (by rw[hS];exact Nat.pow_le_pow_right (by decide) (by omega)))
 obtain⟨ng',hs'⟩:∃g,Fo.splitF E F bb=(g,X,Y):=⟨_,by unfold Fo.splitF;rw[←hX2, ←hY2]⟩
 have hcl:((Fo.classS (E:Int) (F:Int) bb).1:Int)≤3:=by
  have h1:(Fo.classS (E:Int) (F:Int) bb).1=Fo.classF E X Y:=by
   unfold Fo.classS;rw[if_pos hfb]
   unfold Fo.splitS;rw[if_pos hfb,Int.toNat_natCast,Int.toNat_natCast,hs']
  rw[h1]
  unfold Fo.classF
  rw[if_neg hX]
  split
  · split <;> decide
  · decide
 have hRe:=fun W=>ref06_reach E F bb X Y hE2 hE hF1 hF (by rw[←hS];exact hbbS) hb00 hX2 hY2 hX hfb ng' hs' hcl m1 m2 q1 q2 W
 rw[hpar] at hRe
 have hWo:∀W,Tz W→Calls Tryz.prog 19 #[.agg #[.int .i64 (E:Int),.int .i64 (F:Int)],.int .u64 (bb:Int)] W fun e w'=>∃y nn dd,e=.returned (.pointer (some ⟨y,0,none⟩))∧Rt w' y nn dd∧Frac nn dd (mF F X Y) (qF E F X)∧Below W.heap.size W w':=by
  intro W hW
  refine(ref05_Worth E F bb X Y S hE2 hE hF1 hF (by omega) hS hbbS hX2 hY2 hX hz W hW).mono ?_
  rintro e w' ⟨z,n,d,rfl, -, a,fr,hbw⟩
  exact⟨z,n,d,rfl,a,fr,hbw⟩
 have hlo:(if stF X Y then 4*mF F X Y-1 else 4*mF F X Y-2)=loS (stF X Y) (mF F X Y):=rfl
 rw[hlo,digS_eq]
 have hl:2*mF F X Y≤loS (stF X Y) (mF F X Y)∧loS (stF X Y) (mF F X Y)≤4*mF F X Y:=by
  unfold loS;split <;> omega
 clear hs hfit hng hz2 hpar hfb hs' hcl hX2 hY2 hz hX hlo
 generalize loS (stF X Y) (mF F X Y)=lo at*
 generalize mF F X Y=m at*
 generalize qF E F X=q at*
 obtain⟨inn,hinn⟩:∃inn,inn=decide (m%2=0):=⟨_,rfl⟩
 rw[←hinn] at hRe ⊢
 clear hinn
 obtain⟨l1,l2,l3,l4,l5,frl⟩:=rat_frac (lo:=lo) (q:=q-2) (by omega) (by omega) (by omega) (by omega)
 obtain⟨g1,g2,g3,g4,g5,frh⟩:=rat_frac (lo:=4*m+2) (q:=q-2) (by omega) (by omega) (by omega) (by omega)
 have hR4:=fun A c B d W hW h1 h2=>ref02_Rat A B (ratN lo (q-2)) (ratD lo (q-2)) c d l1 l2 l3 (by omega) (by omega) W hW h1 h2
 have hR5:=fun A c B d W hW h1 h2=>ref02_Rat A B (ratN (4*m+2) (q-2)) (ratD (4*m+2) (q-2)) c d g1 g2 g3 (by omega) (by omega) W hW h1 h2
 have hun:∀p:Int,underB m q p=decide (P<p):=fun p=>hP.iff p
 have hFt:∀y nn dd,Frac nn dd m q→∀W,Tz W→Rt W y nn dd→Calls Tryz.prog 20 #[.pointer (some ⟨y,0,none⟩)] W (Says W (.int .i64 P)):=by
  intro y nn dd fr W hW ry
  exact ref19_first y nn dd P (by have:=fr.ln;omega) fr.ld hP1 hP2 (fun p h1 h2=>by rw[fr.under,hun,decide_eq_true_iff]) W hW ry
 have hsc:∀n:Nat,1≤n→n≤17→(NS q P n:Int)= -(tenE (kS P n)+q-2)∧0<NS q P n∧(-370≤kS P n∧kS P n≤370)∧(P+1-(n:Int)= -(kS P n))∧(∀m',2*m≤m'→m'≤6*m→tenN (kS P n)*m'/2^NS q P n<1152921504606846976∧kB (kS P n)*m'/2^NS q P n<1152921504606846976∧tenN (kS P n)*m'≠0∧kB (kS P n)*m'≠0):=by
  intro n hn1 hn2
  have hk:kS P n=(n:Int)-1-P:=rfl
  have hf:farB (kS P n)=false:=by simp only[farB,Bool.or_eq_false_iff,decide_eq_false_iff_not];omega
  obtain⟨N,hN1,hN2,hN3,hok⟩:=scale_ok m1 m2 hP hn1 hn2 hk hf
  have hNS:NS q P n=N:=by unfold NS;omega
  rw[hNS]
  have e60:(2:Nat)^60=1152921504606846976:=rfl
  rw[e60] at hok
  exact⟨by omega,by omega,by omega,by omega,fun m' h1 h2=>by obtain⟨-, -, a,b,c,d⟩:=hok m' h1 h2;exact⟨a,b,c,d⟩⟩
 have hEl:∀n:Nat,1≤n→n≤17→∀y W,Tz W→Rt W y (ratN lo (q-2)/Nat.gcd (ratN lo (q-2)) (ratD lo (q-2))) (ratD lo (q-2)/Nat.gcd (ratN lo (q-2)) (ratD lo (q-2)))→Calls Tryz.prog 21 #[.pointer (some ⟨y,0,none⟩),.int .i64 (P+1-(n:Int))] W fun e w'=>∃z1 z2 n1 d1 n2 d2,e=.returned (.tuple #[.pointer (some ⟨z1,0,none⟩),.pointer (some ⟨z2,0,none⟩)])∧Rt w' z1 n1 d1∧Rt w' z2 n2 d2∧(∀U,Tz U→Rt U z1 n1 d1→Calls Tryz.prog 29 #[.pointer (some ⟨z1,0,none⟩),.bool inn] U (Makes U 95 [] false (ceilS inn (loE P n lo) (NS q P n))))∧(∀U,Tz U→Rt U z2 n2 d2→Calls Tryz.prog 29 #[.pointer (some ⟨z2,0,none⟩),.bool inn] U (Makes U 95 [] false (ceilS inn (hiE P n lo) (NS q P n))))∧Below W.heap.size W w':=by
  intro n hn1 hn2 y W hW ry
  obtain⟨c1,c2,c3,c4,c5⟩:=hsc n hn1 hn2
  obtain⟨u1,u2,u3,u4⟩:=c5 lo (by omega) (by omega)
  refine(ref19_ends y _ _ lo (q-2) frl (kS P n) (P+1-(n:Int)) c4 c3.1 c3.2 (NS q P n+2) (by omega) W hW ry).mono ?_
  rintro e w' ⟨z1,z2,n1,d1,n2,d2,rfl,a1,a2,s1,s2,hbw⟩
  exact⟨z1,z2,n1,d1,n2,d2,rfl,a1,a2,fun U _ h=>ref19_least z1 n1 d1 _ _ inn s1.quarter u1 U h,fun U _ h=>ref19_least z2 n2 d2 _ _ inn s2.quarter u2 U h,hbw⟩
 have hEh:∀n:Nat,1≤n→n≤17→∀y W,Tz W→Rt W y (ratN (4*m+2) (q-2)/Nat.gcd (ratN (4*m+2) (q-2)) (ratD (4*m+2) (q-2))) (ratD (4*m+2) (q-2)/Nat.gcd (ratN (4*m+2) (q-2)) (ratD (4*m+2) (q-2)))→Calls Tryz.prog 21 #[.pointer (some ⟨y,0,none⟩),.int .i64 (P+1-(n:Int))] W fun e w'=>∃z1 z2 n1 d1 n2 d2,e=.returned (.tuple #[.pointer (some ⟨z1,0,none⟩),.pointer (some ⟨z2,0,none⟩)])∧Rt w' z1 n1 d1∧Rt w' z2 n2 d2∧(∀U,Tz U→Rt U z1 n1 d1→Calls Tryz.prog 30 #[.pointer (some ⟨z1,0,none⟩),.bool inn] U (Makes U 95 [] false (floorS inn (loE P n (4*m+2)) (NS q P n))))∧(∀U,Tz U→Rt U z2 n2 d2→Calls Tryz.prog 30 #[.pointer (some ⟨z2,0,none⟩),.bool inn] U (Makes U 95 [] false (floorS inn (hiE P n (4*m+2)) (NS q P n))))∧Below W.heap.size W w':=by
  intro n hn1 hn2 y W hW ry
  obtain⟨c1,c2,c3,c4,c5⟩:=hsc n hn1 hn2
  obtain⟨u1,u2,u3,u4⟩:=c5 (4*m+2) (by omega) (by omega)
  refine(ref19_ends y _ _ (4*m+2) (q-2) frh (kS P n) (P+1-(n:Int)) c4 c3.1 c3.2 (NS q P n+2) (by omega) W hW ry).mono ?_
  rintro e w' ⟨z1,z2,n1,d1,n2,d2,rfl,a1,a2,s1,s2,hbw⟩
  exact⟨z1,z2,n1,d1,n2,d2,rfl,a1,a2,fun U _ h=>ref19_greatest z1 n1 d1 _ _ inn s1.quarter u1 u3 U h,fun U _ h=>ref19_greatest z2 n2 d2 _ _ inn s2.quarter u2 u4 U h,hbw⟩
 have l60:∀x:Nat,x<1152921504606846976→(limbs x).length<40:=fun x hx=>by have:=limbs_len2 (n:=x) (by omega);omega
 have hEv:∀y nn dd,Frac nn dd m q→∀n:Nat,1≤n→n≤17→∀W,Tz W→Rt W y nn dd→Calls Tryz.prog 21 #[.pointer (some ⟨y,0,none⟩),.int .i64 (P+1-(n:Int))] W fun e w'=>∃z1 z2 n1 d1 n2 d2,e=.returned (.tuple #[.pointer (some ⟨z1,0,none⟩),.pointer (some ⟨z2,0,none⟩)])∧Rt w' z1 n1 d1∧Rt w' z2 n2 d2∧(∀U,Tz U→Rt U z1 n1 d1→Calls Tryz.prog 22 #[.pointer (some ⟨z1,0,none⟩)] U (Makes U 95 [] false (nearS (loE P n (4*m)) (NS q P n))))∧(∀U,Tz U→Rt U z2 n2 d2→Calls Tryz.prog 22 #[.pointer (some ⟨z2,0,none⟩)] U (Makes U 95 [] false (nearS (hiE P n (4*m)) (NS q P n))))∧Below W.heap.size W w':=by
  intro y nn dd fr n hn1 hn2 W hW ry
  obtain⟨c1,c2,c3,c4,c5⟩:=hsc n hn1 hn2
  obtain⟨u1,u2,u3,u4⟩:=c5 (4*m) (by omega) (by omega)
  refine(ref19_ends y _ _ m q fr (kS P n) (P+1-(n:Int)) c4 c3.1 c3.2 (NS q P n) (by omega) W hW ry).mono ?_
  rintro e w' ⟨z1,z2,n1,d1,n2,d2,rfl,a1,a2,s1,s2,hbw⟩
  refine⟨z1,z2,n1,d1,n2,d2,rfl,a1,a2,fun U hU h=>?_,fun U hU h=>?_,hbw⟩
  · have e:rnd n1 d1=nearS (loE P n (4*m)) (NS q P n):=s1.rnd c2
    rw[←e]
    exact ref19_nearest z1 n1 d1 s1.ln s1.ld (by rw[s1.div];exact l60 _ u1) U hU h
  · have e:rnd n2 d2=nearS (hiE P n (4*m)) (NS q P n):=s2.rnd c2
    rw[←e]
    exact ref19_nearest z2 n2 d2 s2.ln s2.ld (by rw[s2.div];exact l60 _ u2) U hU h
 have hsm:∀n:Nat,1≤n→n≤17→ceilS inn (loE P n lo) (NS q P n)<18446744073709551616∧floorS inn (loE P n (4*m+2)) (NS q P n)<18446744073709551616∧nearS (loE P n (4*m)) (NS q P n)<18446744073709551616:=by
  intro n hn1 hn2
  obtain⟨c1,c2,c3,c4,c5⟩:=hsc n hn1 hn2
  have x1:=ceil_lt inn (c5 lo (by omega) (by omega)).1
  have x2:=floor_lt inn (c5 (4*m+2) (by omega) (by omega)).1
  have x3:=near_lt (c5 (4*m) (by omega) (by omega)).1
  exact⟨Nat.lt_trans x1 (by decide),Nat.lt_trans x2 (by decide),Nat.lt_trans x3 (by decide)⟩
 exact dig_core E F b bb S ng inn P (fun nn dd=>Frac nn dd m q) _ _ _ _ _ _ _ _ _ _ _ _ _ _ (roundS m q P inn lo) hP1 hP2 hS0 hbb hb00 hA hSn hSg hWo hRe hR4 hR5 hFt hEl hEh hEv hsm (fun n _ _=>round_eq m q P inn lo n) w hT
end Bg
namespace Bg
theorem ref19_digits_bad (e f:Int) (b:Nat) (hb64:b<18446744073709551616) (h:Fo.fitS e f b≠0) (w:World):
 Calls Tryz.prog 9 #[.agg #[.int .i64 e,.int .i64 f],.int .u64 (b:Int)] w (Says w (.tuple #[.agg #[.bool false,.string ⟨#[]⟩,.int .i64 0],.bool false,.int .i64 (Fo.fitS e f b)])):=by
 have hA:=fun W=>ref19_asked_bad e f b hb64 h W
 have hr2:(Fo.fitS e f b !=(0:Int))=true:=by simpa using h
 have hr3:(Fo.fitS e f b==(0:Int))=false:=by simpa using h
 generalize Fo.fitS e f b=r at*
 obtain⟨v0,hvv0,hv0,k1⟩:=Blk.al w 23 #[.int .i64 e,.int .i64 f]
 have hz0:v0.heap.size=w.heap.size+1:=by rw[hvv0];simp
 obtain⟨v1,hvv1,hv1,k2⟩:=Blk.al v0 26 #[.bool false,.string ⟨#[]⟩,.int .i64 0]
 replace k1:=k1.below hv1 k1.lt
 have hb0:=hv0.trans (hv1.mono hv0.size)
 go_enter Tryz.func9,Tryz.ntmps9
 go_upto_region 1 with fail
 rw[←hvv0]
 rw[hz0] at k2
 rw[←hvv1]
 clear hvv0 hvv1 hv0 hv1 hz0
 obtain⟨k1c0,k1c1,k1z, -⟩:=k1.b2
 obtain⟨k2c0,k2c1,k2c2,k2z,k2f0,k2f1,k2f2⟩:=k2.b3
 go_wp2_with fail
 clear k1c0 k1c1 k1z k2c0 k2f0 k2c1 k2f1 k2c2 k2f2 k2z
 refine(hA _).mono ?_
 rintro e w1 ⟨rfl,hb1⟩
 replace k1:=k1.below hb1 k1.lt
 replace k2:=k2.below hb1 k2.lt
 replace hb0:=hb0.trans (hb1.mono hb0.size)
 clear hb1
 obtain⟨k1c0,k1c1,k1z, -⟩:=k1.b2
 obtain⟨k2c0,k2c1,k2c2,k2z,k2f0,k2f1,k2f2⟩:=k2.b3
 go_wp2
 refine bodyPost_ret (v:=.tuple #[.agg #[.bool false,.string ⟨#[]⟩,.int .i64 0],.bool false,.int .i64 r]) ?_ rfl ⟨rfl,(bel3 hb0 (w.heap.size+1) (by simp))⟩
 refine results_cell_tmp2 rfl _ _ (w.heap.size+1) _ _ _ _ _ _ ?_ ?_ ?_ (((k2.set_ 0 _).set_ 1 _).set_ 2 _) Tryz.underlying26 rfl (by kernel_rfl)
 · rfl
 · rfl
 · rfl
theorem ref19_digits_far (E F b X Y:Nat) (ng:Bool) (hE2:2≤E) (hE:E≤11) (hF1:1≤F) (hF:F≤52) (hb64:b<18446744073709551616) (hb:b<2^(1+E+F)) (hfit:Fo.fitS (E:Int) (F:Int) b=0) (hs:Fo.splitF E F b=(ng,X,Y)) (hX:X+1=2^E) (w:World):
 Calls Tryz.prog 9 #[.agg #[.int .i64 (E:Int),.int .i64 (F:Int)],.int .u64 (b:Int)] w (Says w (.tuple #[.agg #[.bool false,.string ⟨#[]⟩,.int .i64 0],.bool false,.int .i64 8])):=by
 have hA:=fun W=>ref19_asked E F b X hE2 hE hF1 hF hb64 hb hfit (split_facts hb hs).1 W
 rw[if_pos hX] at hA
 clear hb hs hfit hX
 obtain⟨v0,hvv0,hv0,k1⟩:=Blk.al w 23 #[.int .i64 (E:Int),.int .i64 (F:Int)]
 have hz0:v0.heap.size=w.heap.size+1:=by rw[hvv0];simp
 obtain⟨v1,hvv1,hv1,k2⟩:=Blk.al v0 26 #[.bool false,.string ⟨#[]⟩,.int .i64 0]
 replace k1:=k1.below hv1 k1.lt
 have hb0:=hv0.trans (hv1.mono hv0.size)
 go_enter Tryz.func9,Tryz.ntmps9
 go_upto_region 1 with fail
 rw[←hvv0]
 rw[hz0] at k2
 rw[←hvv1]
 clear hvv0 hvv1 hv0 hv1 hz0
 obtain⟨k1c0,k1c1,k1z, -⟩:=k1.b2
 obtain⟨k2c0,k2c1,k2c2,k2z,k2f0,k2f1,k2f2⟩:=k2.b3
 go_wp2_with fail
 clear k1c0 k1c1 k1z k2c0 k2f0 k2c1 k2f1 k2c2 k2f2 k2z
 refine(hA _).mono ?_
 rintro e w1 ⟨rfl,hb1⟩
 replace k1:=k1.below hb1 k1.lt
 replace k2:=k2.below hb1 k2.lt
 replace hb0:=hb0.trans (hb1.mono hb0.size)
 clear hb1
 obtain⟨k1c0,k1c1,k1z, -⟩:=k1.b2
 obtain⟨k2c0,k2c1,k2c2,k2z,k2f0,k2f1,k2f2⟩:=k2.b3
 go_wp2
 refine bodyPost_ret (v:=.tuple #[.agg #[.bool false,.string ⟨#[]⟩,.int .i64 0],.bool false,.int .i64 8]) ?_ rfl ⟨rfl,(bel3 hb0 (w.heap.size+1) (by simp))⟩
 refine results_cell_tmp2 rfl _ _ (w.heap.size+1) _ _ _ _ _ _ ?_ ?_ ?_ (((k2.set_ 0 _).set_ 1 _).set_ 2 _) Tryz.underlying26 rfl (by kernel_rfl)
 · rfl
 · rfl
 · rfl
theorem ref19_digits_nought (E F b X Y:Nat) (ng:Bool) (hE2:2≤E) (hE:E≤11) (hF1:1≤F) (hF:F≤52) (hb64:b<18446744073709551616) (hb:b<2^(1+E+F)) (hfit:Fo.fitS (E:Int) (F:Int) b=0) (hs:Fo.splitF E F b=(ng,X,Y)) (hX:X+1≠2^E) (hX0:X=0) (hY0:Y=0) (w:World):
 Calls Tryz.prog 9 #[.agg #[.int .i64 (E:Int),.int .i64 (F:Int)],.int .u64 (b:Int)] w (Says w (.tuple #[.agg #[.bool ng,.string ⟨#[]⟩,.int .i64 0],.bool true,.int .i64 0])):=by
 have hA:=fun W=>ref19_asked E F b X hE2 hE hF1 hF hb64 hb hfit (split_facts hb hs).1 W
 rw[if_neg hX] at hA
 obtain⟨-, -, hng,hX2,hY2,hz2⟩:=split_facts hb hs
 obtain⟨S,hS⟩:∃S,S=2^(E+F):=⟨_,rfl⟩
 rw[←hS] at hng hz2
 have hS0:0<S:=by rw[hS];exact Nat.two_pow_pos _
 have hSle:S≤9223372036854775808:=by rw[hS];exact Nat.le_trans (Nat.pow_le_pow_right (n:=2) (by decide) (by omega:E+F≤63)) (by decide)
 have hSn:=fun W=>ref19_sign E F b hE hF S hS W
 rw[←hng] at hSn
 have hSg:=fun W=>ref05_Sign E F hE hF S hS W
 have hSnz:¬S=0:=by omega
 have hSi:((S:Int)==0)=false:=by rw[beq_eq_false_iff_ne];omega
 have hbn:b%S=0:=hz2.2 ⟨hX0,hY0⟩
 have hbm:(b:Int)%(S:Int)=((0:Nat):Int):=by rw[←hbn];rfl
 clear hb hs hfit hX hng hX2 hY2 hz2 hS hX0 hY0
 obtain⟨v0,hvv0,hv0,k1⟩:=Blk.al w 23 #[.int .i64 (E:Int),.int .i64 (F:Int)]
 have hz0:v0.heap.size=w.heap.size+1:=by rw[hvv0];simp
 obtain⟨v1,hvv1,hv1,k2⟩:=Blk.al v0 26 #[.bool false,.string ⟨#[]⟩,.int .i64 0]
 replace k1:=k1.below hv1 k1.lt
 have hb0:=hv0.trans (hv1.mono hv0.size)
 go_enter Tryz.func9,Tryz.ntmps9
 go_upto_region 1 with fail
 rw[←hvv0]
 rw[hz0] at k2
 rw[←hvv1]
 clear hvv0 hvv1 hv0 hv1 hz0
 obtain⟨k1c0,k1c1,k1z, -⟩:=k1.b2
 obtain⟨k2c0,k2c1,k2c2,k2z,k2f0,k2f1,k2f2⟩:=k2.b3
 go_wp2_with fail
 clear k1c0 k1c1 k1z k2c0 k2f0 k2c1 k2f1 k2c2 k2f2 k2z
 refine(hA _).mono ?_
 rintro e w1 ⟨rfl,hb1⟩
 replace k1:=k1.below hb1 k1.lt
 replace k2:=k2.below hb1 k2.lt
 replace hb0:=hb0.trans (hb1.mono hb0.size)
 clear hb1
 obtain⟨k1c0,k1c1,k1z, -⟩:=k1.b2
 obtain⟨k2c0,k2c1,k2c2,k2z,k2f0,k2f1,k2f2⟩:=k2.b3
 go_wp2_with fail
 clear k1c0 k1c1 k1z k2c0 k2f0 k2c1 k2f1 k2c2 k2f2 k2z
 refine(hSn _).mono ?_
 rintro e w2 ⟨rfl,hb2⟩
 replace k1:=k1.below hb2 k1.lt
 replace k2:=k2.below hb2 k2.lt
 replace hb0:=hb0.trans (hb2.mono hb0.size)
 clear hb2
 obtain⟨k1c0,k1c1,k1z, -⟩:=k1.b2
 obtain⟨k2c0,k2c1,k2c2,k2z,k2f0,k2f1,k2f2⟩:=k2.b3
 go_wp2_with fail
 clear k1c0 k1c1 k1z k2c0 k2f0 k2c1 k2f1 k2c2 k2f2 k2z
 refine(hSg _).mono ?_
 rintro e w3 ⟨rfl,hb3⟩
 replace k1:=k1.below hb3 k1.lt
 replace k2:=k2.below hb3 k2.lt
 replace hb0:=hb0.trans (hb3.mono hb0.size)
 clear hb3
 obtain⟨k1c0,k1c1,k1z, -⟩:=k1.b2
 obtain⟨k2c0,k2c1,k2c2,k2z,k2f0,k2f1,k2f2⟩:=k2.b3
 go_wp2
 refine bodyPost_ret (v:=.tuple #[.agg #[.bool ng,.string ⟨#[]⟩,.int .i64 0],.bool true,.int .i64 0]) ?_ rfl ⟨rfl,(bel3 hb0 (w.heap.size+1) (by simp))⟩
 refine results_cell_tmp2 rfl _ _ (w.heap.size+1) _ _ _ _ _ _ ?_ ?_ ?_ (((k2.set_ 0 _).set_ 1 _).set_ 2 _) Tryz.underlying26 rfl (by kernel_rfl)
 · rfl
 · rfl
 · rfl
end Bg
namespace Bg
theorem digits_walk (e f:Int) (b:Nat) (hb64:b<18446744073709551616) (w:World) (hT:Tab5 w) (hU:TabU w) (hZ:Tz w):
 Calls Tryz.prog 4 #[.agg #[.int .i64 e,.int .i64 f],.int .u64 (b:Int)] w (Says w (.bool true)):=by
 by_cases hfit:Fo.fitS e f b=0
 · obtain⟨E,F,rfl,rfl,hE1,hE2,hF1,hF2,hb⟩:=Fo.fit_ok hfit
   obtain⟨⟨ng,X,Y⟩,hs⟩:∃z,Fo.splitF E F b=z:=⟨_,rfl⟩
   by_cases hX:X+1=2^E
   · have hO:=fun W=>open_far hE1 hE2 hF1 hF2 hb hs hX W
     exact law_digits _ _ b false false ⟨#[]⟩ 0 8 (fun W _ _=>digits_no _ _ b _ _ _ _ _ _ hO W) (fun W _=>ref19_digits_far E F b X Y ng hE1 hE2 hF1 hF2 hb64 hb hfit hs hX W) w hT hU hZ
   · by_cases hz:X=0∧Y=0
     · obtain⟨rfl,rfl⟩:=hz
       have hO:=fun W=>open_nought hE1 hE2 hF1 hF2 hb hs W
       exact law_digits _ _ b ng true ⟨#[]⟩ 0 0 (fun W _ _=>digits_no _ _ b _ _ _ _ _ _ hO W) (fun W _=>ref19_digits_nought E F b 0 0 ng hE1 hE2 hF1 hF2 hb64 hb hfit hs hX rfl rfl W) w hT hU hZ
     · obtain⟨b1,b2,b3,b4⟩:=num_bd hE1 hE2 hF1 hF2 hs hX hz
       obtain⟨P,hP,hP1,hP2⟩:=first_form b1 b2 b3 b4
       have hA:=fun W hT hU=>dig_num hE1 hE2 hF1 hF2 hb hs hX hz hP hP1 hP2 W hT hU
       have hB:=fun W hZ=>ref19_digits_num E F b X Y ng hE1 hE2 hF1 hF2 hb64 hb hfit hs hX hz P hP hP1 hP2 W hZ
       generalize digS (mF F X Y) (qF E F X) P (decide (mF F X Y%2=0)) (if stF X Y then 4*mF F X Y-1 else 4*mF F X Y-2) 17 1=A at hA hB
       rcases A with _|⟨x,s⟩
       · exact law_digits _ _ b _ _ _ _ _ hA hB w hT hU hZ
       · exact law_digits _ _ b _ _ _ _ _ hA hB w hT hU hZ
 · have hO:=fun W=>open_bad hb64 hfit W
   have hr:(Fo.fitS e f b==0)=false:=by simpa using hfit
   have hA:=fun W=>digits_no _ _ b _ _ _ _ _ _ hO W
   rw[hr] at hA
   exact law_digits _ _ b _ _ _ _ _ (fun W _ _=>hA W) (fun W _=>ref19_digits_bad e f b hb64 hfit W) w hT hU hZ
end Bg
end Go.Proofs.YtenekbfnlbipiaaGreatDoor
