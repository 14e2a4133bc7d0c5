/- Walks: layer 5: a float's worth. -/
import Derived.Test.YtenekbfnlbipiaaGreatDoorBgAE
import Derived.Test.YtenekbfnlbipiaaGreatDoorBgAF
import Derived.Test.YtenekbfnlbipiaaGreatDoorSuN
import Derived.Test.YtenekbfnlbipiaaGreatDoorSuQ
import Derived.Test.YtenekbfnlbipiaaGreatDoorSuF
import Derived.Test.YtenekbfnlbipiaaGreatDoorBgAN
import Derived.Test.YtenekbfnlbipiaaGreatDoorBgAB
namespace Go.Proofs.YtenekbfnlbipiaaGreatDoor
open Go.RowKit
set_option linter.unusedVariables false
set_option linter.unusedSimpArgs false
set_option maxHeartbeats 4000000
set_option maxRecDepth 100000
namespace Bg
theorem ref05_Worth_small (E F b Y S H k:Nat) (hE2:2≤E) (hE:E≤11) (hF1:1≤F) (hF:F≤52) (hb64:b<18446744073709551616) (hS0:S=2^(E+F)) (hbS:b<S) (hH:H=2^(E-1)) (X:Nat) (hX:X=b/2^F%2^E) (hY:Y=b%2^F) (hX0:X=0) (hk:k+2=H+F)
 (FF:Fit Y 1 1 (2^k)) (w:World) (hT:Tz w):
 Calls Tryz.prog 19 #[.agg #[.int .i64 (E:Int),.int .i64 (F:Int)],.int .u64 (b:Int)] w (RMakes w (prodN Y 1 1 (2^k)) (prodD Y 1 1 (2^k))):=by
 have hS:=fun W=>ref05_Sign E F hE hF S hS0 W
 have hBs:=fun W=>ref05_Bias E F hE2 hE W
 rw[←hH] at hBs
 have hsl:decide ((S:Int)≤(b:Int))=false:=by simp;omega
 have hsl2:decide (S≤b)=false:=by simp;omega
 have eQ:=u64_two (k:=F) (by omega)
 have eP:=u64_two (k:=E) (by omega)
 obtain⟨Q,hQ⟩:∃Q,Q=2^F:=⟨_,rfl⟩
 obtain⟨P,hP⟩:∃P,P=2^E:=⟨_,rfl⟩
 have hQ0:0<Q:=by rw[hQ];exact Nat.two_pow_pos F
 have hP0:0<P:=by rw[hP];exact Nat.two_pow_pos E
 have hQle:Q≤4503599627370496:=by rw[hQ];exact Nat.pow_le_pow_right (n:=2) (by decide) hF
 have hPle:P≤2048:=by rw[hP];exact Nat.le_trans (Nat.pow_le_pow_right (by decide) hE) (by decide)
 have hHle:H≤1024:=by rw[hH];exact Nat.le_trans (Nat.pow_le_pow_right (by decide) (by omega:E-1≤10)) (by decide)
 have hH2:2≤H:=by rw[hH];exact Nat.pow_le_pow_right (n:=2) (i:=1) (by decide) (by omega)
 rw[←hQ] at eQ hY
 rw[←hP] at eP hX
 obtain⟨q,hq⟩:∃q,q=b/2^F:=⟨_,rfl⟩
 have hqe:(b:Int)/2^F=(q:Int):=by rw[hq];push_cast;rfl
 have hq64:q<18446744073709551616:=by rw[hq];exact Nat.lt_of_le_of_lt (Nat.div_le_self _ _) hb64
 rw[←hq] at hX
 have hXlt:X<P:=by rw[hX];exact Nat.mod_lt _ hP0
 have hYlt:Y<Q:=by rw[hY];exact Nat.mod_lt _ hQ0
 have hXm:(q:Int)%(P:Int)=(X:Int):=by rw[hX];rfl
 have hXn:q%P=X:=hX.symm
 have hYm:(b:Int)%(Q:Int)=(Y:Int):=by rw[hY];rfl
 have hYn:b%Q=Y:=hY.symm
 have hPn:¬P=0:=by omega
 have hQn:¬Q=0:=by omega
 have hPi:((P:Int)==0)=false:=by rw[beq_eq_false_iff_ne];omega
 have hQi:((Q:Int)==0)=false:=by rw[beq_eq_false_iff_ne];omega
 have hY64:Y<18446744073709551616:=by omega
 subst hX0
 have hM:=fun p=>rat_Mul (w.heap.size+1) (w.heap.size+1) p Y 1 1 (2^k) FF
 have hPw:=fun W=>ref05_power_neg k (by omega) (by omega) W
 rw[show -(k:Int)=IntKind.i64.wrap (IntKind.i64.wrap (1-((H:Int)-1))-(F:Int)) by simp only[IntKind.wrap_i64];omega] at hPw
 obtain⟨N1,hN1⟩:∃N1,N1=prodN Y 1 1 (2^k):=⟨_,rfl⟩
 obtain⟨D1,hD1⟩:∃D1,D1=prodD Y 1 1 (2^k):=⟨_,rfl⟩
 rw[←hN1, ←hD1] at hM ⊢
 generalize 2^k=K at*
 clear hN1 hD1 hX hY hQ hP hq hXlt hS0 hbS FF hH hk
 have k1:Blk (w.alloc (.cells #[.int .i64 (E:Int),.int .i64 (F:Int)] 23)) w.heap.size 23 #[.int .i64 (E:Int),.int .i64 (F:Int)]:=Blk.new w _ _
 have b1:Below w.heap.size w (w.alloc (.cells #[.int .i64 (E:Int),.int .i64 (F:Int)] 23)):=(Below.refl _ _).alloc nrf _
 obtain⟨w1,hw1⟩:∃w1,w1=w.alloc (.cells #[.int .i64 (E:Int),.int .i64 (F:Int)] 23):=⟨_,rfl⟩
 rw[←hw1] at k1 b1
 have e1:w1.heap.size=w.heap.size+1:=by rw[hw1];simp
 obtain⟨k1c0,k1c1,k1z, -⟩:=k1.b2
 have al2:Below w1.heap.size w1 (w1.alloc (.cells #[.bool false,.slice none 0 0,.slice none 0 0] 97)):=(Below.refl _ _).alloc nrf _
 have k2:RAt (w1.alloc (.cells #[.bool false,.slice none 0 0,.slice none 0 0] 97)) w1.heap.size:=⟨_,_,_,Blk.new w1 _ _⟩
 obtain⟨w2,hw2⟩:∃w2,w2=w1.alloc (.cells #[.bool false,.slice none 0 0,.slice none 0 0] 97):=⟨_,rfl⟩
 rw[←hw2] at al2 k2
 have e2:w2.heap.size=w1.heap.size+1:=by rw[hw2];simp
 have al3:Below w2.heap.size w2 (w2.alloc (.cells #[.bool false,.slice none 0 0] 95)):=(Below.refl _ _).alloc nrf _
 have k3:At (w2.alloc (.cells #[.bool false,.slice none 0 0] 95)) w2.heap.size 95 []:=⟨_,_,Blk.new w2 _ _⟩
 obtain⟨w3,hw3⟩:∃w3,w3=w2.alloc (.cells #[.bool false,.slice none 0 0] 95):=⟨_,rfl⟩
 rw[←hw3] at al3 k3
 rw[e2] at k3
 rw[e1] at k2 k3
 have k23:=k2.below al3
 have al:=al2.trans (al3.mono al2.size)
 have b3:=b1.trans (al.mono b1.size)
 have k13:=k1.below al k1.lt
 go_enter Tryz.func19,Tryz.ntmps19
 go_wp2_with fail
 rw[←hw1, ←hw2, ←hw3]
 clear hw1 hw2 hw3 e1 e2 al al2 al3 k2 k1 k1c0 k1c1 k1z
 refine(int_SetUint64 (w.heap.size+2) _ [] (by decide) Y hY64 _ k3).mono ?_
 rintro e w4 ⟨rfl,hh4,ho4⟩
 have k14:=hh4.blk k13 (show w.heap.size≠w.heap.size+2 by omega)
 have k24:=k23.hole (show w.heap.size+1≠w.heap.size+2 by omega) hh4
 have b4:=hole_fresh b3 hh4 (by omega)
 go_wp2_with fail
 refine(rat_SetInt (w.heap.size+1) (w.heap.size+2) _ [] Y _ k24 ho4).mono ?_
 rintro e w5 ⟨rfl,hh5,r5⟩
 have k15:=hh5.blk k14 (show w.heap.size≠w.heap.size+1 by omega)
 have b5:=hole_fresh b4 hh5 (by omega)
 clear hh4 hh5 ho4 k24 k14 k13 k23 k3 b4 b3 b1
 go_upto_region 5 with fail
 obtain⟨c0,c1,kz,f0,f1⟩:=k15.b2
 go_region_held3 (fun w'=>w'.cell? ⟨w.heap.size,0,none⟩=some (.int .i64 (E:Int))∧w'.cell? ⟨w.heap.size,1,none⟩=some (.int .i64 (F:Int)))
  (first|exact⟨c0,c1⟩|exact⟨a0,a1⟩|exact⟨p0,p1⟩|exact⟨m0,m1⟩|go_keep)
  (first
   |(go_at_call 49;(with_reducible refine(hBs _).mono ?_);rintro e wa ⟨rfl,ba'⟩;have ba:Below w5.heap.size w5 wa:=(Below.refl w5.heap.size w5).drew.trans ba';have a0:=cell_keep ba c0;have a1:=cell_keep ba c1)
   |(go_at_call 48;(with_reducible refine(hPw _).mono ?_);rintro e wp ⟨p,rfl,hp,rp,bp⟩;have p0:=cell_keep bp a0;have p1:=cell_keep bp a1)
   |(go_at_call 47;(with_reducible refine(hM p _ (hT.below ((b5.trans (ba.mono b5.size)).trans (bp.mono (b5.trans (ba.mono b5.size)).size))) ((r5.below ba).below bp).at_ ((r5.below ba).below bp) rp).mono ?_);rintro e wm ⟨rfl,hm,rm⟩;have m0:=hm.keep p0 (show w.heap.size≠w.heap.size+1 by omega);have m1:=hm.keep p1 (show w.heap.size≠w.heap.size+1 by omega)))
 all_goals (
  have kp:=(k15.below ba k15.lt).below bp (k15.below ba k15.lt).lt
  have km:=hm.blk kp (show w.heap.size≠w.heap.size+1 by omega)
  have bm:=hole_fresh ((b5.trans (ba.mono b5.size)).trans (bp.mono (b5.trans (ba.mono b5.size)).size)) hm (by omega)
  clear c0 c1 f0 f1 kz a0 a1 p0 p1 m0 m1
  obtain⟨c0,c1,kz, -⟩:=km.b2
  go_wp2_with fail
  refine(hS _).mono ?_
  rintro e ws ⟨rfl,bs⟩
  go_wp2
  go_ret
  exact⟨_,rfl,by omega,rm.below bs,bm.trans (bs.mono bm.size)⟩)
theorem sum_one {Y Q:Nat} (hQ:0<Q):sumN false Y 1 Q 1=Y+Q∧sumD false Y 1 Q 1=1∧sumA false Y 1 Q 1=Y+Q:=by
 have hA:sumA false Y 1 Q 1=Y+Q:=by
  unfold sumA
  rw[Nat.gcd_self]
  simp
 unfold sumN sumD
 rw[hA,Nat.gcd_self,Nat.gcd_one_right,if_neg (by omega),if_neg (by omega),Nat.div_one]
 exact⟨rfl,rfl,rfl⟩
theorem fit_one {Y Q:Nat} (hQ:0<Q) (hY:Y<4503599627370496) (hQ2:Q≤4503599627370496):FitA false Y 1 Q 1:=by
 have h2:∀v:Nat,v<9007199254740992→(limbs v).length≤2:=fun v hv=>limbs_two (by omega)
 have l1:=h2 Y (by omega)
 have l2:=h2 Q (by omega)
 have l3:=h2 (Y+Q) (by omega)
 have l4:(limbs 1).length≤2:=h2 1 (by decide)
 have hA:=(sum_one (Y:=Y) hQ).2.2
 exact⟨by decide,by decide,.inl tz_one,.inr (by rw[Nat.gcd_self];exact tz_one),by omega,by omega,by omega,by omega,by rw[hA];omega,.inl (by omega),.inl (by omega),.inl (by omega),fun h=>by cases h⟩
theorem ref05_Worth_pos (E F b Y S H k:Nat) (hE2:2≤E) (hE:E≤11) (hF1:1≤F) (hF:F≤52) (hb64:b<18446744073709551616) (hS0:S=2^(E+F)) (hbS:b<S) (hH:H=2^(E-1)) (X:Nat) (hX:X=b/2^F%2^E) (hY:Y=b%2^F) (hX0:X≠0) (hk:(k:Int)=(X:Int)-((H:Int)-1)-(F:Int)) (hk3:k≤3000)
 (FF:Fit (Y+2^F) 1 (2^k) 1) (w:World) (hT:Tz w):
 Calls Tryz.prog 19 #[.agg #[.int .i64 (E:Int),.int .i64 (F:Int)],.int .u64 (b:Int)] w (RMakes w (prodN (Y+2^F) 1 (2^k) 1) (prodD (Y+2^F) 1 (2^k) 1)):=by
 have hPF:=fun W=>ref05_power_pos F (by omega) W
 have hS:=fun W=>ref05_Sign E F hE hF S hS0 W
 have hBs:=fun W=>ref05_Bias E F hE2 hE W
 rw[←hH] at hBs
 have hsl:decide ((S:Int)≤(b:Int))=false:=by simp;omega
 have hsl2:decide (S≤b)=false:=by simp;omega
 have eQ:=u64_two (k:=F) (by omega)
 have eP:=u64_two (k:=E) (by omega)
 obtain⟨Q,hQ⟩:∃Q,Q=2^F:=⟨_,rfl⟩
 obtain⟨P,hP⟩:∃P,P=2^E:=⟨_,rfl⟩
 have hQ0:0<Q:=by rw[hQ];exact Nat.two_pow_pos F
 have hP0:0<P:=by rw[hP];exact Nat.two_pow_pos E
 have hQle:Q≤4503599627370496:=by rw[hQ];exact Nat.pow_le_pow_right (n:=2) (by decide) hF
 have hPle:P≤2048:=by rw[hP];exact Nat.le_trans (Nat.pow_le_pow_right (by decide) hE) (by decide)
 have hHle:H≤1024:=by rw[hH];exact Nat.le_trans (Nat.pow_le_pow_right (by decide) (by omega:E-1≤10)) (by decide)
 have hH2:2≤H:=by rw[hH];exact Nat.pow_le_pow_right (n:=2) (i:=1) (by decide) (by omega)
 rw[←hQ] at eQ hY
 rw[←hP] at eP hX
 obtain⟨q,hq⟩:∃q,q=b/2^F:=⟨_,rfl⟩
 have hqe:(b:Int)/2^F=(q:Int):=by rw[hq];push_cast;rfl
 have hq64:q<18446744073709551616:=by rw[hq];exact Nat.lt_of_le_of_lt (Nat.div_le_self _ _) hb64
 rw[←hq] at hX
 have hXlt:X<P:=by rw[hX];exact Nat.mod_lt _ hP0
 have hYlt:Y<Q:=by rw[hY];exact Nat.mod_lt _ hQ0
 have hXm:(q:Int)%(P:Int)=(X:Int):=by rw[hX];rfl
 have hXn:q%P=X:=hX.symm
 have hYm:(b:Int)%(Q:Int)=(Y:Int):=by rw[hY];rfl
 have hYn:b%Q=Y:=hY.symm
 have hPn:¬P=0:=by omega
 have hQn:¬Q=0:=by omega
 have hPi:((P:Int)==0)=false:=by rw[beq_eq_false_iff_ne];omega
 have hQi:((Q:Int)==0)=false:=by rw[beq_eq_false_iff_ne];omega
 have hY64:Y<18446744073709551616:=by omega
 rw[←hQ] at hPF FF ⊢
 have hXB:((X:Int)==0)=false:=by rw[beq_eq_false_iff_ne];omega
 have hA:=fun p=>rat_Add (w.heap.size+1) (w.heap.size+1) p Y 1 Q 1 (fit_one hQ0 (by omega) hQle)
 rw[(sum_one hQ0).1,(sum_one hQ0).2.1] at hA
 have hM:=fun p=>rat_Mul (w.heap.size+1) (w.heap.size+1) p (Y+Q) 1 (2^k) 1 FF
 have hPw:=fun W=>ref05_power_pos k (by omega) W
 rw[show(k:Int)=IntKind.i64.wrap (IntKind.i64.wrap ((X:Int)-((H:Int)-1))-(F:Int)) by simp only[IntKind.wrap_i64];omega] at hPw
 obtain⟨N1,hN1⟩:∃N1,N1=prodN (Y+Q) 1 (2^k) 1:=⟨_,rfl⟩
 obtain⟨D1,hD1⟩:∃D1,D1=prodD (Y+Q) 1 (2^k) 1:=⟨_,rfl⟩
 rw[←hN1, ←hD1] at hM ⊢
 generalize 2^k=K at*
 clear hN1 hD1 hX hY hQ hP hq hS0 FF hH hk hk3
 have k1:Blk (w.alloc (.cells #[.int .i64 (E:Int),.int .i64 (F:Int)] 23)) w.heap.size 23 #[.int .i64 (E:Int),.int .i64 (F:Int)]:=Blk.new w _ _
 have b1:Below w.heap.size w (w.alloc (.cells #[.int .i64 (E:Int),.int .i64 (F:Int)] 23)):=(Below.refl _ _).alloc nrf _
 obtain⟨w1,hw1⟩:∃w1,w1=w.alloc (.cells #[.int .i64 (E:Int),.int .i64 (F:Int)] 23):=⟨_,rfl⟩
 rw[←hw1] at k1 b1
 have e1:w1.heap.size=w.heap.size+1:=by rw[hw1];simp
 obtain⟨k1c0,k1c1,k1z, -⟩:=k1.b2
 have al2:Below w1.heap.size w1 (w1.alloc (.cells #[.bool false,.slice none 0 0,.slice none 0 0] 97)):=(Below.refl _ _).alloc nrf _
 have k2:RAt (w1.alloc (.cells #[.bool false,.slice none 0 0,.slice none 0 0] 97)) w1.heap.size:=⟨_,_,_,Blk.new w1 _ _⟩
 obtain⟨w2,hw2⟩:∃w2,w2=w1.alloc (.cells #[.bool false,.slice none 0 0,.slice none 0 0] 97):=⟨_,rfl⟩
 rw[←hw2] at al2 k2
 have e2:w2.heap.size=w1.heap.size+1:=by rw[hw2];simp
 have al3:Below w2.heap.size w2 (w2.alloc (.cells #[.bool false,.slice none 0 0] 95)):=(Below.refl _ _).alloc nrf _
 have k3:At (w2.alloc (.cells #[.bool false,.slice none 0 0] 95)) w2.heap.size 95 []:=⟨_,_,Blk.new w2 _ _⟩
 obtain⟨w3,hw3⟩:∃w3,w3=w2.alloc (.cells #[.bool false,.slice none 0 0] 95):=⟨_,rfl⟩
 rw[←hw3] at al3 k3
 rw[e2] at k3
 rw[e1] at k2 k3
 have k23:=k2.below al3
 have al:=al2.trans (al3.mono al2.size)
 have b3:=b1.trans (al.mono b1.size)
 have k13:=k1.below al k1.lt
 go_enter Tryz.func19,Tryz.ntmps19
 go_wp2_with fail
 rw[←hw1, ←hw2, ←hw3]
 clear hw1 hw2 hw3 e1 e2 al al2 al3 k2 k1 k1c0 k1c1 k1z
 refine(int_SetUint64 (w.heap.size+2) _ [] (by decide) Y hY64 _ k3).mono ?_
 rintro e w4 ⟨rfl,hh4,ho4⟩
 have k14:=hh4.blk k13 (show w.heap.size≠w.heap.size+2 by omega)
 have k24:=k23.hole (show w.heap.size+1≠w.heap.size+2 by omega) hh4
 have b4:=hole_fresh b3 hh4 (by omega)
 go_wp2_with fail
 refine(rat_SetInt (w.heap.size+1) (w.heap.size+2) _ [] Y _ k24 ho4).mono ?_
 rintro e w5 ⟨rfl,hh5,r5⟩
 have k15:=hh5.blk k14 (show w.heap.size≠w.heap.size+1 by omega)
 have b5:=hole_fresh b4 hh5 (by omega)
 clear hh4 hh5 ho4 k24 k14 k13 k23 k3 b4 b3 b1
 obtain⟨c0,c1,kz, -⟩:=k15.b2
 go_wp2_with fail
 refine(hPF _).mono ?_
 rintro e w6 ⟨pf,rfl,hpf,rpf,bpf⟩
 have k16:=k15.below bpf k15.lt
 have b6:=b5.trans (bpf.mono b5.size)
 have r6:=r5.below bpf
 clear c0 c1 kz
 go_wp2_with fail
 refine(hA pf _ (hT.below b6) r6.at_ r6 rpf).mono ?_
 rintro e w7 ⟨rfl,hh7,r7⟩
 have k17:=hh7.blk k16 (show w.heap.size≠w.heap.size+1 by omega)
 have b7:=hole_fresh b6 hh7 (by omega)
 clear hh7 r6 k16 b6 bpf r5 k15 b5 rpf
 go_upto_region 7 with fail
 obtain⟨c0,c1,kz,f0,f1⟩:=k17.b2
 go_region_held3 (fun w'=>w'.cell? ⟨w.heap.size,0,none⟩=some (.int .i64 (E:Int))∧w'.cell? ⟨w.heap.size,1,none⟩=some (.int .i64 (F:Int)))
  (first|exact⟨c0,c1⟩|exact⟨a0,a1⟩|exact⟨p0,p1⟩|exact⟨m0,m1⟩|go_keep)
  (first
   |(go_at_call 49;(with_reducible refine(hBs _).mono ?_);rintro e wa ⟨rfl,ba'⟩;have ba:Below w7.heap.size w7 wa:=(Below.refl w7.heap.size w7).drew.trans ba';have a0:=cell_keep ba c0;have a1:=cell_keep ba c1)
   |(go_at_call 48;(with_reducible refine(hPw _).mono ?_);rintro e wp ⟨p,rfl,hp,rp,bp⟩;have p0:=cell_keep bp a0;have p1:=cell_keep bp a1)
   |(go_at_call 47;(with_reducible refine(hM p _ (hT.below ((b7.trans (ba.mono b7.size)).trans (bp.mono (b7.trans (ba.mono b7.size)).size))) ((r7.below ba).below bp).at_ ((r7.below ba).below bp) rp).mono ?_);rintro e wm ⟨rfl,hm,rm⟩;have m0:=hm.keep p0 (show w.heap.size≠w.heap.size+1 by omega);have m1:=hm.keep p1 (show w.heap.size≠w.heap.size+1 by omega)))
 all_goals (
  have kp:=(k17.below ba k17.lt).below bp (k17.below ba k17.lt).lt
  have km:=hm.blk kp (show w.heap.size≠w.heap.size+1 by omega)
  have bm:=hole_fresh ((b7.trans (ba.mono b7.size)).trans (bp.mono (b7.trans (ba.mono b7.size)).size)) hm (by omega)
  clear c0 c1 f0 f1 kz a0 a1 p0 p1 m0 m1
  obtain⟨c0,c1,kz, -⟩:=km.b2
  go_wp2_with fail
  refine(hS _).mono ?_
  rintro e ws ⟨rfl,bs⟩
  go_wp2
  go_ret
  exact⟨_,rfl,by omega,rm.below bs,bm.trans (bs.mono bm.size)⟩)
theorem ref05_Worth_neg (E F b Y S H k:Nat) (hE2:2≤E) (hE:E≤11) (hF1:1≤F) (hF:F≤52) (hb64:b<18446744073709551616) (hS0:S=2^(E+F)) (hbS:b<S) (hH:H=2^(E-1)) (X:Nat) (hX:X=b/2^F%2^E) (hY:Y=b%2^F) (hX0:X≠0) (hk: -(k:Int)=(X:Int)-((H:Int)-1)-(F:Int)) (hk0:0<k) (hk3:k≤3000)
 (FF:Fit (Y+2^F) 1 1 (2^k)) (w:World) (hT:Tz w):
 Calls Tryz.prog 19 #[.agg #[.int .i64 (E:Int),.int .i64 (F:Int)],.int .u64 (b:Int)] w (RMakes w (prodN (Y+2^F) 1 1 (2^k)) (prodD (Y+2^F) 1 1 (2^k))):=by
 have hPF:=fun W=>ref05_power_pos F (by omega) W
 have hS:=fun W=>ref05_Sign E F hE hF S hS0 W
 have hBs:=fun W=>ref05_Bias E F hE2 hE W
 rw[←hH] at hBs
 have hsl:decide ((S:Int)≤(b:Int))=false:=by simp;omega
 have hsl2:decide (S≤b)=false:=by simp;omega
 have eQ:=u64_two (k:=F) (by omega)
 have eP:=u64_two (k:=E) (by omega)
 obtain⟨Q,hQ⟩:∃Q,Q=2^F:=⟨_,rfl⟩
 obtain⟨P,hP⟩:∃P,P=2^E:=⟨_,rfl⟩
 have hQ0:0<Q:=by rw[hQ];exact Nat.two_pow_pos F
 have hP0:0<P:=by rw[hP];exact Nat.two_pow_pos E
 have hQle:Q≤4503599627370496:=by rw[hQ];exact Nat.pow_le_pow_right (n:=2) (by decide) hF
 have hPle:P≤2048:=by rw[hP];exact Nat.le_trans (Nat.pow_le_pow_right (by decide) hE) (by decide)
 have hHle:H≤1024:=by rw[hH];exact Nat.le_trans (Nat.pow_le_pow_right (by decide) (by omega:E-1≤10)) (by decide)
 have hH2:2≤H:=by rw[hH];exact Nat.pow_le_pow_right (n:=2) (i:=1) (by decide) (by omega)
 rw[←hQ] at eQ hY
 rw[←hP] at eP hX
 obtain⟨q,hq⟩:∃q,q=b/2^F:=⟨_,rfl⟩
 have hqe:(b:Int)/2^F=(q:Int):=by rw[hq];push_cast;rfl
 have hq64:q<18446744073709551616:=by rw[hq];exact Nat.lt_of_le_of_lt (Nat.div_le_self _ _) hb64
 rw[←hq] at hX
 have hXlt:X<P:=by rw[hX];exact Nat.mod_lt _ hP0
 have hYlt:Y<Q:=by rw[hY];exact Nat.mod_lt _ hQ0
 have hXm:(q:Int)%(P:Int)=(X:Int):=by rw[hX];rfl
 have hXn:q%P=X:=hX.symm
 have hYm:(b:Int)%(Q:Int)=(Y:Int):=by rw[hY];rfl
 have hYn:b%Q=Y:=hY.symm
 have hPn:¬P=0:=by omega
 have hQn:¬Q=0:=by omega
 have hPi:((P:Int)==0)=false:=by rw[beq_eq_false_iff_ne];omega
 have hQi:((Q:Int)==0)=false:=by rw[beq_eq_false_iff_ne];omega
 have hY64:Y<18446744073709551616:=by omega
 rw[←hQ] at hPF FF ⊢
 have hXB:((X:Int)==0)=false:=by rw[beq_eq_false_iff_ne];omega
 have hA:=fun p=>rat_Add (w.heap.size+1) (w.heap.size+1) p Y 1 Q 1 (fit_one hQ0 (by omega) hQle)
 rw[(sum_one hQ0).1,(sum_one hQ0).2.1] at hA
 have hM:=fun p=>rat_Mul (w.heap.size+1) (w.heap.size+1) p (Y+Q) 1 1 (2^k) FF
 have hPw:=fun W=>ref05_power_neg k (by omega) (by omega) W
 rw[show -(k:Int)=IntKind.i64.wrap (IntKind.i64.wrap ((X:Int)-((H:Int)-1))-(F:Int)) by simp only[IntKind.wrap_i64];omega] at hPw
 obtain⟨N1,hN1⟩:∃N1,N1=prodN (Y+Q) 1 1 (2^k):=⟨_,rfl⟩
 obtain⟨D1,hD1⟩:∃D1,D1=prodD (Y+Q) 1 1 (2^k):=⟨_,rfl⟩
 rw[←hN1, ←hD1] at hM ⊢
 generalize 2^k=K at*
 clear hN1 hD1 hX hY hQ hP hq hS0 FF hH hk hk3
 have k1:Blk (w.alloc (.cells #[.int .i64 (E:Int),.int .i64 (F:Int)] 23)) w.heap.size 23 #[.int .i64 (E:Int),.int .i64 (F:Int)]:=Blk.new w _ _
 have b1:Below w.heap.size w (w.alloc (.cells #[.int .i64 (E:Int),.int .i64 (F:Int)] 23)):=(Below.refl _ _).alloc nrf _
 obtain⟨w1,hw1⟩:∃w1,w1=w.alloc (.cells #[.int .i64 (E:Int),.int .i64 (F:Int)] 23):=⟨_,rfl⟩
 rw[←hw1] at k1 b1
 have e1:w1.heap.size=w.heap.size+1:=by rw[hw1];simp
 obtain⟨k1c0,k1c1,k1z, -⟩:=k1.b2
 have al2:Below w1.heap.size w1 (w1.alloc (.cells #[.bool false,.slice none 0 0,.slice none 0 0] 97)):=(Below.refl _ _).alloc nrf _
 have k2:RAt (w1.alloc (.cells #[.bool false,.slice none 0 0,.slice none 0 0] 97)) w1.heap.size:=⟨_,_,_,Blk.new w1 _ _⟩
 obtain⟨w2,hw2⟩:∃w2,w2=w1.alloc (.cells #[.bool false,.slice none 0 0,.slice none 0 0] 97):=⟨_,rfl⟩
 rw[←hw2] at al2 k2
 have e2:w2.heap.size=w1.heap.size+1:=by rw[hw2];simp
 have al3:Below w2.heap.size w2 (w2.alloc (.cells #[.bool false,.slice none 0 0] 95)):=(Below.refl _ _).alloc nrf _
 have k3:At (w2.alloc (.cells #[.bool false,.slice none 0 0] 95)) w2.heap.size 95 []:=⟨_,_,Blk.new w2 _ _⟩
 obtain⟨w3,hw3⟩:∃w3,w3=w2.alloc (.cells #[.bool false,.slice none 0 0] 95):=⟨_,rfl⟩
 rw[←hw3] at al3 k3
 rw[e2] at k3
 rw[e1] at k2 k3
 have k23:=k2.below al3
 have al:=al2.trans (al3.mono al2.size)
 have b3:=b1.trans (al.mono b1.size)
 have k13:=k1.below al k1.lt
 go_enter Tryz.func19,Tryz.ntmps19
 go_wp2_with fail
 rw[←hw1, ←hw2, ←hw3]
 clear hw1 hw2 hw3 e1 e2 al al2 al3 k2 k1 k1c0 k1c1 k1z
 refine(int_SetUint64 (w.heap.size+2) _ [] (by decide) Y hY64 _ k3).mono ?_
 rintro e w4 ⟨rfl,hh4,ho4⟩
 have k14:=hh4.blk k13 (show w.heap.size≠w.heap.size+2 by omega)
 have k24:=k23.hole (show w.heap.size+1≠w.heap.size+2 by omega) hh4
 have b4:=hole_fresh b3 hh4 (by omega)
 go_wp2_with fail
 refine(rat_SetInt (w.heap.size+1) (w.heap.size+2) _ [] Y _ k24 ho4).mono ?_
 rintro e w5 ⟨rfl,hh5,r5⟩
 have k15:=hh5.blk k14 (show w.heap.size≠w.heap.size+1 by omega)
 have b5:=hole_fresh b4 hh5 (by omega)
 clear hh4 hh5 ho4 k24 k14 k13 k23 k3 b4 b3 b1
 obtain⟨c0,c1,kz, -⟩:=k15.b2
 go_wp2_with fail
 refine(hPF _).mono ?_
 rintro e w6 ⟨pf,rfl,hpf,rpf,bpf⟩
 have k16:=k15.below bpf k15.lt
 have b6:=b5.trans (bpf.mono b5.size)
 have r6:=r5.below bpf
 clear c0 c1 kz
 go_wp2_with fail
 refine(hA pf _ (hT.below b6) r6.at_ r6 rpf).mono ?_
 rintro e w7 ⟨rfl,hh7,r7⟩
 have k17:=hh7.blk k16 (show w.heap.size≠w.heap.size+1 by omega)
 have b7:=hole_fresh b6 hh7 (by omega)
 clear hh7 r6 k16 b6 bpf r5 k15 b5 rpf
 go_upto_region 7 with fail
 obtain⟨c0,c1,kz,f0,f1⟩:=k17.b2
 go_region_held3 (fun w'=>w'.cell? ⟨w.heap.size,0,none⟩=some (.int .i64 (E:Int))∧w'.cell? ⟨w.heap.size,1,none⟩=some (.int .i64 (F:Int)))
  (first|exact⟨c0,c1⟩|exact⟨a0,a1⟩|exact⟨p0,p1⟩|exact⟨m0,m1⟩|go_keep)
  (first
   |(go_at_call 49;(with_reducible refine(hBs _).mono ?_);rintro e wa ⟨rfl,ba'⟩;have ba:Below w7.heap.size w7 wa:=(Below.refl w7.heap.size w7).drew.trans ba';have a0:=cell_keep ba c0;have a1:=cell_keep ba c1)
   |(go_at_call 48;(with_reducible refine(hPw _).mono ?_);rintro e wp ⟨p,rfl,hp,rp,bp⟩;have p0:=cell_keep bp a0;have p1:=cell_keep bp a1)
   |(go_at_call 47;(with_reducible refine(hM p _ (hT.below ((b7.trans (ba.mono b7.size)).trans (bp.mono (b7.trans (ba.mono b7.size)).size))) ((r7.below ba).below bp).at_ ((r7.below ba).below bp) rp).mono ?_);rintro e wm ⟨rfl,hm,rm⟩;have m0:=hm.keep p0 (show w.heap.size≠w.heap.size+1 by omega);have m1:=hm.keep p1 (show w.heap.size≠w.heap.size+1 by omega)))
 all_goals (
  have kp:=(k17.below ba k17.lt).below bp (k17.below ba k17.lt).lt
  have km:=hm.blk kp (show w.heap.size≠w.heap.size+1 by omega)
  have bm:=hole_fresh ((b7.trans (ba.mono b7.size)).trans (bp.mono (b7.trans (ba.mono b7.size)).size)) hm (by omega)
  clear c0 c1 f0 f1 kz a0 a1 p0 p1 m0 m1
  obtain⟨c0,c1,kz, -⟩:=km.b2
  go_wp2_with fail
  refine(hS _).mono ?_
  rintro e ws ⟨rfl,bs⟩
  go_wp2
  go_ret
  exact⟨_,rfl,by omega,rm.below bs,bm.trans (bs.mono bm.size)⟩)
end Bg
def mF (F X Y:Nat):Nat:=if X=0 then Y else Y+2^F
def qF (E F X:Nat):Int:=2-((2^(E-1):Nat):Int)-(F:Int)+(if X=0 then 0 else (X:Int)-1)
def stF (X Y:Nat):Bool:=decide (1<X)&&decide (Y=0)
theorem num_bd {E F b X Y:Nat} {ng:Bool} (hE1:2≤E) (hE2:E≤11) (hF1:1≤F) (hF2:F≤52) (hs:Fo.splitF E F b=(ng,X,Y)) (hX:X+1≠2^E) (hz:¬(X=0∧Y=0)):
 mF F X Y≠0∧mF F X Y<9007199254740992∧ -1074≤qF E F X∧qF E F X≤1022:=by
 unfold Fo.splitF at hs
 have hXY:X=b/2^F%2^E∧Y=b%2^F:=by
  simp only[Prod.mk.injEq] at hs
  exact⟨hs.2.1.symm,hs.2.2.symm⟩
 have hXlt:X<2^E:=by rw[hXY.1];exact Nat.mod_lt _ (Nat.two_pow_pos _)
 have hYlt:Y<2^F:=by rw[hXY.2];exact Nat.mod_lt _ (Nat.two_pow_pos _)
 have hE10:=Nat.pow_le_pow_right (n:=2) (by decide) (show E-1≤10 by omega)
 have hEE:2^E=2*2^(E-1):=by rw[←Nat.pow_succ'];congr 1;omega
 have hF52:=Nat.pow_le_pow_right (n:=2) (by decide) hF2
 have hFp:=Nat.two_pow_pos F
 refine⟨?_,?_,?_,?_⟩
 · unfold mF;split
   · rename_i h;exact fun hy=>hz ⟨h,hy⟩
   · omega
 · unfold mF;split <;> omega
 · unfold qF;split <;> omega
 · unfold qF;split <;> omega
def someV (ng:Bool) (P:Int) (n:Nat):Option Nat→Value
 |none=>.tuple #[.agg #[.bool false,.string ⟨#[]⟩,.int .i64 0],.bool false,.int .i64 0]
 |some x=>.tuple #[.agg #[.bool ng,.string ⟨(mkD (Lib.decDigits x) (P+1-n)).1.toArray⟩,.int .i64 (mkD (Lib.decDigits x) (P+1-n)).2],.bool true,.int .i64 0]
namespace Bg
def WorthA (w:World) (m:Nat) (q:Int) (e:Ending) (w':World):Prop:=
 ∃z n d,e=.returned (.pointer (some ⟨z,0,none⟩))∧w.heap.size≤z∧Rt w' z n d∧Frac n d m q∧Below w.heap.size w w'
theorem ref05_Worth (E F b X Y S:Nat) (hE2:2≤E) (hE:E≤11) (hF1:1≤F) (hF:F≤52) (hb64:b<18446744073709551616) (hS0:S=2^(E+F)) (hbS:b<S) (hX:X=b/2^F%2^E) (hY:Y=b%2^F) (hXm:X+1≠2^E) (hz:¬(X=0∧Y=0)) (w:World) (hT:Tz w):
 Calls Tryz.prog 19 #[.agg #[.int .i64 (E:Int),.int .i64 (F:Int)],.int .u64 (b:Int)] w (WorthA w (mF F X Y) (qF E F X)):=by
 obtain⟨H,hH⟩:∃H,H=2^(E-1):=⟨_,rfl⟩
 have hQ52:2^F≤4503599627370496:=Nat.pow_le_pow_right (n:=2) (by decide) hF
 have hQ0:0<2^F:=Nat.two_pow_pos F
 have hHle:H≤1024:=by rw[hH];exact Nat.le_trans (Nat.pow_le_pow_right (by decide) (by omega:E-1≤10)) (by decide)
 have hH2:2≤H:=by rw[hH];exact Nat.pow_le_pow_right (n:=2) (i:=1) (by decide) (by omega)
 have hEE:2^E=2*H:=by rw[hH, ←Nat.pow_succ'];congr 1;omega
 have hYlt:Y<2^F:=by rw[hY];exact Nat.mod_lt _ hQ0
 have hXlt:X<2^E:=by rw[hX];exact Nat.mod_lt _ (Nat.two_pow_pos E)
 by_cases h0:X=0
 · have hY0:Y≠0:=fun h=>hz ⟨h0,h⟩
   obtain⟨k,hk⟩:∃k,k+2=H+F:=⟨H+F-2,by omega⟩
   obtain⟨fr,ft⟩:=frac_neg (m:=Y) (k:=k) hY0 (by omega) (by omega)
   have e1:mF F X Y=Y:=by unfold mF;rw[if_pos h0]
   have e2:qF E F X= -(k:Int):=by unfold qF;rw[if_pos h0, ←hH];omega
   rw[e1,e2]
   refine(ref05_Worth_small E F b Y S H k hE2 hE hF1 hF hb64 hS0 hbS hH X hX hY h0 hk ft w hT).mono ?_
   rintro e w' ⟨z,rfl,hz',r,bl⟩
   exact⟨z,_,_,rfl,hz',r,fr,bl⟩
 · have e1:mF F X Y=Y+2^F:=by unfold mF;rw[if_neg h0]
   have e2:qF E F X=(X:Int)-((H:Int)-1)-(F:Int):=by unfold qF;rw[if_neg h0, ←hH];omega
   rw[e1,e2]
   by_cases hq:0≤(X:Int)-((H:Int)-1)-(F:Int)
   · obtain⟨k,hk⟩:∃k:Nat,(k:Int)=(X:Int)-((H:Int)-1)-(F:Int):=⟨_,Int.toNat_of_nonneg hq⟩
     obtain⟨fr,ft⟩:=frac_pos (m:=Y+2^F) (k:=k) (by omega) (by omega) (by omega)
     rw[←hk]
     refine(ref05_Worth_pos E F b Y S H k hE2 hE hF1 hF hb64 hS0 hbS hH X hX hY h0 hk (by omega) ft w hT).mono ?_
     rintro e w' ⟨z,rfl,hz',r,bl⟩
     exact⟨z,_,_,rfl,hz',r,fr,bl⟩
   · obtain⟨k,hk⟩:∃k:Nat, -(k:Int)=(X:Int)-((H:Int)-1)-(F:Int):=⟨(-((X:Int)-((H:Int)-1)-(F:Int))).toNat,by omega⟩
     obtain⟨fr,ft⟩:=frac_neg (m:=Y+2^F) (k:=k) (by omega) (by omega) (by omega)
     rw[←hk]
     refine(ref05_Worth_neg E F b Y S H k hE2 hE hF1 hF hb64 hS0 hbS hH X hX hY h0 hk (by omega) (by omega) ft w hT).mono ?_
     rintro e w' ⟨z,rfl,hz',r,bl⟩
     exact⟨z,_,_,rfl,hz',r,fr,bl⟩
theorem split_facts {E F b X Y:Nat} {ng:Bool} (hb:b<2^(1+E+F)) (hs:Fo.splitF E F b=(ng,X,Y)):
 X=b/2^F%2^E∧Y=b%2^F∧ng=decide (2^(E+F)≤b)∧X=b%2^(E+F)/2^F%2^E∧Y=b%2^(E+F)%2^F∧(b%2^(E+F)=0↔X=0∧Y=0):=by
 unfold Fo.splitF at hs
 simp only[Prod.mk.injEq] at hs
 obtain⟨h1,h2,h3⟩:=hs
 have e:2^(E+F)=2^F*2^E:=by rw[Nat.add_comm,Nat.pow_add]
 have hd:b%2^(E+F)/2^F=b/2^F%2^E:=by rw[e,Nat.mod_mul_right_div_self]
 have hm:b%2^(E+F)%2^F=b%2^F:=by rw[e,Nat.mod_mul_right_mod]
 have hb2:b<2*2^(E+F):=by
  have:2^(1+E+F)=2*2^(E+F):=by rw[Nat.add_assoc,Nat.pow_add]
  omega
 refine⟨h2.symm,h3.symm,?_,by rw[hd,Nat.mod_mod];exact h2.symm,by rw[hm];exact h3.symm,?_⟩
 · rw[←h1,Nat.add_comm F E]
   have hp:=Nat.two_pow_pos (E+F)
   by_cases h:2^(E+F)≤b
   · have:b/2^(E+F)=1:=by
      rw[Nat.div_eq_iff hp];omega
     rw[this,decide_eq_true h];rfl
   · rw[Nat.div_eq_of_lt (by omega),decide_eq_false h];rfl
 · rw[←h2, ←h3, ←hd, ←hm]
   constructor
   · intro h;rw[h];simp
   · rintro⟨h4,h5⟩
     have:=Nat.div_add_mod (b%2^(E+F)) (2^F)
     rw[h4,h5] at this
     simpa using this.symm
end Bg
namespace Bg
theorem ref19_some_bad (e f:Int) (b:Nat) (D:Int) (hb64:b<18446744073709551616) (h:Fo.fitS e f b≠0) (w:World):
 Calls Tryz.prog 7 #[.agg #[.int .i64 e,.int .i64 f],.int .u64 (b:Int),.int .i64 D] w (Says w (.tuple #[.agg #[.bool false,.string ⟨#[]⟩,.int .i64 0],.bool false,.int .i64 (Fo.fitS e f b)])):=by
 have hA:=fun W=>ref19_asked_bad e f b hb64 h W
 have hr2:(Fo.fitS e f b !=(0:Int))=true:=by simpa using h
 have hr3:(Fo.fitS e f b==(0:Int))=false:=by simpa using h
 generalize Fo.fitS e f b=r at*
 obtain⟨v0,hvv0,hv0,k1⟩:=Blk.al w 23 #[.int .i64 e,.int .i64 f]
 have hz0:v0.heap.size=w.heap.size+1:=by rw[hvv0];simp
 obtain⟨v1,hvv1,hv1,k2⟩:=Blk.al v0 26 #[.bool false,.string ⟨#[]⟩,.int .i64 0]
 replace k1:=k1.below hv1 k1.lt
 have hb0:=hv0.trans (hv1.mono hv0.size)
 go_enter Tryz.func7,Tryz.ntmps7
 go_upto_region 1 with fail
 rw[←hvv0]
 rw[hz0] at k2
 rw[←hvv1]
 clear hvv0 hvv1 hv0 hv1 hz0
 obtain⟨k1c0,k1c1,k1z, -⟩:=k1.b2
 obtain⟨k2c0,k2c1,k2c2,k2z,k2f0,k2f1,k2f2⟩:=k2.b3
 go_wp2_with fail
 clear k1c0 k1c1 k1z k2c0 k2f0 k2c1 k2f1 k2c2 k2f2 k2z
 refine(hA _).mono ?_
 rintro e w1 ⟨rfl,hb1⟩
 replace k1:=k1.below hb1 k1.lt
 replace k2:=k2.below hb1 k2.lt
 replace hb0:=hb0.trans (hb1.mono hb0.size)
 clear hb1
 obtain⟨k1c0,k1c1,k1z, -⟩:=k1.b2
 obtain⟨k2c0,k2c1,k2c2,k2z,k2f0,k2f1,k2f2⟩:=k2.b3
 go_wp2
 refine bodyPost_ret (v:=.tuple #[.agg #[.bool false,.string ⟨#[]⟩,.int .i64 0],.bool false,.int .i64 r]) ?_ rfl ⟨rfl,(bel3 hb0 (w.heap.size+1) (by simp))⟩
 refine results_cell_tmp2 rfl _ _ (w.heap.size+1) _ _ _ _ _ _ ?_ ?_ ?_ (((k2.set_ 0 _).set_ 1 _).set_ 2 _) Tryz.underlying26 rfl (by kernel_rfl)
 · rfl
 · rfl
 · rfl
theorem ref19_some_far (E F b X Y:Nat) (ng:Bool) (hE2:2≤E) (hE:E≤11) (hF1:1≤F) (hF:F≤52) (hb64:b<18446744073709551616) (hb:b<2^(1+E+F)) (hfit:Fo.fitS (E:Int) (F:Int) b=0) (hs:Fo.splitF E F b=(ng,X,Y)) (hX:X+1=2^E) (D:Int) (w:World):
 Calls Tryz.prog 7 #[.agg #[.int .i64 (E:Int),.int .i64 (F:Int)],.int .u64 (b:Int),.int .i64 D] w (Says w (.tuple #[.agg #[.bool false,.string ⟨#[]⟩,.int .i64 0],.bool false,.int .i64 8])):=by
 have hA:=fun W=>ref19_asked E F b X hE2 hE hF1 hF hb64 hb hfit (split_facts hb hs).1 W
 rw[if_pos hX] at hA
 clear hb hs hfit hX
 obtain⟨v0,hvv0,hv0,k1⟩:=Blk.al w 23 #[.int .i64 (E:Int),.int .i64 (F:Int)]
 have hz0:v0.heap.size=w.heap.size+1:=by rw[hvv0];simp
 obtain⟨v1,hvv1,hv1,k2⟩:=Blk.al v0 26 #[.bool false,.string ⟨#[]⟩,.int .i64 0]
 replace k1:=k1.below hv1 k1.lt
 have hb0:=hv0.trans (hv1.mono hv0.size)
 go_enter Tryz.func7,Tryz.ntmps7
 go_upto_region 1 with fail
 rw[←hvv0]
 rw[hz0] at k2
 rw[←hvv1]
 clear hvv0 hvv1 hv0 hv1 hz0
 obtain⟨k1c0,k1c1,k1z, -⟩:=k1.b2
 obtain⟨k2c0,k2c1,k2c2,k2z,k2f0,k2f1,k2f2⟩:=k2.b3
 go_wp2_with fail
 clear k1c0 k1c1 k1z k2c0 k2f0 k2c1 k2f1 k2c2 k2f2 k2z
 refine(hA _).mono ?_
 rintro e w1 ⟨rfl,hb1⟩
 replace k1:=k1.below hb1 k1.lt
 replace k2:=k2.below hb1 k2.lt
 replace hb0:=hb0.trans (hb1.mono hb0.size)
 clear hb1
 obtain⟨k1c0,k1c1,k1z, -⟩:=k1.b2
 obtain⟨k2c0,k2c1,k2c2,k2z,k2f0,k2f1,k2f2⟩:=k2.b3
 go_wp2
 refine bodyPost_ret (v:=.tuple #[.agg #[.bool false,.string ⟨#[]⟩,.int .i64 0],.bool false,.int .i64 8]) ?_ rfl ⟨rfl,(bel3 hb0 (w.heap.size+1) (by simp))⟩
 refine results_cell_tmp2 rfl _ _ (w.heap.size+1) _ _ _ _ _ _ ?_ ?_ ?_ (((k2.set_ 0 _).set_ 1 _).set_ 2 _) Tryz.underlying26 rfl (by kernel_rfl)
 · rfl
 · rfl
 · rfl
theorem ref19_some_lo (E F b X Y:Nat) (ng:Bool) (hE2:2≤E) (hE:E≤11) (hF1:1≤F) (hF:F≤52) (hb64:b<18446744073709551616) (hb:b<2^(1+E+F)) (hfit:Fo.fitS (E:Int) (F:Int) b=0) (hs:Fo.splitF E F b=(ng,X,Y)) (hX:X+1≠2^E) (D:Int) (hD:D<1) (w:World):
 Calls Tryz.prog 7 #[.agg #[.int .i64 (E:Int),.int .i64 (F:Int)],.int .u64 (b:Int),.int .i64 D] w (Says w (.tuple #[.agg #[.bool false,.string ⟨#[]⟩,.int .i64 0],.bool false,.int .i64 101])):=by
 have hA:=fun W=>ref19_asked E F b X hE2 hE hF1 hF hb64 hb hfit (split_facts hb hs).1 W
 rw[if_neg hX] at hA
 have g1:decide (D<1)=true:=by simpa using hD
 clear hb hs hfit hX hD
 obtain⟨v0,hvv0,hv0,k1⟩:=Blk.al w 23 #[.int .i64 (E:Int),.int .i64 (F:Int)]
 have hz0:v0.heap.size=w.heap.size+1:=by rw[hvv0];simp
 obtain⟨v1,hvv1,hv1,k2⟩:=Blk.al v0 26 #[.bool false,.string ⟨#[]⟩,.int .i64 0]
 replace k1:=k1.below hv1 k1.lt
 have hb0:=hv0.trans (hv1.mono hv0.size)
 go_enter Tryz.func7,Tryz.ntmps7
 go_upto_region 1 with fail
 rw[←hvv0]
 rw[hz0] at k2
 rw[←hvv1]
 clear hvv0 hvv1 hv0 hv1 hz0
 obtain⟨k1c0,k1c1,k1z, -⟩:=k1.b2
 obtain⟨k2c0,k2c1,k2c2,k2z,k2f0,k2f1,k2f2⟩:=k2.b3
 go_wp2_with fail
 clear k1c0 k1c1 k1z k2c0 k2f0 k2c1 k2f1 k2c2 k2f2 k2z
 refine(hA _).mono ?_
 rintro e w1 ⟨rfl,hb1⟩
 replace k1:=k1.below hb1 k1.lt
 replace k2:=k2.below hb1 k2.lt
 replace hb0:=hb0.trans (hb1.mono hb0.size)
 clear hb1
 obtain⟨k1c0,k1c1,k1z, -⟩:=k1.b2
 obtain⟨k2c0,k2c1,k2c2,k2z,k2f0,k2f1,k2f2⟩:=k2.b3
 go_wp2
 refine bodyPost_ret (v:=.tuple #[.agg #[.bool false,.string ⟨#[]⟩,.int .i64 0],.bool false,.int .i64 101]) ?_ rfl ⟨rfl,(bel3 hb0 (w.heap.size+1) (by simp))⟩
 refine results_cell_tmp2 rfl _ _ (w.heap.size+1) _ _ _ _ _ _ ?_ ?_ ?_ (((k2.set_ 0 _).set_ 1 _).set_ 2 _) Tryz.underlying26 rfl (by kernel_rfl)
 · rfl
 · rfl
 · rfl
theorem ref19_some_hi (E F b X Y:Nat) (ng:Bool) (hE2:2≤E) (hE:E≤11) (hF1:1≤F) (hF:F≤52) (hb64:b<18446744073709551616) (hb:b<2^(1+E+F)) (hfit:Fo.fitS (E:Int) (F:Int) b=0) (hs:Fo.splitF E F b=(ng,X,Y)) (hX:X+1≠2^E) (D:Int) (hD:17<D) (w:World):
 Calls Tryz.prog 7 #[.agg #[.int .i64 (E:Int),.int .i64 (F:Int)],.int .u64 (b:Int),.int .i64 D] w (Says w (.tuple #[.agg #[.bool false,.string ⟨#[]⟩,.int .i64 0],.bool false,.int .i64 101])):=by
 have hA:=fun W=>ref19_asked E F b X hE2 hE hF1 hF hb64 hb hfit (split_facts hb hs).1 W
 rw[if_neg hX] at hA
 have g1:decide (D<1)=false:=by simp;omega
 have g2:decide (17<D)=true:=by simpa using hD
 clear hb hs hfit hX hD
 obtain⟨v0,hvv0,hv0,k1⟩:=Blk.al w 23 #[.int .i64 (E:Int),.int .i64 (F:Int)]
 have hz0:v0.heap.size=w.heap.size+1:=by rw[hvv0];simp
 obtain⟨v1,hvv1,hv1,k2⟩:=Blk.al v0 26 #[.bool false,.string ⟨#[]⟩,.int .i64 0]
 replace k1:=k1.below hv1 k1.lt
 have hb0:=hv0.trans (hv1.mono hv0.size)
 go_enter Tryz.func7,Tryz.ntmps7
 go_upto_region 1 with fail
 rw[←hvv0]
 rw[hz0] at k2
 rw[←hvv1]
 clear hvv0 hvv1 hv0 hv1 hz0
 obtain⟨k1c0,k1c1,k1z, -⟩:=k1.b2
 obtain⟨k2c0,k2c1,k2c2,k2z,k2f0,k2f1,k2f2⟩:=k2.b3
 go_wp2_with fail
 clear k1c0 k1c1 k1z k2c0 k2f0 k2c1 k2f1 k2c2 k2f2 k2z
 refine(hA _).mono ?_
 rintro e w1 ⟨rfl,hb1⟩
 replace k1:=k1.below hb1 k1.lt
 replace k2:=k2.below hb1 k2.lt
 replace hb0:=hb0.trans (hb1.mono hb0.size)
 clear hb1
 obtain⟨k1c0,k1c1,k1z, -⟩:=k1.b2
 obtain⟨k2c0,k2c1,k2c2,k2z,k2f0,k2f1,k2f2⟩:=k2.b3
 go_wp2
 refine bodyPost_ret (v:=.tuple #[.agg #[.bool false,.string ⟨#[]⟩,.int .i64 0],.bool false,.int .i64 101]) ?_ rfl ⟨rfl,(bel3 hb0 (w.heap.size+1) (by simp))⟩
 refine results_cell_tmp2 rfl _ _ (w.heap.size+1) _ _ _ _ _ _ ?_ ?_ ?_ (((k2.set_ 0 _).set_ 1 _).set_ 2 _) Tryz.underlying26 rfl (by kernel_rfl)
 · rfl
 · rfl
 · rfl
theorem ref19_some_nought (E F b X Y:Nat) (ng:Bool) (hE2:2≤E) (hE:E≤11) (hF1:1≤F) (hF:F≤52) (hb64:b<18446744073709551616) (hb:b<2^(1+E+F)) (hfit:Fo.fitS (E:Int) (F:Int) b=0) (hs:Fo.splitF E F b=(ng,X,Y)) (hX:X+1≠2^E) (hX0:X=0) (hY0:Y=0) (n:Nat) (hn1:1≤n) (hn2:n≤17) (w:World):
 Calls Tryz.prog 7 #[.agg #[.int .i64 (E:Int),.int .i64 (F:Int)],.int .u64 (b:Int),.int .i64 (n:Int)] w (Says w (.tuple #[.agg #[.bool ng,.string ⟨#[]⟩,.int .i64 0],.bool true,.int .i64 0])):=by
 have hA:=fun W=>ref19_asked E F b X hE2 hE hF1 hF hb64 hb hfit (split_facts hb hs).1 W
 rw[if_neg hX] at hA
 have g1:decide ((n:Int)<1)=false:=by simp;omega
 have g2:decide ((17:Int)<(n:Int))=false:=by simp;omega
 obtain⟨-, -, hng,hX2,hY2,hz2⟩:=split_facts hb hs
 obtain⟨S,hS⟩:∃S,S=2^(E+F):=⟨_,rfl⟩
 rw[←hS] at hng hX2 hY2 hz2
 have hS0:0<S:=by rw[hS];exact Nat.two_pow_pos _
 have hSle:S≤9223372036854775808:=by rw[hS];exact Nat.le_trans (Nat.pow_le_pow_right (n:=2) (by decide) (by omega:E+F≤63)) (by decide)
 have hSn:=fun W=>ref19_sign E F b hE hF S hS W
 rw[←hng] at hSn
 have hSg:=fun W=>ref05_Sign E F hE hF S hS W
 obtain⟨bb,hbb⟩:∃bb,bb=b%S:=⟨_,rfl⟩
 rw[←hbb] at hX2 hY2 hz2
 have hbbS:bb<S:=by rw[hbb];exact Nat.mod_lt _ hS0
 have hSnz:¬S=0:=by omega
 have hSi:((S:Int)==0)=false:=by rw[beq_eq_false_iff_ne];omega
 have hbm:(b:Int)%(S:Int)=(bb:Int):=by rw[hbb];rfl
 have hbn:b%S=bb:=hbb.symm
 have hb00:bb=0:=hz2.2 ⟨hX0,hY0⟩
 rw[hb00] at hbm hbn
 clear hb hs hfit hX hng hX2 hY2 hz2 hS hbb hX0 hY0 hb00 hbbS
 obtain⟨v0,hvv0,hv0,k1⟩:=Blk.al w 23 #[.int .i64 (E:Int),.int .i64 (F:Int)]
 have hz0:v0.heap.size=w.heap.size+1:=by rw[hvv0];simp
 obtain⟨v1,hvv1,hv1,k2⟩:=Blk.al v0 26 #[.bool false,.string ⟨#[]⟩,.int .i64 0]
 replace k1:=k1.below hv1 k1.lt
 have hb0:=hv0.trans (hv1.mono hv0.size)
 go_enter Tryz.func7,Tryz.ntmps7
 go_upto_region 1 with fail
 rw[←hvv0]
 rw[hz0] at k2
 rw[←hvv1]
 clear hvv0 hvv1 hv0 hv1 hz0
 obtain⟨k1c0,k1c1,k1z, -⟩:=k1.b2
 obtain⟨k2c0,k2c1,k2c2,k2z,k2f0,k2f1,k2f2⟩:=k2.b3
 go_wp2_with fail
 clear k1c0 k1c1 k1z k2c0 k2f0 k2c1 k2f1 k2c2 k2f2 k2z
 refine(hA _).mono ?_
 rintro e w1 ⟨rfl,hb1⟩
 replace k1:=k1.below hb1 k1.lt
 replace k2:=k2.below hb1 k2.lt
 replace hb0:=hb0.trans (hb1.mono hb0.size)
 clear hb1
 obtain⟨k1c0,k1c1,k1z, -⟩:=k1.b2
 obtain⟨k2c0,k2c1,k2c2,k2z,k2f0,k2f1,k2f2⟩:=k2.b3
 go_wp2_with fail
 clear k1c0 k1c1 k1z k2c0 k2f0 k2c1 k2f1 k2c2 k2f2 k2z
 refine(hSn _).mono ?_
 rintro e w2 ⟨rfl,hb2⟩
 replace k1:=k1.below hb2 k1.lt
 replace k2:=k2.below hb2 k2.lt
 replace hb0:=hb0.trans (hb2.mono hb0.size)
 clear hb2
 obtain⟨k1c0,k1c1,k1z, -⟩:=k1.b2
 obtain⟨k2c0,k2c1,k2c2,k2z,k2f0,k2f1,k2f2⟩:=k2.b3
 go_wp2_with fail
 clear k1c0 k1c1 k1z k2c0 k2f0 k2c1 k2f1 k2c2 k2f2 k2z
 refine(hSg _).mono ?_
 rintro e w3 ⟨rfl,hb3⟩
 replace k1:=k1.below hb3 k1.lt
 replace k2:=k2.below hb3 k2.lt
 replace hb0:=hb0.trans (hb3.mono hb0.size)
 clear hb3
 obtain⟨k1c0,k1c1,k1z, -⟩:=k1.b2
 obtain⟨k2c0,k2c1,k2c2,k2z,k2f0,k2f1,k2f2⟩:=k2.b3
 go_wp2
 refine bodyPost_ret (v:=.tuple #[.agg #[.bool ng,.string ⟨#[]⟩,.int .i64 0],.bool true,.int .i64 0]) ?_ rfl ⟨rfl,(bel3 hb0 (w.heap.size+1) (by simp))⟩
 refine results_cell_tmp2 rfl _ _ (w.heap.size+1) _ _ _ _ _ _ ?_ ?_ ?_ (((k2.set_ 0 _).set_ 1 _).set_ 2 _) Tryz.underlying26 rfl (by kernel_rfl)
 · rfl
 · rfl
 · rfl
theorem ref19_some_num (E F b X Y:Nat) (ng:Bool) (hE2:2≤E) (hE:E≤11) (hF1:1≤F) (hF:F≤52) (hb64:b<18446744073709551616) (hb:b<2^(1+E+F)) (hfit:Fo.fitS (E:Int) (F:Int) b=0) (hs:Fo.splitF E F b=(ng,X,Y)) (hX:X+1≠2^E) (hz:¬(X=0∧Y=0)) (P:Int) (hP:IsFirst (mF F X Y) (qF E F X) P) (hP1: -350≤P) (hP2:P<350) (n:Nat) (hn1:1≤n) (hn2:n≤17) (w:World) (hT:Tz w):
 Calls Tryz.prog 7 #[.agg #[.int .i64 (E:Int),.int .i64 (F:Int)],.int .u64 (b:Int),.int .i64 (n:Int)] w (Says w (someV ng P n (someS (mF F X Y) (qF E F X) P n))):=by
 have hA:=fun W=>ref19_asked E F b X hE2 hE hF1 hF hb64 hb hfit (split_facts hb hs).1 W
 rw[if_neg hX] at hA
 have g1:decide ((n:Int)<1)=false:=by simp;omega
 have g2:decide ((17:Int)<(n:Int))=false:=by simp;omega
 obtain⟨-, -, hng,hX2,hY2,hz2⟩:=split_facts hb hs
 obtain⟨S,hS⟩:∃S,S=2^(E+F):=⟨_,rfl⟩
 rw[←hS] at hng hX2 hY2 hz2
 have hS0:0<S:=by rw[hS];exact Nat.two_pow_pos _
 have hSle:S≤9223372036854775808:=by rw[hS];exact Nat.le_trans (Nat.pow_le_pow_right (n:=2) (by decide) (by omega:E+F≤63)) (by decide)
 have hSn:=fun W=>ref19_sign E F b hE hF S hS W
 rw[←hng] at hSn
 have hSg:=fun W=>ref05_Sign E F hE hF S hS W
 obtain⟨bb,hbb⟩:∃bb,bb=b%S:=⟨_,rfl⟩
 rw[←hbb] at hX2 hY2 hz2
 have hbbS:bb<S:=by rw[hbb];exact Nat.mod_lt _ hS0
 have hSnz:¬S=0:=by omega
 have hSi:((S:Int)==0)=false:=by rw[beq_eq_false_iff_ne];omega
 have hbm:(b:Int)%(S:Int)=(bb:Int):=by rw[hbb];rfl
 have hbn:b%S=bb:=hbb.symm
 have hb00:bb≠0:=fun h=>hz (hz2.1 h)
 have hb01:((bb:Int)==0)=false:=by rw[beq_eq_false_iff_ne];omega
 have hWo:=fun W hW=>ref05_Worth E F bb X Y S hE2 hE hF1 hF (by omega) hS hbbS hX2 hY2 hX hz W hW
 obtain⟨m1,m2,q1,q2⟩:=num_bd hE2 hE hF1 hF hs hX hz
 have hk:kS P n=(n:Int)-1-P:=rfl
 have hf:farB (kS P n)=false:=by simp only[farB,Bool.or_eq_false_iff,decide_eq_false_iff_not];omega
 obtain⟨N,hN1,hN2,hN3,hok⟩:=scale_ok m1 m2 hP hn1 hn2 hk hf
 obtain⟨-, -, vb1,vb2, -, -⟩:=hok (4*mF F X Y) (by omega) (by omega)
 have hNS:NS (qF E F X) P n=N:=by unfold NS;omega
 have hun:∀p:Int,underB (mF F X Y) (qF E F X) p=decide (P<p):=fun p=>hP.iff p
 have hsm:someS (mF F X Y) (qF E F X) P n=if nearS (tenN (kS P n)*(4*mF F X Y)) N=nearS (kB (kS P n)*(4*mF F X Y)) N then some (nearS (tenN (kS P n)*(4*mF F X Y)) N) else none:=by
  unfold someS loE hiE;rw[hNS]
 obtain⟨ANS,hANS⟩:∃A,A=someS (mF F X Y) (qF E F X) P n:=⟨_,rfl⟩
 rw[←hANS]
 rw[hsm] at hANS
 have hEn:=fun y nn dd (fr:Frac nn dd (mF F X Y) (qF E F X)) W hW hy=>ref19_ends y nn dd (mF F X Y) (qF E F X) fr (kS P n) (P+1-(n:Int)) (by omega) (by omega) (by omega) N (by omega) W hW hy
 clear hb hs hfit hX hng hX2 hY2 hz2 hS hbb hb00 hz hNS hsm hok m1 m2 q1 q2 hf hN1 hN3
 have hk0: -370≤P∧P≤370:=by omega
 clear hk
 generalize kS P n=k at*
 generalize tenN k*(4*mF F X Y)=V1 at*
 generalize kB k*(4*mF F X Y)=V2 at*
 have l60:∀x:Nat,x<1152921504606846976→(limbs x).length<40:=fun x hx=>by have:=limbs_len2 (n:=x) (by omega);omega
 have n1:=near_lt vb1
 have n2:=near_lt vb2
 have e60:(2:Nat)^60=1152921504606846976:=rfl
 rw[e60] at vb1 vb2
 have hNe:∀(V z n' d':Nat) (sc:Sc n' d' V N) (hv:V/2^N<1152921504606846976) (W:World) (hW:Tz W) (hz:Rt W z n' d'),Calls Tryz.prog 22 #[.pointer (some ⟨z,0,none⟩)] W (Makes W 95 [] false (nearS V N)):=by
  intro V z n' d' sc hv W hW hz
  rw[←sc.rnd (by omega)]
  exact ref19_nearest z n' d' sc.ln sc.ld (by rw[sc.div];exact l60 _ hv) W hW hz
 have HANS:=Lib.hid hANS
 clear hANS
 have HNE:=Lib.hid hNe
 have HUN:=Lib.hid hun
 have HWO:=Lib.hid hWo
 have HEN:=Lib.hid hEn
 clear hNe hun hWo hEn l60 e60
 obtain⟨v0,hvv0,hv0,k1⟩:=Blk.al w 23 #[.int .i64 (E:Int),.int .i64 (F:Int)]
 have hz0:v0.heap.size=w.heap.size+1:=by rw[hvv0];simp
 obtain⟨v1,hvv1,hv1,k2⟩:=Blk.al v0 26 #[.bool false,.string ⟨#[]⟩,.int .i64 0]
 replace k1:=k1.below hv1 k1.lt
 have hb0:=hv0.trans (hv1.mono hv0.size)
 go_enter Tryz.func7,Tryz.ntmps7
 go_upto_region 1 with fail
 rw[←hvv0]
 rw[hz0] at k2
 rw[←hvv1]
 clear hvv0 hvv1 hv0 hv1 hz0
 obtain⟨k1c0,k1c1,k1z, -⟩:=k1.b2
 obtain⟨k2c0,k2c1,k2c2,k2z,k2f0,k2f1,k2f2⟩:=k2.b3
 go_wp2_with fail
 clear k1c0 k1c1 k1z k2c0 k2f0 k2c1 k2f1 k2c2 k2f2 k2z
 refine(hA _).mono ?_
 rintro e w1 ⟨rfl,hb1⟩
 replace k1:=k1.below hb1 k1.lt
 replace k2:=k2.below hb1 k2.lt
 replace hb0:=hb0.trans (hb1.mono hb0.size)
 clear hb1
 obtain⟨k1c0,k1c1,k1z, -⟩:=k1.b2
 obtain⟨k2c0,k2c1,k2c2,k2z,k2f0,k2f1,k2f2⟩:=k2.b3
 go_wp2_with fail
 clear k1c0 k1c1 k1z k2c0 k2f0 k2c1 k2f1 k2c2 k2f2 k2z
 refine(hSn _).mono ?_
 rintro e w2 ⟨rfl,hb2⟩
 replace k1:=k1.below hb2 k1.lt
 replace k2:=k2.below hb2 k2.lt
 replace hb0:=hb0.trans (hb2.mono hb0.size)
 clear hb2
 obtain⟨k1c0,k1c1,k1z, -⟩:=k1.b2
 obtain⟨k2c0,k2c1,k2c2,k2z,k2f0,k2f1,k2f2⟩:=k2.b3
 go_wp2_with fail
 clear k1c0 k1c1 k1z k2c0 k2f0 k2c1 k2f1 k2c2 k2f2 k2z
 refine(hSg _).mono ?_
 rintro e w3 ⟨rfl,hb3⟩
 replace k1:=k1.below hb3 k1.lt
 replace k2:=k2.below hb3 k2.lt
 replace hb0:=hb0.trans (hb3.mono hb0.size)
 clear hb3
 obtain⟨k1c0,k1c1,k1z, -⟩:=k1.b2
 obtain⟨k2c0,k2c1,k2c2,k2z,k2f0,k2f1,k2f2⟩:=k2.b3
 go_wp2_with fail
 clear k1c0 k1c1 k1z k2c0 k2f0 k2c1 k2f1 k2c2 k2f2 k2z
 refine(HWO.out _ (hT.below hb0)).mono ?_
 rintro e w4 ⟨y,nn,dd,rfl,hy,ry,fr,hb4⟩
 replace k1:=k1.below hb4 k1.lt
 replace k2:=k2.below hb4 k2.lt
 replace hb0:=hb0.trans (hb4.mono hb0.size)
 clear hb4
 obtain⟨k1c0,k1c1,k1z, -⟩:=k1.b2
 obtain⟨k2c0,k2c1,k2c2,k2z,k2f0,k2f1,k2f2⟩:=k2.b3
 go_wp2_with fail
 clear k1c0 k1c1 k1z k2c0 k2f0 k2c1 k2f1 k2c2 k2f2 k2z
 refine(ref19_first y nn dd P (by have:=fr.ln;omega) fr.ld hP1 hP2 (fun p h1 h2=>by rw[fr.under,HUN.out,decide_eq_true_iff]) _ (hT.below hb0) ry).mono ?_
 rintro e w5 ⟨rfl,hb5⟩
 replace k1:=k1.below hb5 k1.lt
 replace k2:=k2.below hb5 k2.lt
 replace hb0:=hb0.trans (hb5.mono hb0.size)
 replace ry:=ry.below hb5
 clear hb5
 obtain⟨k1c0,k1c1,k1z, -⟩:=k1.b2
 obtain⟨k2c0,k2c1,k2c2,k2z,k2f0,k2f1,k2f2⟩:=k2.b3
 go_wp2_with fail
 clear k1c0 k1c1 k1z k2c0 k2f0 k2c1 k2f1 k2c2 k2f2 k2z
 refine(HEN.out y nn dd fr _ (hT.below hb0) ry).mono ?_
 rintro e w6 ⟨z1,z2,n1',d1',n2',d2',rfl,r1,r2,sc1,sc2,hb6⟩
 replace k1:=k1.below hb6 k1.lt
 replace k2:=k2.below hb6 k2.lt
 replace hb0:=hb0.trans (hb6.mono hb0.size)
 replace ry:=ry.below hb6
 clear hb6
 obtain⟨k1c0,k1c1,k1z, -⟩:=k1.b2
 obtain⟨k2c0,k2c1,k2c2,k2z,k2f0,k2f1,k2f2⟩:=k2.b3
 go_wp2_with fail
 clear k1c0 k1c1 k1z k2c0 k2f0 k2c1 k2f1 k2c2 k2f2 k2z
 refine(HNE.out V1 z1 n1' d1' sc1 vb1 _ (hT.below hb0) r1).mono ?_
 rintro e w7 ⟨i1,rfl,hi1,o1,hb7⟩
 replace k1:=k1.below hb7 k1.lt
 replace k2:=k2.below hb7 k2.lt
 replace hb0:=hb0.trans (hb7.mono hb0.size)
 replace ry:=ry.below hb7
 replace r1:=r1.below hb7
 replace r2:=r2.below hb7
 clear hb7
 obtain⟨k1c0,k1c1,k1z, -⟩:=k1.b2
 obtain⟨k2c0,k2c1,k2c2,k2z,k2f0,k2f1,k2f2⟩:=k2.b3
 go_wp2_with fail
 clear k1c0 k1c1 k1z k2c0 k2f0 k2c1 k2f1 k2c2 k2f2 k2z
 refine(HNE.out V2 z2 n2' d2' sc2 vb2 _ (hT.below hb0) r2).mono ?_
 rintro e w8 ⟨i2,rfl,hi2,o2,hb8⟩
 replace k1:=k1.below hb8 k1.lt
 replace k2:=k2.below hb8 k2.lt
 replace hb0:=hb0.trans (hb8.mono hb0.size)
 replace ry:=ry.below hb8
 replace r1:=r1.below hb8
 replace r2:=r2.below hb8
 replace o1:=o1.below hb8
 clear hb8
 obtain⟨k1c0,k1c1,k1z, -⟩:=k1.b2
 obtain⟨k2c0,k2c1,k2c2,k2z,k2f0,k2f1,k2f2⟩:=k2.b3
 go_wp2_with fail
 clear k1c0 k1c1 k1z k2c0 k2f0 k2c1 k2f1 k2c2 k2f2 k2z
 refine(int_Cmp i1 i2 _ _ [] [] (nearS V1 N) (nearS V2 N) _ o1 o2).mono ?_
 rintro e w9 ⟨rfl,hb9⟩
 replace k1:=k1.below hb9 k1.lt
 replace k2:=k2.below hb9 k2.lt
 replace hb0:=hb0.trans (hb9.mono hb0.size)
 replace ry:=ry.below hb9
 replace r1:=r1.below hb9
 replace r2:=r2.below hb9
 replace o1:=o1.below hb9
 replace o2:=o2.below hb9
 clear hb9
 clear HNE HEN HWO HUN r1 r2 sc1 sc2 ry fr o2
 generalize nearS V1 N=R1 at*
 generalize nearS V2 N=R2 at*
 by_cases hR:R1=R2
 · have hA2:ANS=some R1:=by rw[HANS.out,if_pos hR]
   have HA2:=Lib.hid hA2
   clear HANS hA2
   have hc:(cmpV R1 R2 !=0)=false:=by rw[cmpV_eq.2 hR];rfl
   have HR:=Lib.hid hR
   clear hR
   obtain⟨k1c0,k1c1,k1z, -⟩:=k1.b2
   obtain⟨k2c0,k2c1,k2c2,k2z,k2f0,k2f1,k2f2⟩:=k2.b3
   go_wp2_with fail
   clear k1c0 k1c1 k1z k2c0 k2f0 k2c1 k2f1 k2c2 k2f2 k2z
   refine(ref19_decimal ng i1 _ [] R1 (P+1-(n:Int)) (by omega) (by omega) (by omega) _ o1).mono ?_
   rintro e w51 ⟨rfl,hb51⟩
   replace k1:=k1.below hb51 k1.lt
   replace k2:=k2.below hb51 k2.lt
   replace hb0:=hb0.trans (hb51.mono hb0.size)
   replace o1:=o1.below hb51
   clear hb51
   obtain⟨k1c0,k1c1,k1z, -⟩:=k1.b2
   obtain⟨k2c0,k2c1,k2c2,k2z,k2f0,k2f1,k2f2⟩:=k2.b3
   go_wp2
   refine bodyPost_ret (v:=.tuple #[.agg #[.bool ng,.string ⟨(mkD (Lib.decDigits R1) (P+1-(n:Int))).1.toArray⟩,.int .i64 (mkD (Lib.decDigits R1) (P+1-(n:Int))).2],.bool true,.int .i64 0]) ?_ rfl ⟨by rw[HA2.out];rfl,(bel3 hb0 (w.heap.size+1) (by simp))⟩
   refine results_cell_tmp2 rfl _ _ (w.heap.size+1) _ _ _ _ _ _ ?_ ?_ ?_ (((k2.set_ 0 _).set_ 1 _).set_ 2 _) Tryz.underlying26 rfl (by kernel_rfl)
   · rfl
   · rfl
   · rfl
 · have hA2:ANS=none:=by rw[HANS.out,if_neg hR]
   have HA2:=Lib.hid hA2
   clear HANS hA2
   have hc:(cmpV R1 R2 !=0)=true:=by rw[bne_iff_ne];exact fun h=>hR (cmpV_eq.1 h)
   clear hR
   obtain⟨k1c0,k1c1,k1z, -⟩:=k1.b2
   obtain⟨k2c0,k2c1,k2c2,k2z,k2f0,k2f1,k2f2⟩:=k2.b3
   go_wp2
   refine bodyPost_ret (v:=.tuple #[.agg #[.bool false,.string ⟨#[]⟩,.int .i64 0],.bool false,.int .i64 0]) ?_ rfl ⟨by rw[HA2.out];rfl,(bel3 hb0 (w.heap.size+1) (by simp))⟩
   refine results_cell_tmp2 rfl _ _ (w.heap.size+1) _ _ _ _ _ _ ?_ ?_ ?_ (((k2.set_ 0 _).set_ 1 _).set_ 2 _) Tryz.underlying26 rfl (by kernel_rfl)
   · rfl
   · rfl
   · rfl
end Bg
end Go.Proofs.YtenekbfnlbipiaaGreatDoor
