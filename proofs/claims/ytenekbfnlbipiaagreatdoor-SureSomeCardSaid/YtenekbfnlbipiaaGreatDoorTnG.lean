/- Walks: the program's powers of ten. -/
import Derived.Test.YtenekbfnlbipiaaGreatDoorTnB
import Derived.Test.YtenekbfnlbipiaaGreatDoorUp
import Derived.Test.YtenekbfnlbipiaaGreatDoorSml
import Derived.Deep.QuietTactic
import Derived.BigQuiet
import Derived.Test.YtenekbfnlbipiaaGreatDoorA
import Derived.Laws.Externs
import Derived.Laws.Rows
namespace Go.Proofs.YtenekbfnlbipiaaGreatDoor
open Go.RowKit
set_option linter.unusedVariables false
set_option linter.unusedSimpArgs false
set_option maxHeartbeats 4000000
set_option maxRecDepth 100000

theorem Own.le {w:World} {t:TypeId} {B c:Nat} {A:Option Addr} {l:List Nat} (h:Own w t B A c l):l.length≤c:=by
 rcases h.2.2 with ⟨_,h2,h3⟩|⟨_,_,_,_,_,h1,_⟩
 · rw[h2,h3];exact Nat.le_refl _
 · exact h1
theorem limbs_four {v:Nat} (h1:2^127≤v) (h2:v<2^128):(limbs v).length=4:=by
 have a:=(length_limbs_le v 4).2 h2
 rcases Nat.lt_or_ge (limbs v).length 4 with h|h
 · have:=(length_limbs_le v 3).1 (by omega)
   exact absurd (Nat.lt_of_le_of_lt h1 this) (by decide)
 · omega
theorem half_hi {v:Nat} (h2:v<2^128):nth (limbs v) 3*4294967296+nth (limbs v) 2=v/2^64:=by
 rw[nth_valS (sm_limbs v),nth_valS (sm_limbs v),val_limbs]
 rw[show(4294967296:Nat)^3=2^64*4294967296 from rfl,show(4294967296:Nat)^2=2^64 from rfl, ←Nat.div_div_eq_div_mul]
 have:v/2^64<2^64:=by rw[Nat.div_lt_iff_lt_mul (by decide)];exact h2
 generalize v/2^64=x at this ⊢
 omega
theorem half_lo {v:Nat}:nth (limbs v) 1*4294967296+nth (limbs v) 0=v%2^64:=by
 rw[nth_valS (sm_limbs v),nth_valS (sm_limbs v),val_limbs]
 simp only[Nat.pow_zero,Nat.div_one,Nat.pow_one]
 omega
theorem or_half {x y:Nat} (hx:x<4294967296) (hy:y<4294967296):bits BinOp.or IntKind.u64 ((x:Int)*4294967296) (y:Int)=((x*4294967296+y:Nat):Int):=by
 have e:((x:Int)*4294967296)=((x*4294967296:Nat):Int):=by omega
 rw[e,u64_or_nat _ _ (by omega) (by omega)]
 have:=Nat.two_pow_add_eq_or_of_lt (i:=32) (b:=y) hy x
 rw[show x*4294967296=2^32*x from by omega, ←this]
def TenP (k:Int):Value:=.tuple #[.int .u64 ((tenHi k:Nat):Int),.int .u64 ((tenLo k:Nat):Int),.int .i64 (tenEx k),.bool (wholeB k),.int .i64 (tenEr k)]
theorem tenP_ok {k:Int} (hf:farB k=false):TenP k=.tuple #[.int .u64 ((tenN k/2^64:Nat):Int),.int .u64 ((tenN k%2^64:Nat):Int),.int .i64 (tenE k),.bool (tenX k),.int .i64 0]:=by
 unfold TenP tenHi tenLo tenEx wholeB tenEr;rw[hf];rfl
theorem tenP_far {k:Int} (hf:farB k=true):TenP k=.tuple #[.int .u64 0,.int .u64 0,.int .i64 0,.bool false,.int .i64 130]:=by
 unfold TenP tenHi tenLo tenEx wholeB tenEr;rw[hf];rfl
theorem power_ten_far (k:Int) (hf:farB k=true) (w:World):Calls Tryz.prog 83 #[.int .i64 k] w (Says w (TenP k)):=by
 rw[tenP_far hf]
 have hf2:=fun W=>power_far k W
 rw[hf] at hf2
 go_enter Tryz.func83,Tryz.ntmps83
 go_wp2_with fail
 refine(hf2 _).mono ?_
 rintro e w1 ⟨rfl,rfl⟩
 go_wp2
 go_returns
 exact⟨rfl,Below.refl _ _⟩
theorem power_ten_low (j:Nat) (hj:j≤400) (hzl:bitLen (5^j)≤128) (w:World) (hT:Tab5 w):
 Calls Tryz.prog 83 #[.int .i64 (j:Int)] w (Says w (TenP (j:Int))):=by
 have hf:farB (j:Int)=false:=far_no (by omega) (by omega)
 rw[tenP_ok hf]
 have hfv:=fun W h=>power_five j (by omega) W h
 have hf2:=fun W=>power_far (j:Int) W
 rw[hf] at hf2
 have hb5:=bitsS_lim (v:=5^j) (k:=30) (len5 ⟨j,by omega⟩) (by decide)
 have hsz:=tS_le hf
 have hts:tS (j:Int)=bitLen (5^j):=by unfold tS;rw[Int.natAbs_natCast]

 have hV4:=limbs_four (tenN_bd hf).1 (tenN_bd hf).2
 have hHi:=half_hi (tenN_bd hf).2
 have hLo:=half_lo (v:=tenN (j:Int))

 have hE:tenE (j:Int)=(j:Int)+((bitLen (5^j):Nat):Int)-128:=by
  unfold tenE;rw[if_neg (by omega),hts]
 have hX:tenX (j:Int)=true:=by
  unfold tenX;rw[decide_eq_false (show ¬(j:Int)<0 by omega),hts,decide_eq_true hzl];rfl
 have hV:5^j*2^(128-bitLen (5^j))=tenN (j:Int):=by
  unfold tenN;rw[if_neg (by omega),hts,if_pos hzl,Int.natAbs_natCast]
 have hU:=upS_lim (v:=5^j) (k:=30) (len5 ⟨j,by omega⟩) (by decide) (128-bitLen (5^j)) (by omega)
 rw[hV,show((128-bitLen (5^j):Nat):Int)=128-((bitLen (5^j):Nat):Int) by omega] at hU
 rw[hE,hX]
 rw[hts] at hsz
 clear hE hX hV hts
 generalize tenN (j:Int)=V at hU hV4 hHi hLo ⊢

 obtain⟨H,hH⟩:∃H,H=V/2^64:=⟨_,rfl⟩
 obtain⟨L,hL⟩:∃L,L=V%2^64:=⟨_,rfl⟩
 rw[←hH] at hHi ⊢
 rw[←hL] at hLo ⊢
 have HV4:=Lib.hid hV4
 have HHI:=Lib.hid hHi
 have HLO:=Lib.hid hLo
 have hb4:(((limbs V).length:Int) !=4)=false:=by rw[hV4];rfl
 have n0:0<(limbs V).length:=by omega
 have n1:1<(limbs V).length:=by omega
 have n2:2<(limbs V).length:=by omega
 have n3:3<(limbs V).length:=by omega
 have n1i:(1:Int)<((limbs V).length:Int):=by omega
 have n2i:(2:Int)<((limbs V).length:Int):=by omega
 have n3i:(3:Int)<((limbs V).length:Int):=by omega
 obtain⟨z,hz⟩:∃z,z=bitLen (5^j):=⟨_,rfl⟩
 rw[←hz] at hb5 hsz hzl hU ⊢
 obtain⟨P,hP⟩:∃P,P=5^j:=⟨_,rfl⟩
 rw[←hP] at hb5 hfv hU
 have HB:=Lib.hid hb5
 have HU:=Lib.hid hU
 have hgz:decide ((z:Int)≤128)=true:=by simp;omega
 have hb0:Below w.heap.size w w:=Below.refl _ _
 clear hH hL hV4 hHi hLo hz hP hb5 hf hU
 go_enter Tryz.func83,Tryz.ntmps83
 go_wp2_with fail
 refine(hf2 _).mono ?_
 rintro e w1 ⟨rfl,rfl⟩
 go_wp2_with fail
 refine(hfv _ hT).mono ?_
 rintro e w1 ⟨A1,c1,rfl,o1,hb1⟩
 replace hb0:=hb0.trans (hb1.mono hb0.size)
 clear hb1
 go_wp2_with fail
 have hbx:w.heap.size≤w1.heap.size:=hb0.size
 obtain⟨v2,E_,hv2,k7⟩:=Blk.a1 w1 67 #[.slice A1 (limbs P).length c1]
 replace hb0:=hb0.trans (hv2.mono hb0.size)
 replace o1:=o1.below hv2 nrf
 rw[E_]
 clear hv2 E_
 refine(nat_Bits A1 (limbs P) _ c1 rfl _ o1.rd).mono ?_
 rw[HB.out]
 rintro e w3 ⟨rfl,hb3⟩
 replace hb0:=hb0.trans (hb3.mono hb0.size)
 replace o1:=o1.below hb3 nrf
 replace k7:=k7.below hb3 k7.lt
 clear hb3
 obtain⟨k7c0,k7z,k7f0⟩:=k7.b1
 go_wp2_with fail
 clear k7c0 k7f0 k7z
 have hB7:=k7.lt
 refine(nat_Up A1 (limbs P) _ c1 rfl (128-(z:Int)) (by omega) (by omega) _ o1.rd).mono ?_
 rw[HU.out]
 rintro e w4 ⟨A2,c2,rfl,o2,hb4⟩
 replace hb0:=hb0.trans (hb4.mono hb0.size)
 replace o1:=o1.below hb4 nrf
 replace k7:=k7.below hb4 k7.lt
 clear hb4
 obtain⟨k7c0,k7z,k7f0⟩:=k7.b1
 obtain⟨b9,off9,rfl,hc9⟩:=o2.rd.open_ (by rw[HV4.out];decide)
 have y0:=hc9 0 (by rw[HV4.out];decide)
 have y1:=hc9 1 (by rw[HV4.out];decide)
 have y2:=hc9 2 (by rw[HV4.out];decide)
 have y3:=hc9 3 (by rw[HV4.out];decide)
 have s0:=(sm_limbs V).nth 0
 have s1:=(sm_limbs V).nth 1
 have s2:=(sm_limbs V).nth 2
 have s3:=(sm_limbs V).nth 3
 have hh:=HHI.out
 have hl:=HLO.out
 obtain⟨x0,hx0⟩:∃x,x=nth (limbs V) 0:=⟨_,rfl⟩
 obtain⟨x1,hx1⟩:∃x,x=nth (limbs V) 1:=⟨_,rfl⟩
 obtain⟨x2,hx2⟩:∃x,x=nth (limbs V) 2:=⟨_,rfl⟩
 obtain⟨x3,hx3⟩:∃x,x=nth (limbs V) 3:=⟨_,rfl⟩
 rw[←hx0] at y0 s0 hl
 rw[Nat.add_zero] at y0
 rw[←hx1] at y1 s1 hl
 rw[←hx2] at y2 s2 hh
 rw[←hx3] at y3 s3 hh
 have hor1:=or_half s3 s2
 have hor2:=or_half s1 s0
 rw[hh] at hor1
 rw[hl] at hor2
 have hb9:_≤b9:=(o2.block (g:=b9) rfl).1
 have hne9:¬b9=w1.heap.size:=by omega
 have hne8:¬w1.heap.size=b9:=by omega
 clear hh hl hx0 hx1 hx2 hx3 hc9
 go_wp2
 go_quiet (fail)
 go_wp2
 go_returns
 exact⟨by first|rfl|simp,bdn (hb0.setCell (by omega) _) _⟩

theorem power_ten_high (j:Nat) (hj:j≤400) (hzl:¬bitLen (5^j)≤128) (w:World) (hT:Tab5 w):
 Calls Tryz.prog 83 #[.int .i64 (j:Int)] w (Says w (TenP (j:Int))):=by
 have hf:farB (j:Int)=false:=far_no (by omega) (by omega)
 rw[tenP_ok hf]
 have hfv:=fun W h=>power_five j (by omega) W h
 have hf2:=fun W=>power_far (j:Int) W
 rw[hf] at hf2
 have hb5:=bitsS_lim (v:=5^j) (k:=30) (len5 ⟨j,by omega⟩) (by decide)
 have hsz:=tS_le hf
 have hts:tS (j:Int)=bitLen (5^j):=by unfold tS;rw[Int.natAbs_natCast]

 have hV4:=limbs_four (tenN_bd hf).1 (tenN_bd hf).2
 have hHi:=half_hi (tenN_bd hf).2
 have hLo:=half_lo (v:=tenN (j:Int))

 have hE:tenE (j:Int)=(j:Int)+((bitLen (5^j):Nat):Int)-128:=by
  unfold tenE;rw[if_neg (by omega),hts]
 have hX:tenX (j:Int)=false:=by
  unfold tenX;rw[hts,decide_eq_false hzl,Bool.and_false]
 have hV:5^j/2^(bitLen (5^j)-128)=tenN (j:Int):=by
  unfold tenN;rw[if_neg (by omega),hts,if_neg hzl,Int.natAbs_natCast]
 have hU:=downS_lim (v:=5^j) (k:=30) (len5 ⟨j,by omega⟩) (by decide) (bitLen (5^j)-128)
 rw[hV,show((bitLen (5^j)-128:Nat):Int)=((bitLen (5^j):Nat):Int)-128 by omega] at hU
 rw[hE,hX]
 rw[hts] at hsz
 clear hE hX hV hts
 generalize tenN (j:Int)=V at hU hV4 hHi hLo ⊢

 obtain⟨H,hH⟩:∃H,H=V/2^64:=⟨_,rfl⟩
 obtain⟨L,hL⟩:∃L,L=V%2^64:=⟨_,rfl⟩
 rw[←hH] at hHi ⊢
 rw[←hL] at hLo ⊢
 have HV4:=Lib.hid hV4
 have HHI:=Lib.hid hHi
 have HLO:=Lib.hid hLo
 have hb4:(((limbs V).length:Int) !=4)=false:=by rw[hV4];rfl
 have n0:0<(limbs V).length:=by omega
 have n1:1<(limbs V).length:=by omega
 have n2:2<(limbs V).length:=by omega
 have n3:3<(limbs V).length:=by omega
 have n1i:(1:Int)<((limbs V).length:Int):=by omega
 have n2i:(2:Int)<((limbs V).length:Int):=by omega
 have n3i:(3:Int)<((limbs V).length:Int):=by omega
 obtain⟨z,hz⟩:∃z,z=bitLen (5^j):=⟨_,rfl⟩
 rw[←hz] at hb5 hsz hzl hU ⊢
 obtain⟨P,hP⟩:∃P,P=5^j:=⟨_,rfl⟩
 rw[←hP] at hb5 hfv hU
 have HB:=Lib.hid hb5
 have HU:=Lib.hid hU
 have hgz:decide ((z:Int)≤128)=false:=by simp;omega
 have hb0:Below w.heap.size w w:=Below.refl _ _
 clear hH hL hV4 hHi hLo hz hP hb5 hf hU
 go_enter Tryz.func83,Tryz.ntmps83
 go_wp2_with fail
 refine(hf2 _).mono ?_
 rintro e w1 ⟨rfl,rfl⟩
 go_wp2_with fail
 refine(hfv _ hT).mono ?_
 rintro e w1 ⟨A1,c1,rfl,o1,hb1⟩
 replace hb0:=hb0.trans (hb1.mono hb0.size)
 clear hb1
 go_wp2_with fail
 have hbx:w.heap.size≤w1.heap.size:=hb0.size
 obtain⟨v2,E_,hv2,k7⟩:=Blk.a1 w1 67 #[.slice A1 (limbs P).length c1]
 replace hb0:=hb0.trans (hv2.mono hb0.size)
 replace o1:=o1.below hv2 nrf
 rw[E_]
 clear hv2 E_
 refine(nat_Bits A1 (limbs P) _ c1 rfl _ o1.rd).mono ?_
 rw[HB.out]
 rintro e w3 ⟨rfl,hb3⟩
 replace hb0:=hb0.trans (hb3.mono hb0.size)
 replace o1:=o1.below hb3 nrf
 replace k7:=k7.below hb3 k7.lt
 clear hb3
 obtain⟨k7c0,k7z,k7f0⟩:=k7.b1
 go_wp2_with fail
 clear k7c0 k7f0 k7z
 have hB7:=k7.lt
 refine(nat_Down A1 (limbs P) _ c1 rfl o1.le ((z:Int)-128) (by omega) (by omega) _ o1.rd).mono ?_
 rw[HU.out]
 rintro e w4 ⟨A2,c2,rfl,o2,hb4⟩
 replace hb0:=hb0.trans (hb4.mono hb0.size)
 replace o1:=o1.below hb4 nrf
 replace k7:=k7.below hb4 k7.lt
 clear hb4
 obtain⟨k7c0,k7z,k7f0⟩:=k7.b1
 obtain⟨b9,off9,rfl,hc9⟩:=o2.rd.open_ (by rw[HV4.out];decide)
 have y0:=hc9 0 (by rw[HV4.out];decide)
 have y1:=hc9 1 (by rw[HV4.out];decide)
 have y2:=hc9 2 (by rw[HV4.out];decide)
 have y3:=hc9 3 (by rw[HV4.out];decide)
 have s0:=(sm_limbs V).nth 0
 have s1:=(sm_limbs V).nth 1
 have s2:=(sm_limbs V).nth 2
 have s3:=(sm_limbs V).nth 3
 have hh:=HHI.out
 have hl:=HLO.out
 obtain⟨x0,hx0⟩:∃x,x=nth (limbs V) 0:=⟨_,rfl⟩
 obtain⟨x1,hx1⟩:∃x,x=nth (limbs V) 1:=⟨_,rfl⟩
 obtain⟨x2,hx2⟩:∃x,x=nth (limbs V) 2:=⟨_,rfl⟩
 obtain⟨x3,hx3⟩:∃x,x=nth (limbs V) 3:=⟨_,rfl⟩
 rw[←hx0] at y0 s0 hl
 rw[Nat.add_zero] at y0
 rw[←hx1] at y1 s1 hl
 rw[←hx2] at y2 s2 hh
 rw[←hx3] at y3 s3 hh
 have hor1:=or_half s3 s2
 have hor2:=or_half s1 s0
 rw[hh] at hor1
 rw[hl] at hor2
 have hb9:_≤b9:=(o2.block (g:=b9) rfl).1
 have hne9:¬b9=w1.heap.size:=by omega
 have hne8:¬w1.heap.size=b9:=by omega
 clear hh hl hx0 hx1 hx2 hx3 hc9
 go_wp2
 go_quiet (fail)
 go_wp2
 go_returns
 exact⟨by first|rfl|simp,bdn (hb0.setCell (by omega) _) _⟩

theorem power_ten_neg (j:Nat) (hj:j≤400) (h1:1≤j) (w:World) (hT:Tab5 w):
 Calls Tryz.prog 83 #[.int .i64 (-(j:Int))] w (Says w (TenP (-(j:Int)))):=by
 have hf:farB (-(j:Int))=false:=far_no (by omega) (by omega)
 rw[tenP_ok hf]
 have hfv:=fun W h=>power_five j (by omega) W h
 have hf2:=fun W=>power_far (-(j:Int)) W
 rw[hf] at hf2
 have hb5:=bitsS_lim (v:=5^j) (k:=30) (len5 ⟨j,by omega⟩) (by decide)
 have hsz:=tS_le hf
 have hts:tS (-(j:Int))=bitLen (5^j):=by unfold tS;rw[Int.natAbs_neg,Int.natAbs_natCast]

 have hV4:=limbs_four (tenN_bd hf).1 (tenN_bd hf).2
 have hHi:=half_hi (tenN_bd hf).2
 have hLo:=half_lo (v:=tenN (-(j:Int)))

 have hE:tenE (-(j:Int))= -(j:Int)-(((bitLen (5^j):Nat):Int)+127):=by
  unfold tenE;rw[if_pos (by omega),hts]
 have hX:tenX (-(j:Int))=false:=by
  unfold tenX;rw[decide_eq_true (show -(j:Int)<0 by omega)];rfl
 obtain⟨m,hm⟩:∃m,m=bitLen (5^j)+127:=⟨_,rfl⟩
 have hV:2^m/5^j=tenN (-(j:Int)):=by
  unfold tenN;rw[if_pos (by omega),hts,Int.natAbs_neg,Int.natAbs_natCast,hm]
 rw[hts] at hsz
 have hU:=upS_lim (v:=1) (k:=1) (by decide) (by decide) m (by omega)
 rw[Nat.one_mul,show(m:Int)=((bitLen (5^j):Nat):Int)+127 by omega] at hU
 have hp0:5^j≠0:=by have:=Nat.pow_pos (n:=j) (show 0<5 by decide);omega
 have h2m:2^m<4294967296^50:=two_lim (by omega)
 obtain⟨T,hTe⟩:∃T,T=2^m:=⟨_,rfl⟩
 rw[←hTe] at hU hV h2m
 obtain⟨R,hR⟩:∃R,R=T%5^j:=⟨_,rfl⟩
 have hdv:divS (limbs T) (limbs (5^j))=(limbs (T/5^j),limbs R,0):=by
  unfold divS
  rw[if_pos (by unfold chk2;rw[if_pos (chk_lim h2m (by decide))];exact chk_lim (len5 ⟨j,by omega⟩) (by decide)),val_limbs,val_limbs,if_neg hp0,hR]
 rw[hV] at hdv
 rw[hE,hX]
 clear hE hX hV hts hp0 h2m hTe hm hR
 generalize tenN (-(j:Int))=V at hdv hV4 hHi hLo ⊢

 obtain⟨H,hH⟩:∃H,H=V/2^64:=⟨_,rfl⟩
 obtain⟨L,hL⟩:∃L,L=V%2^64:=⟨_,rfl⟩
 rw[←hH] at hHi ⊢
 rw[←hL] at hLo ⊢
 have HV4:=Lib.hid hV4
 have HHI:=Lib.hid hHi
 have HLO:=Lib.hid hLo
 have hb4:(((limbs V).length:Int) !=4)=false:=by rw[hV4];rfl
 have n0:0<(limbs V).length:=by omega
 have n1:1<(limbs V).length:=by omega
 have n2:2<(limbs V).length:=by omega
 have n3:3<(limbs V).length:=by omega
 have n1i:(1:Int)<((limbs V).length:Int):=by omega
 have n2i:(2:Int)<((limbs V).length:Int):=by omega
 have n3i:(3:Int)<((limbs V).length:Int):=by omega
 obtain⟨z,hz⟩:∃z,z=bitLen (5^j):=⟨_,rfl⟩
 rw[←hz] at hb5 hsz hU ⊢
 obtain⟨P,hP⟩:∃P,P=5^j:=⟨_,rfl⟩
 rw[←hP] at hb5 hfv hdv
 have HB:=Lib.hid hb5
 have HU:=Lib.hid hU
 have HDV:=Lib.hid hdv
 have hb0:Below w.heap.size w w:=Below.refl _ _
 clear hH hL hV4 hHi hLo hz hP hb5 hf hU hdv
 go_enter Tryz.func83,Tryz.ntmps83
 go_wp2_with fail
 refine(hf2 _).mono ?_
 rintro e w1 ⟨rfl,rfl⟩
 go_wp2_with fail
 refine(hfv _ hT).mono ?_
 rintro e w1 ⟨A1,c1,rfl,o1,hb1⟩
 replace hb0:=hb0.trans (hb1.mono hb0.size)
 clear hb1
 go_wp2_with fail
 have hbx:w.heap.size≤w1.heap.size:=hb0.size
 obtain⟨v2,E_,hv2,k7⟩:=Blk.a1 w1 67 #[.slice A1 (limbs P).length c1]
 replace hb0:=hb0.trans (hv2.mono hb0.size)
 replace o1:=o1.below hv2 nrf
 rw[E_]
 clear hv2 E_
 refine(nat_Bits A1 (limbs P) _ c1 rfl _ o1.rd).mono ?_
 rw[HB.out]
 rintro e w3 ⟨rfl,hb3⟩
 replace hb0:=hb0.trans (hb3.mono hb0.size)
 replace o1:=o1.below hb3 nrf
 replace k7:=k7.below hb3 k7.lt
 clear hb3
 obtain⟨k7c0,k7z,k7f0⟩:=k7.b1
 go_wp2_with fail
 clear k7c0 k7f0 k7z
 refine(nat_Of 1 1 rfl (by decide) _).mono ?_
 rintro e w4 ⟨A2,c2,rfl,o2,hb4⟩
 replace hb0:=hb0.trans (hb4.mono hb0.size)
 replace o1:=o1.below hb4 nrf
 replace k7:=k7.below hb4 k7.lt
 clear hb4
 obtain⟨k7c0,k7z,k7f0⟩:=k7.b1
 go_wp2_with fail
 clear k7c0 k7f0 k7z
 refine(nat_Up A2 (limbs 1) _ c2 rfl ((z:Int)+127) (by omega) (by omega) _ o2.rd).mono ?_
 rw[HU.out]
 rintro e w5 ⟨A3,c3,rfl,o3,hb5⟩
 replace hb0:=hb0.trans (hb5.mono hb0.size)
 replace o1:=o1.below hb5 nrf
 replace k7:=k7.below hb5 k7.lt
 replace o2:=o2.below hb5 nrf
 clear hb5
 obtain⟨k7c0,k7z,k7f0⟩:=k7.b1
 go_wp2_with fail
 clear k7c0 k7f0 k7z
 obtain⟨v6,E_,hv6,k11⟩:=Blk.a1 w5 67 #[.slice A3 (limbs T).length c3]
 replace hb0:=hb0.trans (hv6.mono hb0.size)
 replace o1:=o1.below hv6 nrf
 replace k7:=k7.below hv6 k7.lt
 replace o2:=o2.below hv6 nrf
 replace o3:=o3.below hv6 nrf
 rw[E_]
 clear hv6 E_
 have hB7:=k7.lt
 refine(nat_Div A3 A1 (limbs T) (limbs P) _ _ c3 c1 rfl rfl _ o3.rd o1.rd).mono ?_
 rw[HDV.out]
 rintro e w7 ⟨A4,c4,A5,c5,rfl,o4,o5,hb7⟩
 replace hb0:=hb0.trans (hb7.mono hb0.size)
 replace o1:=o1.below hb7 nrf
 replace k7:=k7.below hb7 k7.lt
 replace o2:=o2.below hb7 nrf
 replace o3:=o3.below hb7 nrf
 replace k11:=k11.below hb7 k11.lt
 clear hb7
 obtain⟨k7c0,k7z,k7f0⟩:=k7.b1
 obtain⟨k11c0,k11z,k11f0⟩:=k11.b1
 obtain⟨b9,off9,rfl,hc9⟩:=o4.rd.open_ (by rw[HV4.out];decide)
 have y0:=hc9 0 (by rw[HV4.out];decide)
 have y1:=hc9 1 (by rw[HV4.out];decide)
 have y2:=hc9 2 (by rw[HV4.out];decide)
 have y3:=hc9 3 (by rw[HV4.out];decide)
 have s0:=(sm_limbs V).nth 0
 have s1:=(sm_limbs V).nth 1
 have s2:=(sm_limbs V).nth 2
 have s3:=(sm_limbs V).nth 3
 have hh:=HHI.out
 have hl:=HLO.out
 obtain⟨x0,hx0⟩:∃x,x=nth (limbs V) 0:=⟨_,rfl⟩
 obtain⟨x1,hx1⟩:∃x,x=nth (limbs V) 1:=⟨_,rfl⟩
 obtain⟨x2,hx2⟩:∃x,x=nth (limbs V) 2:=⟨_,rfl⟩
 obtain⟨x3,hx3⟩:∃x,x=nth (limbs V) 3:=⟨_,rfl⟩
 rw[←hx0] at y0 s0 hl
 rw[Nat.add_zero] at y0
 rw[←hx1] at y1 s1 hl
 rw[←hx2] at y2 s2 hh
 rw[←hx3] at y3 s3 hh
 have hor1:=or_half s3 s2
 have hor2:=or_half s1 s0
 rw[hh] at hor1
 rw[hl] at hor2
 have hb9:_≤b9:=(o4.block (g:=b9) rfl).1
 have hne9:¬b9=w1.heap.size:=by omega
 have hne8:¬w1.heap.size=b9:=by omega
 clear hh hl hx0 hx1 hx2 hx3 hc9
 go_wp2
 go_quiet (fail)
 go_wp2
 go_returns
 exact⟨by first|rfl|simp,bdn (hb0.setCell (by omega) _) _⟩

theorem power_ten (k:Int) (w:World) (hT:Tab5 w):Calls Tryz.prog 83 #[.int .i64 k] w (Says w (TenP k)):=by
 cases hf:farB k
 · rcases ten_cases hf with ⟨j,hj,rfl⟩|⟨j,h1,hj,rfl⟩
   · by_cases hz:bitLen (5^j)≤128
     · exact power_ten_low j hj hz w hT
     · exact power_ten_high j hj hz w hT
   · exact power_ten_neg j hj h1 w hT
 · exact power_ten_far k hf w

theorem power_Ten (k:Int) (w:World) (hT:Tab5 w):Calls Tryz.prog 35 #[.int .i64 k] w (Says w (.tuple #[.int .u64 ((tenHi k:Nat):Int),.int .u64 ((tenLo k:Nat):Int),.int .i64 (tenEx k),.int .i64 (tenEr k)])):=by
 have h:=fun W hT=>power_ten k W hT
 unfold TenP at h
 generalize tenHi k=H at h ⊢
 generalize tenLo k=L at h ⊢
 generalize tenEx k=X at h ⊢
 generalize tenEr k=R at h ⊢
 generalize wholeB k=B at h
 go_enter Tryz.func35,Tryz.ntmps35
 go_wp2_with fail
 refine(h _ hT).mono ?_
 rintro e w1 ⟨rfl,hb1⟩
 go_wp2
 go_returns
 exact⟨rfl,hb1⟩
theorem power_Whole (k:Int) (w:World) (hT:Tab5 w):Calls Tryz.prog 36 #[.int .i64 k] w (Says w (.tuple #[.bool (wholeB k),.int .i64 (tenEr k)])):=by
 have h:=fun W hT=>power_ten k W hT
 unfold TenP at h
 generalize tenHi k=H at h
 generalize tenLo k=L at h
 generalize tenEx k=X at h
 generalize tenEr k=R at h ⊢
 generalize wholeB k=B at h ⊢
 go_enter Tryz.func36,Tryz.ntmps36
 go_wp2_with fail
 refine(h _ hT).mono ?_
 rintro e w1 ⟨rfl,hb1⟩
 go_wp2
 go_ret2
 exact⟨rfl,hb1⟩
theorem run_add64T (x y:Nat) (w:World):(callFunc 85 #[.int .u64 (x:Int),.int .u64 (y:Int),.int .u64 0]).run Tryz.prog w=.ok (.value (.tuple #[.int .u64 (((x+y)%18446744073709551616:Nat):Int),.int .u64 (((x+y)/18446744073709551616:Nat):Int)])) w:=by
 rw[run_callFunc_extern (fn:=Tryz.f85) (by kernel_rfl) (by kernel_rfl) (by kernel_rfl) (by kernel_rfl) (e:=add64Entry) (by kernel_rfl),run_add64 (x:Int) (y:Int) 0 (by omega) (by omega) (by omega) (by omega)]
 simp
end Go.Proofs.YtenekbfnlbipiaaGreatDoor
