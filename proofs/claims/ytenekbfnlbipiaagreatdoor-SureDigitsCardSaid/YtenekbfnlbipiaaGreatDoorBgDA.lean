/- Layer 4's numbers: the odd part apart from its power of two. No program here. -/
import Derived.Test.YtenekbfnlbipiaaGreatDoorBgAE
import Derived.Test.YtenekbfnlbipiaaGreatDoorM
import Derived.Test.YtenekbfnlbipiaaGreatDoorTnB
import Derived.Test.YtenekbfnlbipiaaGreatDoorSuN
namespace Go.Proofs.YtenekbfnlbipiaaGreatDoor
open Go.RowKit
set_option linter.unusedVariables false
set_option linter.unusedSimpArgs false
set_option maxHeartbeats 4000000
set_option maxRecDepth 100000
namespace Bg
def dyK (v:Nat):Nat:=v/2^tz v
def dyE (v:Nat) (q:Int):Int:=if v=0 then 0 else q+(tz v:Int)
theorem dy_zero:dyK 0=0:=by unfold dyK;rw[Nat.zero_div]
theorem dy_spec {v:Nat} (h0:v≠0):v=dyK v*2^tz v∧dyK v%2=1:=by
 obtain⟨m,hm⟩:=tz_spec h0
 have hk:dyK v=2*m+1:=by
  unfold dyK
  exact Nat.div_eq_of_eq_mul_right (Nat.two_pow_pos _) hm
 rw[hk]
 exact⟨by rw[Nat.mul_comm];exact hm,by omega⟩
theorem dyK_le (v:Nat):dyK v≤v:=Nat.div_le_self _ _
theorem dyK_ne {v:Nat} (h0:v≠0):dyK v≠0:=by
 have:=(dy_spec h0).2
 intro h;rw[h] at this;cases this
theorem dy_shift {v:Nat} (h0:v≠0) (j:Nat):dyK (v*2^j)=dyK v∧tz (v*2^j)=tz v+j:=by
 obtain⟨m,hm⟩:=tz_spec h0
 have ht:tz (v*2^j)=tz v+j:=by
  refine tz_of (m:=m) ?_
  rw[Nat.pow_add]
  conv=>lhs;rw[hm]
  ac_rfl
 refine⟨?_,ht⟩
 unfold dyK
 rw[ht,Nat.pow_add,Nat.mul_div_mul_right _ _ (Nat.two_pow_pos j)]
theorem dy_same {v v' a b:Nat} {q q':Int} (h0:v≠0) (hv:v*2^a=v'*2^b) (hq:q-(a:Int)=q'-(b:Int)):dyK v=dyK v'∧dyE v q=dyE v' q':=by
 have h1:v'≠0:=by
  rintro rfl
  rw[Nat.zero_mul] at hv
  rcases Nat.mul_eq_zero.1 hv with h|h
  · exact h0 h
  · exact absurd h (Nat.ne_of_gt (Nat.two_pow_pos a))
 obtain⟨k1,t1⟩:=dy_shift h0 a
 obtain⟨k2,t2⟩:=dy_shift h1 b
 rw[hv] at k1 t1
 refine⟨by rw[←k1,k2],?_⟩
 unfold dyE
 rw[if_neg h0,if_neg h1]
 omega
theorem tz_bit {v k:Nat} (h0:v≠0) (hk:k≤tz v):v.testBit k=decide (k=tz v):=by
 obtain⟨m,hm⟩:=tz_spec h0
 have e:v.testBit k=(2^tz v*(2*m+1)).testBit k:=by rw[←hm]
 rw[e,Nat.testBit_two_pow_mul]
 by_cases h:k=tz v
 · rw[h,decide_eq_true rfl,Nat.sub_self,Nat.testBit_zero]
   simp
 · rw[decide_eq_false h,decide_eq_false (by omega:¬k≥tz v)]
   rfl
theorem tz_lt {v N:Nat} (h:(limbs v).length≤N):tz v≤32*N:=tz_le h
def DyT (w:World) (v:Nat) (q:Int) (e:Ending) (w':World):Prop:=
 ∃B k,e=.returned (.tuple #[.agg #[.bool false,.slice B (limbs (dyK v)).length k,.int .i64 (dyE v q)],.int .i64 0])∧Own w' 153 w.heap.size B k (limbs (dyK v))∧Below w.heap.size w w'
def DyO (w:World) (v:Nat) (q:Int) (e:Ending) (w':World):Prop:=
 ∃B k,e=.returned (.agg #[.bool false,.slice B (limbs (dyK v)).length k,.int .i64 (dyE v q)])∧Own w' 153 w.heap.size B k (limbs (dyK v))∧Below w.heap.size w w'
theorem chk_ok {v:Nat} (h:(limbs v).length≤200):chk (limbs v)=0:=chk_limbs_of (by omega)
end Bg
namespace Bg
theorem ref04_none (A:Option Addr) (v c:Nat) (w:World):
 Calls Tryz.prog 170 #[.agg #[.slice A (limbs v).length c]] w (Says w (.bool (decide (v=0)))):=by
 have hd:decide (v=0)=(((limbs v).length:Int)==0):=by
  rw[Bool.eq_iff_iff,decide_eq_true_iff,beq_iff_eq]
  rw[←limbs_eq_nil, ←List.length_eq_zero_iff]
  omega
 obtain⟨b,hb⟩:∃b,b=(((limbs v).length:Int)==0):=⟨_,rfl⟩
 rw[←hb] at hd
 have hb':(((limbs v).length:Int)==0)=b:=hb.symm
 clear hb
 obtain⟨v0,hv0,ha0,k1⟩:=Blk.al w 67 #[.slice A (limbs v).length c]
 have hs0:v0.heap.size=w.heap.size+1:=by rw[hv0];simp
 have hb0:=ha0
 go_enter Tryz.func170,Tryz.ntmps170
 go_upto_region 1 with fail
 rw[←hv0]
 clear hv0 hs0 ha0
 obtain⟨k1c0,k1z,k1f0⟩:=k1.b1
 go_wp2
 go_ret
 exact⟨by rw[hd];rfl,hb0⟩
theorem ref04_far (n:Int) (h1: -1073741824≤n) (h2:n≤1073741824) (w:World):Calls Tryz.prog 211 #[.int .i64 n] w fun e w'=>e=.returned (.bool false)∧w=w':=by
 have g1:decide (n< -1073741824)=false:=by simp;omega
 have g2:decide (1073741824<n)=false:=by simp;omega
 go_enter Tryz.func211,Tryz.ntmps211
 go_wp2
 go_ret
 exact⟨rfl,rfl⟩
theorem ref04_even (A:Option Addr) (v c:Nat) (hv:v≠0) (hl:(limbs v).length≤200) (w:World) (h:Rd w A (limbs v)):
 Calls Tryz.prog 210 #[.agg #[.slice A (limbs v).length c]] w (Says w (.int .i64 (tz v:Int))):=by
 have htz:tz v≤6400:=tz_lt hl
 obtain⟨v0,hv0,ha0,k1⟩:=Blk.al w 67 #[.slice A (limbs v).length c]
 have hs0:v0.heap.size=w.heap.size+1:=by rw[hv0];simp
 have hb0:=ha0
 go_enter Tryz.func210,Tryz.ntmps210
 go_upto_region 1 with fail
 rw[←hv0]
 clear hv0 hs0 ha0
 go_wp2
 go_loopw [3] (fun v3 wr=>∃k:Nat,k≤tz v∧v3=.int .i64 (k:Int)∧Blk wr w.heap.size 67 #[.slice A (limbs v).length c]∧Rd wr A (limbs v)∧Below w.heap.size w wr) (fun v3 _=>tz v-(intOf v3).toNat)
 case atStart=>exact⟨0,Nat.zero_le _,rfl,k1,h.below hb0,hb0⟩
 case round=>
  clear k1 hb0
  obtain⟨k,hk,rfl,k1,hr,hb0⟩:=hrel
  have hkb:k≤100000:=by omega
  have hB:=fun W hW=>ref_Bit A (limbs v) _ c rfl (k:Int) (by omega) (by omega) W hW
  have hbs:bitS (limbs v) (k:Int)=(decide (k=tz v),0):=by
   unfold bitS
   rw[if_pos (chk_ok hl),if_neg (by omega),val_limbs,Int.toNat_natCast,tz_bit hv hk]
  rw[hbs] at hB
  have HB:=Lib.hid hB
  clear hB hbs
  obtain⟨k1c0,k1z,k1f0⟩:=k1.b1
  go_wp2_with fail
  clear k1c0 k1f0 k1z
  refine(HB.out _ hr).mono ?_
  rintro e w1 ⟨rfl,hb1⟩
  replace k1:=k1.below hb1 k1.lt
  replace hb0:=hb0.trans (hb1.mono hb0.size)
  replace hr:=hr.below hb1
  clear hb1
  by_cases hkt:k=tz v
  · have hd:decide (k=tz v)=true:=decide_eq_true hkt
    rw[hd]
    have HK:=Lib.hid hkt
    clear hkt hd HB
    obtain⟨k1c0,k1z,k1f0⟩:=k1.b1
    go_wp2
    go_ret
    exact⟨by rw[HK.out];rfl,hb0⟩
  · have hd:decide (k=tz v)=false:=decide_eq_false hkt
    rw[hd]
    clear hd HB
    obtain⟨k1c0,k1z,k1f0⟩:=k1.b1
    go_wp2
    go_roundw
    case rel=>exact⟨k+1,by omega,rfl,k1,hr,hb0⟩
    case measure=>first|(simp[intOf];done)|(simp[intOf];omega)
theorem ref04_Make_pos (A:Option Addr) (v c:Nat) (q:Int) (hv:v≠0) (hl:(limbs v).length≤200) (hq1: -100000≤q) (hq2:q≤100000) (w:World) (h:Rd w A (limbs v)):
 Calls Tryz.prog 166 #[.bool false,.agg #[.slice A (limbs v).length c],.int .i64 q] w (DyT w v q):=by
 have htz:tz v≤6400:=tz_lt hl
 have hDn:=fun W hW=>ref_Down A (limbs v) _ c rfl (tz v:Int) (by omega) (by omega) W hW
 have hds:downS (limbs v) (tz v:Int)=(limbs (dyK v),0):=by
  unfold downS dyK
  rw[if_pos (chk_ok hl),if_neg (by omega),val_limbs,Int.toNat_natCast]
 rw[hds] at hDn
 have hx3:decide ((1073741824:Int)<q)=false:=by simp;omega
 have hx4:decide (q<(-2147483648:Int))=false:=by simp;omega
 have HE:=Lib.hid (show dyE v q=q+(tz v:Int) by unfold dyE;rw[if_neg hv])
 clear hds

 obtain⟨v0,hv0,ha0,k1⟩:=Blk.al w 67 #[.slice A (limbs v).length c]
 have hs0:v0.heap.size=w.heap.size+1:=by rw[hv0];simp
 have hb0:=ha0
 obtain⟨v1,hv1,ha1,k2⟩:=Blk.al v0 117 #[.bool false,.slice none 0 0,.int .i64 0]
 have hs1:v1.heap.size=v0.heap.size+1:=by rw[hv1];simp
 replace k1:=k1.below ha1 k1.lt
 replace hb0:=hb0.trans (ha1.mono hb0.size)
 rw[hs0] at k2
 go_enter Tryz.func166,Tryz.ntmps166
 go_upto_region 1 with fail
 rw[←hv0, ←hv1]
 clear hv0 hs0 ha0 hv1 hs1 ha1
 replace h:=h.below hb0
 obtain⟨k1c0,k1z,k1f0⟩:=k1.b1
 obtain⟨k2c0,k2c1,k2c2,k2z,k2f0,k2f1,k2f2⟩:=k2.b3
 go_wp2_with fail
 clear k1c0 k1f0 k2c0 k2f0 k2c1 k2f1 k2c2 k2f2 k1z k2z
 refine(ref_Check A (limbs v) _ c rfl _ h).mono ?_
 rintro e w1 ⟨rfl,hb1⟩
 replace k1:=k1.below hb1 k1.lt
 replace k2:=k2.below hb1 k2.lt
 replace hb0:=hb0.trans (hb1.mono hb0.size)
 replace h:=h.below hb1
 clear hb1
 rw[chk_ok hl]
 obtain⟨k1c0,k1z,k1f0⟩:=k1.b1
 obtain⟨k2c0,k2c1,k2c2,k2z,k2f0,k2f1,k2f2⟩:=k2.b3
 go_wp2_with fail
 clear k1c0 k1f0 k2c0 k2f0 k2c1 k2f1 k2c2 k2f2 k1z k2z
 refine(ref04_none A v c _).mono ?_
 rintro e w2 ⟨rfl,hb2⟩
 replace k1:=k1.below hb2 k1.lt
 replace k2:=k2.below hb2 k2.lt
 replace hb0:=hb0.trans (hb2.mono hb0.size)
 replace h:=h.below hb2
 clear hb2
 rw[decide_eq_false hv]
 obtain⟨k1c0,k1z,k1f0⟩:=k1.b1
 obtain⟨k2c0,k2c1,k2c2,k2z,k2f0,k2f1,k2f2⟩:=k2.b3
 go_wp2_with fail
 clear k1c0 k1f0 k2c0 k2f0 k2c1 k2f1 k2c2 k2f2 k1z k2z
 refine(ref04_even A v c hv hl _ h).mono ?_
 rintro e w3 ⟨rfl,hb3⟩
 replace k1:=k1.below hb3 k1.lt
 replace k2:=k2.below hb3 k2.lt
 replace hb0:=hb0.trans (hb3.mono hb0.size)
 replace h:=h.below hb3
 clear hb3
 obtain⟨k1c0,k1z,k1f0⟩:=k1.b1
 obtain⟨k2c0,k2c1,k2c2,k2z,k2f0,k2f1,k2f2⟩:=k2.b3
 go_wp2_with fail
 clear k1c0 k1f0 k2c0 k2f0 k2c1 k2f1 k2c2 k2f2 k1z k2z
 refine(ref04_far (q+(tz v:Int)) (by omega) (by omega) _).mono ?_
 rintro e w4 ⟨rfl,rfl⟩
 obtain⟨k1c0,k1z,k1f0⟩:=k1.b1
 obtain⟨k2c0,k2c1,k2c2,k2z,k2f0,k2f1,k2f2⟩:=k2.b3
 go_wp2_with fail
 clear k1c0 k1f0 k2c0 k2f0 k2c1 k2f1 k2c2 k2f2 k1z k2z
 have z4:=k2.lt
 refine(hDn _ h).mono ?_
 rintro e w5 ⟨B,k,rfl,own1,hb5⟩
 replace k1:=k1.below hb5 k1.lt
 replace k2:=k2.below hb5 k2.lt
 replace hb0:=hb0.trans (hb5.mono hb0.size)
 replace h:=h.below hb5
 clear hb5
 obtain⟨k1c0,k1z,k1f0⟩:=k1.b1
 obtain⟨k2c0,k2c1,k2c2,k2z,k2f0,k2f1,k2f2⟩:=k2.b3
 go_wp2
 refine bodyPost_ret (v:=.tuple #[.agg #[.bool false,.slice B (limbs (dyK v)).length k,.int .i64 (q+(tz v:Int))],.int .i64 0]) ?_ rfl ⟨B,k,by rw[HE.out],((((own1.setCell z4 _).setCell z4 _).setCell z4 _).alloc _).mono (by omega),((bel3 hb0 (w.heap.size+1) (by simp)).alloc (by simp;omega) _)⟩
 refine results_cell_tmp rfl _ _ (w.heap.size+1) _ _ _ _ _ ?_ ?_ ((((k2.set_ 0 _).set_ 1 _).set_ 2 _).alloc _) Tryz.underlying117 rfl (by kernel_rfl)
 · rfl
 · rfl
theorem ref04_Make_none (A:Option Addr) (c:Nat) (q:Int) (w:World) (h:Rd w A (limbs 0)):
 Calls Tryz.prog 166 #[.bool false,.agg #[.slice A (limbs 0).length c],.int .i64 q] w (DyT w 0 q):=by
 obtain⟨v0,hv0,ha0,k1⟩:=Blk.al w 67 #[.slice A (limbs 0).length c]
 have hs0:v0.heap.size=w.heap.size+1:=by rw[hv0];simp
 have hb0:=ha0
 obtain⟨v1,hv1,ha1,k2⟩:=Blk.al v0 117 #[.bool false,.slice none 0 0,.int .i64 0]
 have hs1:v1.heap.size=v0.heap.size+1:=by rw[hv1];simp
 replace k1:=k1.below ha1 k1.lt
 replace hb0:=hb0.trans (ha1.mono hb0.size)
 rw[hs0] at k2
 go_enter Tryz.func166,Tryz.ntmps166
 go_upto_region 1 with fail
 rw[←hv0, ←hv1]
 clear hv0 hs0 ha0 hv1 hs1 ha1
 replace h:=h.below hb0
 obtain⟨k1c0,k1z,k1f0⟩:=k1.b1
 obtain⟨k2c0,k2c1,k2c2,k2z,k2f0,k2f1,k2f2⟩:=k2.b3
 go_wp2_with fail
 clear k1c0 k1f0 k2c0 k2f0 k2c1 k2f1 k2c2 k2f2 k1z k2z
 refine(ref_Check A (limbs 0) _ c rfl _ h).mono ?_
 rintro e w1 ⟨rfl,hb1⟩
 replace k1:=k1.below hb1 k1.lt
 replace k2:=k2.below hb1 k2.lt
 replace hb0:=hb0.trans (hb1.mono hb0.size)
 replace h:=h.below hb1
 clear hb1
 rw[show chk (limbs 0)=0 from rfl]
 obtain⟨k1c0,k1z,k1f0⟩:=k1.b1
 obtain⟨k2c0,k2c1,k2c2,k2z,k2f0,k2f1,k2f2⟩:=k2.b3
 go_wp2_with fail
 clear k1c0 k1f0 k2c0 k2f0 k2c1 k2f1 k2c2 k2f2 k1z k2z
 refine(ref04_none A 0 c _).mono ?_
 rintro e w2 ⟨rfl,hb2⟩
 replace k1:=k1.below hb2 k1.lt
 replace k2:=k2.below hb2 k2.lt
 replace hb0:=hb0.trans (hb2.mono hb0.size)
 replace h:=h.below hb2
 clear hb2
 rw[decide_eq_true (rfl:(0:Nat)=0)]
 obtain⟨k1c0,k1z,k1f0⟩:=k1.b1
 obtain⟨k2c0,k2c1,k2c2,k2z,k2f0,k2f1,k2f2⟩:=k2.b3
 go_wp2
 refine bodyPost_ret (v:=.tuple #[.agg #[.bool false,.slice none 0 0,.int .i64 0],.int .i64 0]) ?_ rfl ⟨none,0,rfl,Own.nil _ _ _,((bel3 hb0 (w.heap.size+1) (by simp)))⟩
 refine results_cell_tmp rfl _ _ (w.heap.size+1) _ _ _ _ _ ?_ ?_ ((((k2.set_ 0 _).set_ 1 _).set_ 2 _)) Tryz.underlying117 rfl (by kernel_rfl)
 · rfl
 · rfl
theorem ref04_Make (A:Option Addr) (v c:Nat) (q:Int) (hl:(limbs v).length≤200) (hq1: -100000≤q) (hq2:q≤100000) (w:World) (h:Rd w A (limbs v)):
 Calls Tryz.prog 166 #[.bool false,.agg #[.slice A (limbs v).length c],.int .i64 q] w (DyT w v q):=by
 by_cases hv:v=0
 · subst hv;exact ref04_Make_none A c q w h
 · exact ref04_Make_pos A v c q hv hl hq1 hq2 w h
end Bg
end Go.Proofs.YtenekbfnlbipiaaGreatDoor
