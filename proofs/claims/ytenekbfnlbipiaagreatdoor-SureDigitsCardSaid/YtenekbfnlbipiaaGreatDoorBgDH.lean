/- Walks: layer 6's half, worth, power; layer 19's least and greatest; layer 2's numbers and fractions. -/
import Derived.Test.YtenekbfnlbipiaaGreatDoorBgDC
import Derived.Test.YtenekbfnlbipiaaGreatDoorBgDG
import Derived.Test.YtenekbfnlbipiaaGreatDoorBgW
import Derived.Test.YtenekbfnlbipiaaGreatDoorBgAN
namespace Go.Proofs.YtenekbfnlbipiaaGreatDoor
open Go.RowKit
set_option linter.unusedVariables false
set_option linter.unusedSimpArgs false
set_option maxHeartbeats 4000000
set_option maxRecDepth 100000
namespace Bg
theorem ref06_half (E F:Nat) (hE:E≤11) (hF:F≤52) (S:Nat) (hS:S=2^(E+F)) (w:World):
 Calls Tryz.prog 69 #[.agg #[.int .i64 (E:Int),.int .i64 (F:Int)]] w (Says w (.int .u64 (S:Int))):=by
 have HS:=Lib.hid hS
 clear hS
 obtain⟨v0,hv0,ha0,k1⟩:=Blk.al w 23 #[.int .i64 (E:Int),.int .i64 (F:Int)]
 have hs0:v0.heap.size=w.heap.size+1:=by rw[hv0];simp
 have hb0:=ha0
 go_enter Tryz.func69,Tryz.ntmps69
 go_upto_region 1 with fail
 rw[←hv0]
 clear hv0 hs0 ha0
 obtain⟨k1c0,k1c1,k1z,k1f0,k1f1⟩:=k1.b2
 go_wp2_with fail
 clear k1c0 k1f0 k1c1 k1f1 k1z
 refine(Fo.ref_Pow2 ((E:Int)+(F:Int)) (E+F) S (by omega) (by omega) HS.out _).mono ?_
 rintro e w1 ⟨rfl,rfl⟩
 go_wp2
 go_ret
 exact⟨rfl,hb0⟩
theorem ref06_worth (E F b:Nat) (hE2:2≤E) (hE:E≤11) (hF1:1≤F) (hF:F≤52) (hb64:b<18446744073709551616) (hb:b<2^(E+F)) (X Y:Nat) (hX:X=b/2^F%2^E) (hY:Y=b%2^F) (hXm:X+1≠2^E) (w:World):
 Calls Tryz.prog 70 #[.agg #[.int .i64 (E:Int),.int .i64 (F:Int)],.int .u64 (b:Int)] w (DyO w (mF F X Y) (qF E F X)):=by
 have hV:=fun W=>ref04_Value E F b hE2 hE hF1 hF hb64 hb X Y hX hY hXm W
 unfold DyT at hV
 unfold DyO
 generalize dyK (mF F X Y)=KV at*
 generalize dyE (mF F X Y) (qF E F X)=DE at*
 clear hb hX hY hXm
 obtain⟨v0,hv0,ha0,k1⟩:=Blk.al w 23 #[.int .i64 (E:Int),.int .i64 (F:Int)]
 have hs0:v0.heap.size=w.heap.size+1:=by rw[hv0];simp
 have hb0:=ha0
 obtain⟨v1,hv1,ha1,k2⟩:=Blk.al v0 117 #[.bool false,.slice none 0 0,.int .i64 0]
 have hs1:v1.heap.size=v0.heap.size+1:=by rw[hv1];simp
 replace k1:=k1.below ha1 k1.lt
 replace hb0:=hb0.trans (ha1.mono hb0.size)
 rw[hs0] at k2
 go_enter Tryz.func70,Tryz.ntmps70
 go_upto_region 1 with fail
 rw[←hv0, ←hv1]
 clear hv0 hs0 ha0 hv1 hs1 ha1
 have z4:=k2.lt
 obtain⟨k1c0,k1c1,k1z,k1f0,k1f1⟩:=k1.b2
 obtain⟨k2c0,k2c1,k2c2,k2z,k2f0,k2f1,k2f2⟩:=k2.b3
 go_wp2_with fail
 clear k1c0 k1f0 k1c1 k1f1 k2c0 k2f0 k2c1 k2f1 k2c2 k2f2 k1z k2z
 refine(hV _).mono ?_
 rintro e w1 ⟨B,k,rfl,own1,hb1⟩
 replace k1:=k1.below hb1 k1.lt
 replace k2:=k2.below hb1 k2.lt
 replace hb0:=hb0.trans (hb1.mono hb0.size)
 clear hb1
 obtain⟨k1c0,k1c1,k1z,k1f0,k1f1⟩:=k1.b2
 obtain⟨k2c0,k2c1,k2c2,k2z,k2f0,k2f1,k2f2⟩:=k2.b3
 go_wp2
 refine bodyPost_ret (v:=.agg #[.bool false,.slice B (limbs KV).length k,.int .i64 DE]) ?_ rfl ⟨B,k,rfl,((((own1.setCell z4 _).setCell z4 _).setCell z4 _).alloc _).mono (by omega),((bel3 hb0 (w.heap.size+1) (by simp)).alloc (by simp;omega) _)⟩
 refine results_cell_row rfl _ _ (w.heap.size+1) _ _ _ _ ?_ ((((k2.set_ 0 _).set_ 1 _).set_ 2 _).alloc _) Tryz.underlying117 rfl (by kernel_rfl)
 rfl
theorem ref06_power (n:Nat) (q:Int) (hn:n<18446744073709551616) (hq1: -100000≤q) (hq2:q≤100000) (w:World):
 Calls Tryz.prog 121 #[.bool false,.int .u64 (n:Int),.int .i64 q] w (DyO w n q):=by
 have hOf:=fun W=>ref_Of (n:Int) n rfl hn W
 have hMk:=fun A c W hW=>ref04_Make A n c q (by have:=limbs_two hn;omega) hq1 hq2 W hW
 unfold DyT at hMk
 unfold DyO
 generalize dyK n=KV at*
 generalize dyE n q=DE at*
 obtain⟨v0,hv0,ha0,k1⟩:=Blk.al w 117 #[.bool false,.slice none 0 0,.int .i64 0]
 have hs0:v0.heap.size=w.heap.size+1:=by rw[hv0];simp
 have hb0:=ha0
 go_enter Tryz.func121,Tryz.ntmps121
 go_upto_region 1 with fail
 rw[←hv0]
 clear hv0 hs0 ha0
 obtain⟨k1c0,k1c1,k1c2,k1z,k1f0,k1f1,k1f2⟩:=k1.b3
 go_wp2_with fail
 clear k1c0 k1f0 k1c1 k1f1 k1c2 k1f2 k1z
 refine(hOf _).mono ?_
 rintro e w1 ⟨A,c,rfl,own0,hb1⟩
 replace k1:=k1.below hb1 k1.lt
 replace hb0:=hb0.trans (hb1.mono hb0.size)
 clear hb1
 have z4:=k1.lt
 obtain⟨k1c0,k1c1,k1c2,k1z,k1f0,k1f1,k1f2⟩:=k1.b3
 go_wp2_with fail
 clear k1c0 k1f0 k1c1 k1f1 k1c2 k1f2 k1z
 refine(hMk A c _ own0.rd).mono ?_
 rintro e w2 ⟨B,k,rfl,own1,hb2⟩
 replace k1:=k1.below hb2 k1.lt
 replace hb0:=hb0.trans (hb2.mono hb0.size)
 replace own0:=own0.below hb2 nrf
 clear hb2
 obtain⟨k1c0,k1c1,k1c2,k1z,k1f0,k1f1,k1f2⟩:=k1.b3
 go_wp2
 refine bodyPost_ret (v:=.agg #[.bool false,.slice B (limbs KV).length k,.int .i64 DE]) ?_ rfl ⟨B,k,rfl,((((own1.setCell z4 _).setCell z4 _).setCell z4 _).alloc _).mono (by omega),((bel3 hb0 (w.heap.size) (by simp)).alloc (by simp;omega) _)⟩
 refine results_cell_row rfl _ _ (w.heap.size) _ _ _ _ ?_ ((((k1.set_ 0 _).set_ 1 _).set_ 2 _).alloc _) Tryz.underlying117 rfl (by kernel_rfl)
 rfl
theorem ref19_least (y n d V N:Nat) (inn:Bool) (sc:Sc n d V N) (hv:V/2^N<1152921504606846976) (w:World) (hy:Rt w y n d):
 Calls Tryz.prog 29 #[.pointer (some ⟨y,0,none⟩),.bool inn] w (Makes w 95 [] false (ceilS inn V N)):=by
 have hF:=fun W hW=>ref19_floor y n d (by have:=sc.ln;omega) W hW
 have hz:decide (n%d=0)=decide (V%2^N=0):=decide_eq_decide.2 sc.zero
 rw[sc.div,hz] at hF
 have lQ:(limbs (V/2^N)).length≤2:=limbs_two (by omega)
 have hO:ceilS inn V N=if V%2^N=0∧inn=true then V/2^N else V/2^N+1:=rfl
 obtain⟨O,hOO⟩:∃O,O=ceilS inn V N:=⟨_,rfl⟩
 rw[←hOO] at hO ⊢
 generalize V/2^N=Q at*
 generalize V%2^N=R at*
 clear sc hz hOO
 by_cases h0:R=0
 · rw[decide_eq_true h0] at hF
   cases inn with
   |true=>
    have HO:=Lib.hid (show O=Q by rw[hO,if_pos ⟨h0,rfl⟩])
    clear hO h0
    go_enter Tryz.func29,Tryz.ntmps29
    go_wp2_with fail
    refine(hF _ hy).mono ?_
    rintro e w1 ⟨q,rfl,hq,oq,b1⟩
    go_wp2
    go_ret
    exact⟨_,rfl,hq,by rw[HO.out];exact oq,b1⟩
   |false=>
    have HO:=Lib.hid (show O=Q+1 by rw[hO,if_neg (by simp)])
    clear hO h0
    go_enter Tryz.func29,Tryz.ntmps29
    go_wp2_with fail
    refine(hF _ hy).mono ?_
    rintro e w1 ⟨q,rfl,hq,oq,b1⟩
    go_wp2_with fail
    refine(big_NewInt 1 (by decide) _).mono ?_
    rintro e w2 ⟨o,rfl,ho,oo,b2⟩
    have q2:=oq.below b2
    have B2:=b1.trans (b2.mono b1.size)
    go_wp2_with fail
    refine(int_Add q q o _ _ _ [] [] [] (by decide) Q 1 (by have:(limbs 1).length=1:=rfl;omega) _ q2.at_ q2 oo).mono ?_
    rintro e w3 ⟨rfl,h3,q3⟩
    go_wp2
    go_ret
    exact⟨_,rfl,hq,by rw[HO.out];exact q3,hole_fresh B2 h3 hq⟩
 · rw[decide_eq_false h0] at hF
   cases inn with
   |true=>
    have HO:=Lib.hid (show O=Q+1 by rw[hO,if_neg (fun h=>h0 h.1)])
    clear hO h0
    go_enter Tryz.func29,Tryz.ntmps29
    go_wp2_with fail
    refine(hF _ hy).mono ?_
    rintro e w1 ⟨q,rfl,hq,oq,b1⟩
    go_wp2_with fail
    refine(big_NewInt 1 (by decide) _).mono ?_
    rintro e w2 ⟨o,rfl,ho,oo,b2⟩
    have q2:=oq.below b2
    have B2:=b1.trans (b2.mono b1.size)
    go_wp2_with fail
    refine(int_Add q q o _ _ _ [] [] [] (by decide) Q 1 (by have:(limbs 1).length=1:=rfl;omega) _ q2.at_ q2 oo).mono ?_
    rintro e w3 ⟨rfl,h3,q3⟩
    go_wp2
    go_ret
    exact⟨_,rfl,hq,by rw[HO.out];exact q3,hole_fresh B2 h3 hq⟩
   |false=>
    have HO:=Lib.hid (show O=Q+1 by rw[hO,if_neg (fun h=>h0 h.1)])
    clear hO h0
    go_enter Tryz.func29,Tryz.ntmps29
    go_wp2_with fail
    refine(hF _ hy).mono ?_
    rintro e w1 ⟨q,rfl,hq,oq,b1⟩
    go_wp2_with fail
    refine(big_NewInt 1 (by decide) _).mono ?_
    rintro e w2 ⟨o,rfl,ho,oo,b2⟩
    have q2:=oq.below b2
    have B2:=b1.trans (b2.mono b1.size)
    go_wp2_with fail
    refine(int_Add q q o _ _ _ [] [] [] (by decide) Q 1 (by have:(limbs 1).length=1:=rfl;omega) _ q2.at_ q2 oo).mono ?_
    rintro e w3 ⟨rfl,h3,q3⟩
    go_wp2
    go_ret
    exact⟨_,rfl,hq,by rw[HO.out];exact q3,hole_fresh B2 h3 hq⟩
theorem ref19_greatest (y n d V N:Nat) (inn:Bool) (sc:Sc n d V N) (hv:V/2^N<1152921504606846976) (hV0:V≠0) (w:World) (hy:Rt w y n d):
 Calls Tryz.prog 30 #[.pointer (some ⟨y,0,none⟩),.bool inn] w (Makes w 95 [] false (floorS inn V N)):=by
 have hF:=fun W hW=>ref19_floor y n d (by have:=sc.ln;omega) W hW
 have hz:decide (n%d=0)=decide (V%2^N=0):=decide_eq_decide.2 sc.zero
 rw[sc.div,hz] at hF
 have lQ:(limbs (V/2^N)).length≤2:=limbs_two (by omega)
 have hq1:V%2^N=0→1≤V/2^N:=by
  intro h
  have:=Nat.div_add_mod V (2^N)
  rw[h,Nat.add_zero] at this
  rcases Nat.eq_zero_or_pos (V/2^N) with h2|h2
  · rw[h2,Nat.mul_zero] at this;exact absurd this.symm hV0
  · exact h2
 have hO:floorS inn V N=if V%2^N=0∧inn=false then V/2^N-1 else V/2^N:=rfl
 obtain⟨O,hOO⟩:∃O,O=floorS inn V N:=⟨_,rfl⟩
 rw[←hOO] at hO ⊢
 generalize V/2^N=Q at*
 generalize V%2^N=R at*
 clear sc hz hOO hV0
 by_cases h0:R=0
 · rw[decide_eq_true h0] at hF
   cases inn with
   |true=>
    have HO:=Lib.hid (show O=Q by rw[hO,if_neg (by simp)])
    clear hO h0 hq1
    go_enter Tryz.func30,Tryz.ntmps30
    go_wp2_with fail
    refine(hF _ hy).mono ?_
    rintro e w1 ⟨q,rfl,hq,oq,b1⟩
    go_wp2
    go_ret
    exact⟨_,rfl,hq,by rw[HO.out];exact oq,b1⟩
   |false=>
    have HO:=Lib.hid (show O=Q-1 by rw[hO,if_pos ⟨h0,rfl⟩])
    have HQ1:=Lib.hid (hq1 h0)
    clear hO h0 hq1
    go_enter Tryz.func30,Tryz.ntmps30
    go_wp2_with fail
    refine(hF _ hy).mono ?_
    rintro e w1 ⟨q,rfl,hq,oq,b1⟩
    go_wp2_with fail
    refine(big_NewInt 1 (by decide) _).mono ?_
    rintro e w2 ⟨o,rfl,ho,oo,b2⟩
    have q2:=oq.below b2
    have B2:=b1.trans (b2.mono b1.size)
    go_wp2_with fail
    refine(int_Sub q q o _ _ _ [] [] [] (by decide) Q 1 (by have:(limbs 1).length=1:=rfl;omega) (by have:=HQ1.out;omega) _ q2.at_ q2 oo).mono ?_
    rintro e w3 ⟨rfl,h3,q3⟩
    go_wp2
    go_ret
    exact⟨_,rfl,hq,by rw[HO.out];exact q3,hole_fresh B2 h3 hq⟩
 · rw[decide_eq_false h0] at hF
   cases inn with
   |true=>
    have HO:=Lib.hid (show O=Q by rw[hO,if_neg (fun h=>h0 h.1)])
    clear hO h0 hq1
    go_enter Tryz.func30,Tryz.ntmps30
    go_wp2_with fail
    refine(hF _ hy).mono ?_
    rintro e w1 ⟨q,rfl,hq,oq,b1⟩
    go_wp2
    go_ret
    exact⟨_,rfl,hq,by rw[HO.out];exact oq,b1⟩
   |false=>
    have HO:=Lib.hid (show O=Q by rw[hO,if_neg (fun h=>h0 h.1)])
    clear hO h0 hq1
    go_enter Tryz.func30,Tryz.ntmps30
    go_wp2_with fail
    refine(hF _ hy).mono ?_
    rintro e w1 ⟨q,rfl,hq,oq,b1⟩
    go_wp2
    go_ret
    exact⟨_,rfl,hq,by rw[HO.out];exact oq,b1⟩
theorem int_SetWords (z:Nat) (A:Option Addr) (v c:Nat) (w:World) (hz:At w z 95 []) (h:Rd w A (limbs v)):
 Calls Tryz.prog 125 #[.pointer (some ⟨z,0,none⟩),.slice A (limbs v).length c] w (Sets w z 95 [] false v):=by
 go_enter Tryz.func125,Tryz.ntmps125
 go_wp2_with fail
 refine(big_copied A (limbs v) _ c rfl _ h).mono ?_
 rintro e w1 ⟨g,rfl,hg,hrow,hb⟩
 go_wp2_with fail
 refine(int_set z 95 [] (by decide) false (some ⟨g,0,none⟩) (limbs v) _ _ rfl nrf _ (at_of_below hz hb) (by have:=hrow.own (sm_limbs v) h.len (Nat.zero_le _) (limbs v).length nrf nrf;rw[List.take_length] at this;exact this)).mono ?_
 rintro e w2 ⟨rfl,hh,hob⟩
 rw[val_limbs] at hob
 go_wp2
 go_ret
 exact⟨rfl,hole_of hb hh,by simpa using hob⟩
theorem ref02_Int (A:Option Addr) (v c:Nat) (w:World) (h:Rd w A (limbs v)):
 Calls Tryz.prog 74 #[.agg #[.slice A (limbs v).length c]] w (Makes w 95 [] false v):=by
 obtain⟨v0,hv0,ha0,k1⟩:=Blk.al w 67 #[.slice A (limbs v).length c]
 have hs0:v0.heap.size=w.heap.size+1:=by rw[hv0];simp
 have hb0:=ha0
 go_enter Tryz.func74,Tryz.ntmps74
 go_upto_region 1 with fail
 rw[←hv0]
 clear hv0 hs0 ha0
 replace h:=h.below hb0
 obtain⟨k1c0,k1z,k1f0⟩:=k1.b1
 have al:Below v0.heap.size v0 (v0.alloc (.cells #[.bool false,.slice none 0 0] 95)):=(Below.refl _ _).alloc nrf _
 have ka:At (v0.alloc (.cells #[.bool false,.slice none 0 0] 95)) v0.heap.size 95 []:=⟨_,_,Blk.new v0 _ _⟩
 have hge:=hb0.size
 go_wp2_with fail
 refine(int_SetWords v0.heap.size A v c _ ka (h.below al)).mono ?_
 rintro e w1 ⟨rfl,hh,hob⟩
 go_wp2
 go_ret
 exact⟨_,rfl,hge,hob,hole_fresh (hb0.trans (al.mono hge)) hh hge⟩
end Bg
namespace Bg
def ratN (v:Nat) (q:Int):Nat:=dyK v*2^(dyE v q).toNat
def ratD (v:Nat) (q:Int):Nat:=1*2^(-(dyE v q)).toNat
theorem ref04_Ratio (A:Option Addr) (v c:Nat) (q:Int) (hv:v≠0) (hl:(limbs v).length≤30) (hq1: -3000≤q) (hq2:q≤3000) (w:World) (h:Rd w A (limbs (dyK v))):
 Calls Tryz.prog 124 #[.agg #[.bool false,.slice A (limbs (dyK v)).length c,.int .i64 (dyE v q)]] w (RatA w (ratN v q) (ratD v q)):=by
 have ht:=tz_lt hl
 have hE:dyE v q=q+(tz v:Int):=by unfold dyE;rw[if_neg hv]
 have hb: -4000≤dyE v q∧dyE v q≤4000:=by omega
 have hCh:=fun W hW=>ref04_Check A v c q (by omega) (by omega) (by omega) W hW
 have lk:=Nat.le_trans (limbs_mono (dyK_le v)) hl
 have nk:=dyK_ne hv
 have hOf:=fun W=>ref_Of 1 1 rfl (by decide) W
 unfold ratN ratD
 clear hE ht
 generalize dyK v=K at*
 generalize dyE v q=X at*
 by_cases h0:0≤X
 · obtain⟨x,rfl⟩:∃x:Nat,X=(x:Int):=⟨X.toNat,by omega⟩
   rw[show(-(x:Int)).toNat=0 by omega,Int.toNat_natCast]
   exact ratio_core_pos A K c x _ _ (by omega) hCh (fun W hW=>up_of A K c x nk (by omega) (by omega) W hW) hOf (fun A2 c2 W hW=>up_of A2 1 c2 0 (by decide) (by decide) (by decide) W hW) w h
 · obtain⟨x,rfl⟩:∃x:Nat,X= -(x:Int):=⟨(-X).toNat,by omega⟩
   rw[show(-(-(x:Int))).toNat=x by omega,show(-(x:Int)).toNat=0 by omega]
   exact ratio_core_neg A K c x _ _ (by omega) (by omega) hCh (fun W hW=>up_of A K c 0 nk (by omega) (by decide) W hW) hOf (fun A2 c2 W hW=>up_of A2 1 c2 x (by decide) (by decide) (by omega) W hW) w h
def RatO (w:World) (N D:Nat) (e:Ending) (w':World):Prop:=
 ∃A c B k,e=.returned (.agg #[.bool false,.slice A (limbs N).length c,.slice B (limbs D).length k])∧Own w' 153 w.heap.size A c (limbs N)∧Own w' 153 w.heap.size B k (limbs D)∧Below w.heap.size w w'
theorem ref06_ratio (A:Option Addr) (v c:Nat) (q:Int) (hv:v≠0) (hl:(limbs v).length≤30) (hq1: -3000≤q) (hq2:q≤3000) (w:World) (h:Rd w A (limbs (dyK v))):
 Calls Tryz.prog 73 #[.agg #[.bool false,.slice A (limbs (dyK v)).length c,.int .i64 (dyE v q)]] w (RatO w (ratN v q) (ratD v q)):=by
 have hRa:=fun W hW=>ref04_Ratio A v c q hv hl hq1 hq2 W hW
 unfold RatA at hRa
 unfold RatO
 clear hv hl hq1 hq2
 generalize ratN v q=N at*
 generalize ratD v q=D at*
 generalize dyK v=K at*
 generalize dyE v q=X at*
 obtain⟨v0,hv0,ha0,k1⟩:=Blk.al w 117 #[.bool false,.slice A (limbs K).length c,.int .i64 X]
 have hs0:v0.heap.size=w.heap.size+1:=by rw[hv0];simp
 have hb0:=ha0
 obtain⟨v1,hv1,ha1,k2⟩:=Blk.al v0 69 #[.bool false,.slice none 0 0,.slice none 0 0]
 have hs1:v1.heap.size=v0.heap.size+1:=by rw[hv1];simp
 replace k1:=k1.below ha1 k1.lt
 replace hb0:=hb0.trans (ha1.mono hb0.size)
 rw[hs0] at k2
 go_enter Tryz.func73,Tryz.ntmps73
 go_upto_region 1 with fail
 rw[←hv0, ←hv1]
 clear hv0 hs0 ha0 hv1 hs1 ha1
 replace h:=h.below hb0
 have z5:=k2.lt
 obtain⟨k1c0,k1c1,k1c2,k1z,k1f0,k1f1,k1f2⟩:=k1.b3
 obtain⟨k2c0,k2c1,k2c2,k2z,k2f0,k2f1,k2f2⟩:=k2.b3
 go_wp2_with fail
 clear k1c0 k1f0 k1c1 k1f1 k1c2 k1f2 k2c0 k2f0 k2c1 k2f1 k2c2 k2f2 k1z k2z
 refine(hRa _ h).mono ?_
 rintro e w1 ⟨A1,d1,B,k,rfl,own1,own2,hb1⟩
 replace k1:=k1.below hb1 k1.lt
 replace k2:=k2.below hb1 k2.lt
 replace hb0:=hb0.trans (hb1.mono hb0.size)
 replace h:=h.below hb1
 clear hb1
 obtain⟨k1c0,k1c1,k1c2,k1z,k1f0,k1f1,k1f2⟩:=k1.b3
 obtain⟨k2c0,k2c1,k2c2,k2z,k2f0,k2f1,k2f2⟩:=k2.b3
 go_wp2
 refine bodyPost_ret (v:=.agg #[.bool false,.slice A1 (limbs N).length d1,.slice B (limbs D).length k]) ?_ rfl ⟨A1,d1,B,k,rfl,((((own1.setCell z5 _).setCell z5 _).setCell z5 _).alloc _).mono (by omega),((((own2.setCell z5 _).setCell z5 _).setCell z5 _).alloc _).mono (by omega),(bel3 hb0 (w.heap.size+1) (by simp)).alloc (by simp;omega) _⟩
 refine results_cell_row rfl _ _ (w.heap.size+1) _ _ _ _ ?_ ((((k2.set_ 0 _).set_ 1 _).set_ 2 _).alloc _) Tryz.underlying69 rfl (by kernel_rfl)
 rfl
theorem ref02_Rat (A B:Option Addr) (N D c k:Nat) (hN:N≠0) (hD:D≠0) (hD2:D=2^tz D) (lN:(limbs N).length≤20000) (lD:(limbs D).length≤20000) (w:World) (hT:Tz w) (h1:Rd w A (limbs N)) (h2:Rd w B (limbs D)):
 Calls Tryz.prog 28 #[.agg #[.bool false,.slice A (limbs N).length c,.slice B (limbs D).length k]] w (RMakes w (N/Nat.gcd N D) (D/Nat.gcd N D)):=by
 have HD2:=Lib.hid hD2
 clear hD2
 obtain⟨v0,hv0,ha0,k1⟩:=Blk.al w 69 #[.bool false,.slice A (limbs N).length c,.slice B (limbs D).length k]
 have hs0:v0.heap.size=w.heap.size+1:=by rw[hv0];simp
 have hb0:=ha0
 go_enter Tryz.func28,Tryz.ntmps28
 go_upto_region 1 with fail
 rw[←hv0]
 clear hv0 hs0 ha0
 replace h1:=h1.below hb0
 replace h2:=h2.below hb0
 obtain⟨k1c0,k1c1,k1c2,k1z,k1f0,k1f1,k1f2⟩:=k1.b3
 go_wp2_with fail
 clear k1c0 k1f0 k1c1 k1f1 k1c2 k1f2 k1z
 refine(ref02_Int A N c _ h1).mono ?_
 rintro e w1 ⟨n,rfl,hn,on,hb1⟩
 replace k1:=k1.below hb1 k1.lt
 replace hb0:=hb0.trans (hb1.mono hb0.size)
 replace h1:=h1.below hb1
 replace h2:=h2.below hb1
 clear hb1
 obtain⟨k1c0,k1c1,k1c2,k1z,k1f0,k1f1,k1f2⟩:=k1.b3
 go_wp2_with fail
 clear k1c0 k1f0 k1c1 k1f1 k1c2 k1f2 k1z
 have al:Below w1.heap.size w1 (w1.alloc (.cells #[.bool false,.slice none 0 0,.slice none 0 0] 97)):=(Below.refl _ _).alloc nrf _
 have ka:RAt (w1.alloc (.cells #[.bool false,.slice none 0 0,.slice none 0 0] 97)) w1.heap.size:=⟨_,_,_,Blk.new w1 _ _⟩
 have nlt:=on.lt
 have hge:=hb0.size
 refine(ref02_Int B D k _ (h2.below al)).mono ?_
 rintro e w5 ⟨d,rfl,hd,od,hb5⟩
 have B5:=(hb0.trans (al.mono hge)).trans (hb5.mono (by have:=al.size;omega))
 go_wp2_with fail
 refine(rat_SetFrac w1.heap.size n d _ _ [] [] N D hN hD (.inr HD2.out) lN lD _ (hT.below B5) (ka.below hb5) ((on.below al).below hb5) od).mono ?_
 rintro e w6 ⟨rfl,h6,r6⟩
 go_wp2
 go_ret
 exact⟨_,rfl,hge,r6,hole_fresh B5 h6 hge⟩
end Bg
namespace Bg
theorem rat_eq {lo:Nat} {q:Int} (h0:lo≠0):ratN lo q*2^(-q).toNat=lo*2^q.toNat*ratD lo q:=by
 have s:=(dy_spec h0).1
 have hE:dyE lo q=q+(tz lo:Int):=by unfold dyE;rw[if_neg h0]
 have key:∀(t K:Nat),lo=K*2^t→K*2^(q+(t:Int)).toNat*2^(-q).toNat=lo*2^q.toNat*(1*2^(-(q+(t:Int))).toNat):=by
  intro t K e
  rw[e]
  simp only[Nat.one_mul,Nat.mul_assoc, ←Nat.pow_add]
  congr 2
  omega
 unfold ratN ratD
 rw[hE]
 exact key _ _ s
theorem rat_llen {x k:Nat} (h:x<2^(32*k)):(limbs x).length≤k:=by
 rw[length_limbs_le,B_pow];exact h
theorem rat_frac {lo:Nat} {q:Int} (h0:lo≠0) (hlo:lo<72057594037927936) (hq1: -1080≤q) (hq2:q≤1022):
 ratN lo q≠0∧ratD lo q≠0∧ratD lo q=2^tz (ratD lo q)∧(limbs (ratN lo q)).length≤34∧(limbs (ratD lo q)).length≤34∧Frac (ratN lo q/Nat.gcd (ratN lo q) (ratD lo q)) (ratD lo q/Nat.gcd (ratN lo q) (ratD lo q)) lo q:=by
 have s:=(dy_spec h0).1
 have hE:dyE lo q=q+(tz lo:Int):=by unfold dyE;rw[if_neg h0]
 have he:=rat_eq (q:=q) h0
 have hN0:ratN lo q≠0:=by
  unfold ratN
  exact Nat.ne_of_gt (Nat.mul_pos (Nat.pos_of_ne_zero (dyK_ne h0)) (Nat.two_pow_pos _))
 have hDe:ratD lo q=2^(-(dyE lo q)).toNat:=by unfold ratD;rw[Nat.one_mul]
 have hD0:ratD lo q≠0:=by rw[hDe];exact Nat.ne_of_gt (Nat.two_pow_pos _)
 have hD2:ratD lo q=2^tz (ratD lo q):=pow2_dvd (k:=(-(dyE lo q)).toNat) (by rw[hDe];exact Nat.dvd_refl _)
 have lN:(limbs (ratN lo q)).length≤34:=by
  have hle:ratN lo q≤lo*2^q.toNat:=by
   have key:∀(t K:Nat),lo=K*2^t→K*2^(q+(t:Int)).toNat≤lo*2^q.toNat:=by
    intro t K e
    rw[e,Nat.mul_assoc, ←Nat.pow_add]
    exact Nat.mul_le_mul_left _ (Nat.pow_le_pow_right (by decide) (by omega))
   unfold ratN
   rw[hE]
   exact key _ _ s
  refine Nat.le_trans (limbs_mono hle) ?_
  obtain⟨k,hk⟩:∃k:Nat,k=34:=⟨34,rfl⟩
  rw[←hk]
  refine rat_llen ?_
  have h56:lo<2^56:=hlo
  have:lo*2^q.toNat<2^56*2^q.toNat:=(Nat.mul_lt_mul_right (Nat.two_pow_pos _)).2 h56
  rw[←Nat.pow_add] at this
  exact Nat.lt_of_lt_of_le this (Nat.pow_le_pow_right (by decide) (by omega))
 have lD:(limbs (ratD lo q)).length≤34:=by
  rw[hDe]
  have:=two_len (-(dyE lo q)).toNat
  omega
 refine⟨hN0,hD0,hD2,lN,lD,?_⟩
 obtain⟨g,hg⟩:∃g,g=Nat.gcd (ratN lo q) (ratD lo q):=⟨_,rfl⟩
 rw[←hg]
 have hg0:0<g:=by rw[hg];exact Nat.gcd_pos_of_pos_left _ (Nat.pos_of_ne_zero hN0)
 obtain⟨n,hn⟩:g∣ratN lo q:=by rw[hg];exact Nat.gcd_dvd_left _ _
 obtain⟨d,hd⟩:g∣ratD lo q:=by rw[hg];exact Nat.gcd_dvd_right _ _
 have en:ratN lo q/g=n:=Nat.div_eq_of_eq_mul_right hg0 hn
 have ed:ratD lo q/g=d:=Nat.div_eq_of_eq_mul_right hg0 hd
 rw[en,ed]
 refine⟨?_,?_,?_,?_,?_⟩
 · rw[hn,hd] at he
   refine Nat.mul_left_cancel hg0 ?_
   rw[←Nat.mul_assoc,he]
   ac_rfl
 · rintro rfl;exact hN0 (by rw[hn,Nat.mul_zero])
 · exact pow2_dvd (k:=(-(dyE lo q)).toNat) (by rw[←hDe,hd];exact Nat.dvd_mul_left _ _)
 · rw[←en];exact Nat.le_trans (limbs_div_le _ _) lN
 · rw[←ed];have:=limbs_div_le (ratD lo q) g;omega
end Bg
namespace Fo
theorem ref_Finite (e f:Int) (b:Nat) (hb64:b<18446744073709551616) (w:World):
 Calls Tryz.prog 68 #[.agg #[.int .i64 e,.int .i64 f],.int .u64 (b:Int)] w (Says w (.bool (decide (((classS e f b).1:Int)≤3)))):=by
 have hC:=ref_Class e f (b:Int) b rfl hb64
 obtain⟨⟨c,er⟩,hp⟩:∃p,p=classS e f b:=⟨_,rfl⟩
 rw[←hp] at hC ⊢
 simp only at hC ⊢
 clear hp
 obtain⟨C,hCc⟩:∃C:Int,C=(c:Int):=⟨_,rfl⟩
 rw[←hCc] at hC ⊢
 clear hCc
 go_enter Tryz.func68,Tryz.ntmps68
 go_wp2_with fail
 refine(hC _).mono ?_
 rintro r w1 ⟨rfl,hb1⟩
 obtain⟨hc1,hf1⟩:=bcell hb1
 have hbw1:Below w.heap.size w w1:=Below.trans (b:=_) bbel (hb1.mono (by go_size))
 have hz1_0:w.heap.size<w1.heap.size:=by have:=hb1.size;simp at this;omega
 go_wp2
 go_ret
 exact⟨rfl,bbel⟩
end Fo
end Go.Proofs.YtenekbfnlbipiaaGreatDoor
