/- Walks: the document's sum of lists. -/
import Derived.Test.YtenekbfnlbipiaaGreatDoorBgA
import Derived.Test.YtenekbfnlbipiaaGreatDoorBgAB
import Derived.Test.YtenekbfnlbipiaaGreatDoorBgDA
import Derived.Test.YtenekbfnlbipiaaGreatDoorTnB
namespace Go.Proofs.YtenekbfnlbipiaaGreatDoor
open Go.RowKit
set_option linter.unusedVariables false
set_option linter.unusedSimpArgs false
set_option maxHeartbeats 4000000
set_option maxRecDepth 100000

theorem plus_step {a b o:List Nat} {k cy:Nat} (hk:o.length=k) (hv:val o+4294967296^k*cy=val (a.take k)+val (b.take k)):
 val (o++[(nth a k+nth b k+cy)%4294967296])+4294967296^(k+1)*((nth a k+nth b k+cy)/4294967296)=val (a.take (k+1))+val (b.take (k+1)):=by
 rw[val_take_succ',val_take_succ',val_append,hk]
 obtain⟨s,hs⟩:∃s,s=nth a k+nth b k+cy:=⟨_,rfl⟩
 rw[←hs]
 have h1:val [s%4294967296]=s%4294967296:=by simp[val]
 rw[h1,Nat.pow_succ]
 have h2:4294967296^k*(s%4294967296)+4294967296^k*4294967296*(s/4294967296)=4294967296^k*s:=by
  rw[Nat.mul_assoc, ←Nat.mul_add,Nat.mod_add_div]
 have h3:4294967296^k*s=4294967296^k*nth a k+4294967296^k*nth b k+4294967296^k*cy:=by rw[hs,Nat.mul_add,Nat.mul_add]
 omega
theorem limbs_eq_of {o:List Nat} {v k:Nat} (hs:Sm o) (hv:val o=v) (hk:o.length=k) (h:k=0∨4294967296^(k-1)≤v):o=limbs v:=by
 have h1:=limbs_prefix hs
 rw[hv] at h1
 have h2:k≤(limbs v).length:=by
  rcases h with h|h
  · omega
  · rcases Nat.lt_or_ge (limbs v).length k with h3|h3
    · have:=(length_limbs_le v (k-1)).1 (by omega)
      omega
    · exact h3
 rw[h1,List.take_of_length_le (by omega)]
theorem limbs_lowP {a:List Nat} {x:Nat} (ha:a=limbs x) (h:0<a.length):4294967296^(a.length-1)≤x:=by
 rcases Nat.lt_or_ge x (4294967296^(a.length-1)) with h1|h1
 · have:=(length_limbs_le x (a.length-1)).2 h1
   rw[←ha] at this
   omega
 · exact h1

def PlusRel (w:World) (a b:List Nat) (v5 v6 v7:Value) (wr:World):Prop:=
 ∃(k cy:Nat) (o:List Nat),k≤max a.length b.length+1∧v7=.int .i64 (k:Int)∧v6=.int .u64 (cy:Int)∧cy≤1∧o.length=k∧Sm o∧(k=max a.length b.length+1→cy=0)∧
  (k≤max a.length b.length∨4294967296^(k-1)≤val a+val b)∧val o+4294967296^k*cy=val (a.take k)+val (b.take k)∧OwnR wr w.heap.size 153 .u32 v5 o∧Below w.heap.size w wr

theorem ref_plus (A B:Option Addr) (a b:List Nat) (x y:Nat) (hx:a=limbs x) (hy:b=limbs y) (n m c d:Nat) (hn:n=a.length) (hm:m=b.length) (hbig:a.length+b.length≤1000000) (w:World) (ha:Rd w A a) (hb:Rd w B b):
 Calls Tryz.prog 220 #[.slice A n c,.slice B m d] w fun e w'=>∃A c,e=.returned (.slice A (limbs (x+y)).length c)∧(limbs (x+y)).length≤c∧Own w' 153 w.heap.size A c (limbs (x+y))∧Below w.heap.size w w':=by
 subst hn hm
 have hxv:val a=x:=by rw[hx];exact val_limbs x
 have hyv:val b=y:=by rw[hy];exact val_limbs y
 have HX:=Lib.hid hx
 have HY:=Lib.hid hy
 have HXV:=Lib.hid hxv
 have HYV:=Lib.hid hyv
 clear hx hy hxv hyv
 go_enter Tryz.func220,Tryz.ntmps220
 go_wp2
 go_loopw [5,6,7] (fun v5 v6 v7 wr=>PlusRel w a b v5 v6 v7 wr) (fun _ _ i _=>max a.length b.length+1-(intOf i).toNat)
 case atStart=>
  exact⟨0,0,[],Nat.zero_le _,rfl,rfl,by decide,rfl,Sm.nil,by omega,.inl (Nat.zero_le _),by simp[val],OwnR.nil _ _ _ _,Below.refl _ _⟩
 case round=>
  obtain⟨k,cy,o,hk,rfl,rfl,hcy,hol,hos,hend,hlow,hv,hown,hbl⟩:=hrel
  have HOL:=Lib.hid hol
  have HV:=Lib.hid hv
  have HLOW:=Lib.hid hlow
  have HEND:=Lib.hid hend
  clear hol hv hlow hend
  have hsa:=ha.sm.nth k
  have hsb:=hb.sm.nth k
  by_cases hgo:k<a.length∨k<b.length∨0<cy
  · have hkm:k≤max a.length b.length:=by
     rcases hgo with h|h|h
     · omega
     · omega
     · have:=HEND.out;omega
    have hcase:(k<a.length)∨(¬k<a.length∧k<b.length)∨(¬k<a.length∧¬k<b.length∧0<cy):=by omega
    clear hgo
    rcases hcase with h1|⟨h1,h2⟩|⟨h1,h2,h3⟩
    all_goals (
     go_wp2_with fail
     refine(ref_limb A a _ c rfl (k:Int) (by omega) _ (ha.below hbl)).mono ?_
     rintro e w1 ⟨rfl,rfl⟩
     rw[Int.toNat_natCast]
     go_wp2_with fail
     refine(ref_limb B b _ d rfl (k:Int) (by omega) _ (hb.below hbl)).mono ?_
     rintro e w1 ⟨rfl,rfl⟩
     rw[Int.toNat_natCast]
     go_wp2_with (at_builtin;refine wpList_app elem32 rfl _ _ rfl (hown.alloc _) rfl ⟨_,0,none⟩ rfl ((nth a k+nth b k+cy)%4294967296) ?c1 ?c2 ?c3 (fun v' w' hown' hgr hbb=>?_))
     case c1=>simp[go_sem]
     case c2=>have:=HOL.out;omega
     case c3=>have:=hbl.size;simp;omega
     go_roundw
     case rel=>
      have st:=plus_step HOL.out HV.out
      refine⟨k+1,(nth a k+nth b k+cy)/4294967296,o++[(nth a k+nth b k+cy)%4294967296],by omega,vi (by omega),vi (by omega),by omega,by simp[HOL.out],hos.append (Sm.cons (Nat.mod_lt _ (by decide)) Sm.nil),?_,?_,st,hown',(hbl.alloc hbl.size _).trans hbb⟩
      · intro hk1
        rw[nth_ge a (by omega),nth_ge b (by omega)]
        omega
      · by_cases hkk:k+1≤max a.length b.length
        · exact .inl hkk
        · refine .inr ?_
          have hv:=HV.out
          rw[List.take_of_length_le (by omega),List.take_of_length_le (by omega)] at hv
          first
          |(exfalso;omega)
          |(have:cy=1:=by omega
            rw[this,Nat.mul_one] at hv
            rw[Nat.add_sub_cancel];omega)
     case measure=>first|(simp[intOf];done)|(simp[intOf];omega))
  · have hka:a.length≤k:=by omega
    have hkb:b.length≤k:=by omega
    have hc0:cy=0:=by omega
    subst hc0
    have hv:val o=x+y:=by
     have:=HV.out
     rw[List.take_of_length_le hka,List.take_of_length_le hkb,HXV.out,HYV.out] at this
     omega
    have ho:o=limbs (x+y):=by
     refine limbs_eq_of hos hv HOL.out ?_
     rcases Nat.eq_zero_or_pos k with h0|h0
     · exact .inl h0
     · refine .inr ?_
       rcases HLOW.out with h1|h1
       · by_cases hab:b.length≤a.length
         · have hk2:k=a.length:=by omega
           have:=limbs_lowP HX.out (by omega)
           rw[hk2];omega
         · have hk2:k=b.length:=by omega
           have:=limbs_lowP HY.out (by omega)
           rw[hk2];omega
       · rw[HXV.out,HYV.out] at h1;exact h1
    have HO:=Lib.hid ho
    clear ho hv
    have g1:¬(k<a.length):=by omega
    have g2:¬(k<b.length):=by omega
    clear hgo
    obtain⟨A',c',rfl,hnc,hO⟩:=hown.own hos (by rw[HOL.out];omega)
    rw[HO.out] at hO hnc
    go_wp2
    go_ret
    exact⟨A',c',by rw[HO.out];rfl,hnc,hO,hbl⟩

theorem ref_Add (A B:Option Addr) (a b:List Nat) (n m c d:Nat) (hn:n=a.length) (hm:m=b.length) (w:World) (ha:Rd w A a) (hb:Rd w B b):
 Calls Tryz.prog 173 #[.agg #[.slice A n c],.agg #[.slice B m d]] w (NatAns 153 w (addS a b)):=by
 subst hn hm
 have hla:=ha.len
 have hlb:=hb.len
 have ha2:=((ha.alloc (Obj.cells #[Value.slice A a.length c] 67)).alloc (Obj.cells #[Value.slice B b.length d] 67)).alloc (Obj.cells #[Value.slice none 0 0] 67)
 have hb2:=((hb.alloc (Obj.cells #[Value.slice A a.length c] 67)).alloc (Obj.cells #[Value.slice B b.length d] 67)).alloc (Obj.cells #[Value.slice none 0 0] 67)
 by_cases hz:chk2 a b=0
 · have hl1:=(chk_zero (chk2_zero hz).1).1
   have hl2:=(chk_zero (chk2_zero hz).2).1
   have hca:=limbs_of ha.sm (chk_zero (chk2_zero hz).1).2
   have hcb:=limbs_of hb.sm (chk_zero (chk2_zero hz).2).2
   have HZ:=Lib.hid hz
   have HCA:=Lib.hid hca
   have HCB:=Lib.hid hcb
   have e:addS a b=fitS (val a+val b):=by unfold addS;rw[if_pos hz]
   rw[e]
   clear hz hca hcb e
   go_enter Tryz.func173,Tryz.ntmps173
   go_wp2_with fail
   refine(ref_two A B a b _ _ c d rfl rfl _ ha2 hb2).mono ?_
   rintro e w1 ⟨rfl,hb1⟩
   rw[HZ.out]
   obtain⟨hc1,hf1⟩:=bcell hb1
   have hbw1:Below w.heap.size w w1:=Below.trans (b:=_) bbel (hb1.mono (by go_size))
   have hz1_0:w.heap.size<w1.heap.size:=by have:=hb1.size;simp at this;omega
   have hz1_1:w.heap.size+1<w1.heap.size:=by have:=hb1.size;simp at this;omega
   have hz1_2:w.heap.size+2<w1.heap.size:=by have:=hb1.size;simp at this;omega
   go_wp2_with fail
   refine(ref_plus A B a b (val a) (val b) HCA.out.symm HCB.out.symm _ _ c d rfl rfl (by omega) _ (ha2.below hb1) (hb2.below hb1)).mono ?_
   rintro e w2 ⟨A2,c2,rfl,hle2,ho2,hb2'⟩
   have hz2:w.heap.size+2<w2.heap.size:=by have:=hb2'.size;omega
   have hc2:w2.cell? ⟨w.heap.size+2,0,none⟩=some (Value.slice none 0 0):=by
    rw[below_cell hb2' (by omega),hc1 _ _ (by simp)]
    simp[go_sem]
   have hf2:w2.frozen? ⟨w.heap.size+2,0,none⟩=false:=by
    rw[below_frozen hb2' (by omega),hf1 _ _ (by simp)]
    simp[go_sem]
   go_wp2_with fail
   refine(ref_fits A2 c2 _ w1.heap.size _ rfl hle2 _ ho2 hb2'.size).mono ?_
   rw[val_limbs]
   rintro e w3 ⟨A3,c3,rfl,ho3,hb3⟩
   have hz3:w.heap.size+2<w3.heap.size:=by have:=hb3.size;omega
   have hc3:w3.cell? ⟨w.heap.size+2,0,none⟩=some (Value.slice none 0 0):=by rw[below_cell hb3 hz2];exact hc2
   have hf3:w3.frozen? ⟨w.heap.size+2,0,none⟩=false:=by rw[below_frozen hb3 hz2];exact hf2
   have hbw3:Below w.heap.size w w3:=(hbw1.trans (hb2'.mono (by omega))).trans (hb3.mono (by omega))
   clear hc1 hf1 hc2 hf2
   go_wp2
   (try simp only[Exit.inBlock,Exit.then]);refine bodyPost_ret (by simp (maxDischargeDepth:=9) [results,Tryz.results173,go_sem,hc3];try rfl) rfl ?_
   exact⟨_,_,rfl,(ho3.setCell (by simp;omega) _).mono (by omega),bbel⟩
 · have e:addS a b=([],chk2 a b):=by unfold addS;rw[if_neg hz]
   have hne:(chk2 a b !=0)=true:=by rw[bne_iff_ne];exact hz
   rw[e]
   clear hz
   go_enter Tryz.func173,Tryz.ntmps173
   go_wp2_with fail
   refine(ref_two A B a b _ _ c d rfl rfl _ ha2 hb2).mono ?_
   rintro e w1 ⟨rfl,hb1⟩
   obtain⟨hc1,hf1⟩:=bcell hb1
   have hbw1:Below w.heap.size w w1:=Below.trans (b:=_) bbel (hb1.mono (by go_size))
   have hz1_0:w.heap.size<w1.heap.size:=by have:=hb1.size;simp at this;omega
   have hz1_1:w.heap.size+1<w1.heap.size:=by have:=hb1.size;simp at this;omega
   have hz1_2:w.heap.size+2<w1.heap.size:=by have:=hb1.size;simp at this;omega
   go_wp2
   (try simp only[Exit.inBlock,Exit.then]);refine bodyPost_ret (by simp (maxDischargeDepth:=9) [results,Tryz.results173,go_sem,hc1,hz1_0,hz1_1,hz1_2];try rfl) rfl ?_
   exact⟨none,0,rfl,Own.nil _ _ _,bbel⟩

theorem add_step {a b o:List Nat} {k cy:Nat} (hk:k<o.length) (hz:nth o k=0) (hv:val o+4294967296^k*cy=val (a.take k)+val (b.take k)):
 val (o.set k ((nth a k+nth b k+cy)%4294967296))+4294967296^(k+1)*((nth a k+nth b k+cy)/4294967296)=val (a.take (k+1))+val (b.take (k+1)):=by
 rw[val_take_succ',val_take_succ']
 obtain⟨s,hs⟩:∃s,s=nth a k+nth b k+cy:=⟨_,rfl⟩
 rw[←hs]
 have h1:=val_set o k (s%4294967296) hk
 rw[hz,Nat.mul_zero,Nat.add_zero] at h1
 rw[h1,Nat.pow_succ]
 have h2:4294967296^k*(s%4294967296)+4294967296^k*4294967296*(s/4294967296)=4294967296^k*s:=by
  rw[Nat.mul_assoc, ←Nat.mul_add,Nat.mod_add_div]
 have h3:4294967296^k*s=4294967296^k*nth a k+4294967296^k*nth b k+4294967296^k*cy:=by rw[hs,Nat.mul_add,Nat.mul_add]
 omega

namespace Bg
theorem nth_zero (K:Nat):nth (limbs K) 0=K%4294967296:=by
 have:=getD_val (limbs K) (sm_limbs K) 0
 rw[val_limbs,Nat.pow_zero,Nat.div_one] at this
 exact this
theorem ref04_Check_pos (A:Option Addr) (K c:Nat) (x:Int) (hK:K≠0) (ho:K%2=1) (hl:(limbs K).length≤200) (hx1: -1073741824≤x) (hx2:x≤1073741824) (w:World) (h:Rd w A (limbs K)):
 Calls Tryz.prog 178 #[.agg #[.bool false,.slice A (limbs K).length c,.int .i64 x]] w (Says w (.int .i64 0)):=by
 have hn0:=nth_zero K
 obtain⟨v0,hv0,ha0,k1⟩:=Blk.al w 117 #[.bool false,.slice A (limbs K).length c,.int .i64 x]
 have hs0:v0.heap.size=w.heap.size+1:=by rw[hv0];simp
 have hb0:=ha0
 go_enter Tryz.func178,Tryz.ntmps178
 go_upto_region 1 with fail
 rw[←hv0]
 clear hv0 hs0 ha0
 replace h:=h.below hb0
 obtain⟨k1c0,k1c1,k1c2,k1z,k1f0,k1f1,k1f2⟩:=k1.b3
 go_wp2_with fail
 clear k1c0 k1f0 k1c1 k1f1 k1c2 k1f2 k1z
 refine(ref_Check A (limbs K) _ c rfl _ h).mono ?_
 rintro e w1 ⟨rfl,hb1⟩
 replace k1:=k1.below hb1 k1.lt
 replace hb0:=hb0.trans (hb1.mono hb0.size)
 replace h:=h.below hb1
 clear hb1
 rw[chk_ok hl]
 obtain⟨k1c0,k1c1,k1c2,k1z,k1f0,k1f1,k1f2⟩:=k1.b3
 go_wp2_with fail
 clear k1c0 k1f0 k1c1 k1f1 k1c2 k1f2 k1z
 refine(ref04_none A K c _).mono ?_
 rintro e w2 ⟨rfl,hb2⟩
 replace k1:=k1.below hb2 k1.lt
 replace hb0:=hb0.trans (hb2.mono hb0.size)
 replace h:=h.below hb2
 clear hb2
 rw[decide_eq_false hK]
 obtain⟨bb,off,rfl,hcell⟩:=h.open_ (limbs_pos hK)
 have d0:=hcell 0 (limbs_pos hK)
 rw[Nat.add_zero] at d0
 have hlp:=limbs_pos hK
 have hodd:((nth (limbs K) 0:Nat):Int)%2=1:=by rw[hn0];omega
 have hodd2:((nth (limbs K) 0:Nat):Int).tmod 2=1:=by rw[Int.tmod_eq_emod_of_nonneg (by omega)];exact hodd
 have hodd3:nth (limbs K) 0%2=1:=by rw[hn0];omega
 clear hn0 hcell
 obtain⟨k1c0,k1c1,k1c2,k1z,k1f0,k1f1,k1f2⟩:=k1.b3
 go_wp2_with fail
 clear k1c0 k1f0 k1c1 k1f1 k1c2 k1f2 k1z
 refine(ref04_far x hx1 hx2 _).mono ?_
 rintro e w3 ⟨rfl,rfl⟩
 obtain⟨k1c0,k1c1,k1c2,k1z,k1f0,k1f1,k1f2⟩:=k1.b3
 go_wp2
 go_ret
 exact⟨rfl,hb0⟩
theorem ref04_Check_none (A:Option Addr) (c:Nat) (w:World) (h:Rd w A (limbs 0)):
 Calls Tryz.prog 178 #[.agg #[.bool false,.slice A (limbs 0).length c,.int .i64 0]] w (Says w (.int .i64 0)):=by
 obtain⟨v0,hv0,ha0,k1⟩:=Blk.al w 117 #[.bool false,.slice A (limbs 0).length c,.int .i64 0]
 have hs0:v0.heap.size=w.heap.size+1:=by rw[hv0];simp
 have hb0:=ha0
 go_enter Tryz.func178,Tryz.ntmps178
 go_upto_region 1 with fail
 rw[←hv0]
 clear hv0 hs0 ha0
 replace h:=h.below hb0
 obtain⟨k1c0,k1c1,k1c2,k1z,k1f0,k1f1,k1f2⟩:=k1.b3
 go_wp2_with fail
 clear k1c0 k1f0 k1c1 k1f1 k1c2 k1f2 k1z
 refine(ref_Check A (limbs 0) _ c rfl _ h).mono ?_
 rintro e w1 ⟨rfl,hb1⟩
 replace k1:=k1.below hb1 k1.lt
 replace hb0:=hb0.trans (hb1.mono hb0.size)
 replace h:=h.below hb1
 clear hb1
 rw[show chk (limbs 0)=0 from rfl]
 obtain⟨k1c0,k1c1,k1c2,k1z,k1f0,k1f1,k1f2⟩:=k1.b3
 go_wp2_with fail
 clear k1c0 k1f0 k1c1 k1f1 k1c2 k1f2 k1z
 refine(ref04_none A 0 c _).mono ?_
 rintro e w2 ⟨rfl,hb2⟩
 replace k1:=k1.below hb2 k1.lt
 replace hb0:=hb0.trans (hb2.mono hb0.size)
 replace h:=h.below hb2
 clear hb2
 rw[decide_eq_true (rfl:(0:Nat)=0)]
 obtain⟨k1c0,k1c1,k1c2,k1z,k1f0,k1f1,k1f2⟩:=k1.b3
 go_wp2
 go_ret
 exact⟨rfl,hb0⟩
theorem ref04_Check (A:Option Addr) (v c:Nat) (q:Int) (hl:(limbs v).length≤200) (hq1: -100000≤q) (hq2:q≤100000) (w:World) (h:Rd w A (limbs (dyK v))):
 Calls Tryz.prog 178 #[.agg #[.bool false,.slice A (limbs (dyK v)).length c,.int .i64 (dyE v q)]] w (Says w (.int .i64 0)):=by
 by_cases hv:v=0
 · subst hv
   exact ref04_Check_none A c w h
 · have htz:=tz_lt hl
   have hE:dyE v q=q+(tz v:Int):=by unfold dyE;rw[if_neg hv]
   exact ref04_Check_pos A (dyK v) c (dyE v q) (dyK_ne hv) (dy_spec hv).2 (Nat.le_trans (limbs_mono (dyK_le v)) hl) (by omega) (by omega) w h
end Bg
namespace Bg
theorem ref04_two (A1 A2:Option Addr) (v1 v2 c1 c2:Nat) (q1 q2:Int) (hl1:(limbs v1).length≤100) (hl2:(limbs v2).length≤100) (hq1: -10000≤q1∧q1≤10000) (hq2: -10000≤q2∧q2≤10000) (w:World) (h1:Rd w A1 (limbs (dyK v1))) (h2:Rd w A2 (limbs (dyK v2))):
 Calls Tryz.prog 169 #[.agg #[.bool false,.slice A1 (limbs (dyK v1)).length c1,.int .i64 (dyE v1 q1)],.agg #[.bool false,.slice A2 (limbs (dyK v2)).length c2,.int .i64 (dyE v2 q2)]] w (Says w (.int .i64 0)):=by
 have hC1:=fun W hW=>ref04_Check A1 v1 c1 q1 (by omega) (by omega) (by omega) W hW
 have hC2:=fun W hW=>ref04_Check A2 v2 c2 q2 (by omega) (by omega) (by omega) W hW
 obtain⟨K1,hK1⟩:∃z,z=dyK v1:=⟨_,rfl⟩
 obtain⟨K2,hK2⟩:∃z,z=dyK v2:=⟨_,rfl⟩
 obtain⟨X1,hX1⟩:∃z,z=dyE v1 q1:=⟨_,rfl⟩
 obtain⟨X2,hX2⟩:∃z,z=dyE v2 q2:=⟨_,rfl⟩
 rw[←hK1, ←hX1] at hC1
 rw[←hK2, ←hX2] at hC2
 rw[←hK1] at h1
 rw[←hK2] at h2
 rw[←hK1, ←hK2, ←hX1, ←hX2]
 clear hK1 hK2 hX1 hX2 hl1 hl2 hq1 hq2
 obtain⟨v0,hv0,ha0,k1⟩:=Blk.al w 117 #[.bool false,.slice A1 (limbs K1).length c1,.int .i64 X1]
 have hs0:v0.heap.size=w.heap.size+1:=by rw[hv0];simp
 have hb0:=ha0
 obtain⟨v1,hv1,ha1,k2⟩:=Blk.al v0 117 #[.bool false,.slice A2 (limbs K2).length c2,.int .i64 X2]
 have hs1:v1.heap.size=v0.heap.size+1:=by rw[hv1];simp
 replace k1:=k1.below ha1 k1.lt
 replace hb0:=hb0.trans (ha1.mono hb0.size)
 rw[hs0] at k2
 go_enter Tryz.func169,Tryz.ntmps169
 go_upto_region 1 with fail
 rw[←hv0, ←hv1]
 clear hv0 hs0 ha0 hv1 hs1 ha1
 replace h1:=h1.below hb0
 replace h2:=h2.below hb0
 obtain⟨k1c0,k1c1,k1c2,k1z,k1f0,k1f1,k1f2⟩:=k1.b3
 obtain⟨k2c0,k2c1,k2c2,k2z,k2f0,k2f1,k2f2⟩:=k2.b3
 go_wp2_with fail
 clear k1c0 k1f0 k1c1 k1f1 k1c2 k1f2 k2c0 k2f0 k2c1 k2f1 k2c2 k2f2 k1z k2z
 refine(hC1 _ h1).mono ?_
 rintro e w1 ⟨rfl,hb1⟩
 replace k1:=k1.below hb1 k1.lt
 replace k2:=k2.below hb1 k2.lt
 replace hb0:=hb0.trans (hb1.mono hb0.size)
 replace h1:=h1.below hb1
 replace h2:=h2.below hb1
 clear hb1
 obtain⟨k1c0,k1c1,k1c2,k1z,k1f0,k1f1,k1f2⟩:=k1.b3
 obtain⟨k2c0,k2c1,k2c2,k2z,k2f0,k2f1,k2f2⟩:=k2.b3
 go_wp2_with fail
 clear k1c0 k1f0 k1c1 k1f1 k1c2 k1f2 k2c0 k2f0 k2c1 k2f1 k2c2 k2f2 k1z k2z
 refine(hC2 _ h2).mono ?_
 rintro e w2 ⟨rfl,hb2⟩
 replace k1:=k1.below hb2 k1.lt
 replace k2:=k2.below hb2 k2.lt
 replace hb0:=hb0.trans (hb2.mono hb0.size)
 replace h1:=h1.below hb2
 replace h2:=h2.below hb2
 clear hb2
 obtain⟨k1c0,k1c1,k1c2,k1z,k1f0,k1f1,k1f2⟩:=k1.b3
 obtain⟨k2c0,k2c1,k2c2,k2z,k2f0,k2f1,k2f2⟩:=k2.b3
 go_wp2
 go_ret
 exact⟨rfl,hb0⟩
theorem ref04_Mul (A1 A2:Option Addr) (v1 v2 c1 c2:Nat) (q1 q2:Int) (hl1:(limbs v1).length≤100) (hl2:(limbs v2).length≤100) (hq1: -10000≤q1∧q1≤10000) (hq2: -10000≤q2∧q2≤10000) (hv1:v1≠0) (hv2:v2≠0) (w:World) (h1:Rd w A1 (limbs (dyK v1))) (h2:Rd w A2 (limbs (dyK v2))):
 Calls Tryz.prog 123 #[.agg #[.bool false,.slice A1 (limbs (dyK v1)).length c1,.int .i64 (dyE v1 q1)],.agg #[.bool false,.slice A2 (limbs (dyK v2)).length c2,.int .i64 (dyE v2 q2)]] w (DyT w (v1*v2) (q1+q2)):=by
 have t1:=tz_lt hl1
 have t2:=tz_lt hl2
 have E1:dyE v1 q1=q1+(tz v1:Int):=by unfold dyE;rw[if_neg hv1]
 have E2:dyE v2 q2=q2+(tz v2:Int):=by unfold dyE;rw[if_neg hv2]
 have hb1: -20000≤dyE v1 q1∧dyE v1 q1≤20000:=by omega
 have hb2: -20000≤dyE v2 q2∧dyE v2 q2≤20000:=by omega
 have n1:=dyK_ne hv1
 have n2:=dyK_ne hv2
 have l1:=Nat.le_trans (limbs_mono (dyK_le v1)) hl1
 have l2:=Nat.le_trans (limbs_mono (dyK_le v2)) hl2
 have s1:=(dy_spec hv1).1
 have s2:=(dy_spec hv2).1
 have hTw:=fun W hA hB=>ref04_two A1 A2 v1 v2 c1 c2 q1 q2 hl1 hl2 hq1 hq2 W hA hB
 have hMu:=fun W hA hB=>ref_Mul A1 A2 (limbs (dyK v1)) (limbs (dyK v2)) _ _ c1 c2 rfl rfl W hA hB
 have lm:(limbs (dyK v1*dyK v2)).length≤200:=by have:=limbs_mul_le (dyK v1) (dyK v2);omega
 rw[mulS_limbs (by omega) (by omega),fitS_ok (by omega)] at hMu
 have hds:=dy_same (v:=dyK v1*dyK v2) (v':=v1*v2) (a:=tz v1+tz v2) (b:=0) (q:=dyE v1 q1+dyE v2 q2) (q':=q1+q2) (Nat.mul_ne_zero n1 n2)
  (by rw[Nat.pow_add,Nat.pow_zero,Nat.mul_one];conv=>rhs;rw[s1,s2]
      ac_rfl) (by omega)
 have hMk:∀A c W,Rd W A (limbs (dyK v1*dyK v2))→Calls Tryz.prog 166 #[.bool false,.agg #[.slice A (limbs (dyK v1*dyK v2)).length c],.int .i64 (dyE v1 q1+dyE v2 q2)] W (DyT W (v1*v2) (q1+q2)):=by
  intro A c W hW
  have:=ref04_Make A (dyK v1*dyK v2) c (dyE v1 q1+dyE v2 q2) lm (by omega) (by omega) W hW
  unfold DyT at this ⊢
  rw[hds.1,hds.2] at this
  exact this
 obtain⟨KV,hKV⟩:∃z,z=dyK (v1*v2):=⟨_,rfl⟩
 obtain⟨DE,hDE⟩:∃z,z=dyE (v1*v2) (q1+q2):=⟨_,rfl⟩
 unfold DyT at hMk ⊢
 rw[←hKV, ←hDE] at hMk ⊢
 clear hds s1 s2 E1 E2 t1 t2 lm
 obtain⟨K1,hK1⟩:∃z,z=dyK v1:=⟨_,rfl⟩
 obtain⟨K2,hK2⟩:∃z,z=dyK v2:=⟨_,rfl⟩
 obtain⟨X1,hX1⟩:∃z,z=dyE v1 q1:=⟨_,rfl⟩
 obtain⟨X2,hX2⟩:∃z,z=dyE v2 q2:=⟨_,rfl⟩
 simp only[←hK1, ←hK2, ←hX1, ←hX2] at hTw hMu hMk h1 h2 n1 n2 l1 l2 hb1 hb2 ⊢
 clear hK1 hK2 hX1 hX2 hKV hDE hl1 hl2 hq1 hq2 hv1 hv2
 obtain⟨v0,hv0,ha0,k1⟩:=Blk.al w 117 #[.bool false,.slice A1 (limbs K1).length c1,.int .i64 X1]
 have hs0:v0.heap.size=w.heap.size+1:=by rw[hv0];simp
 have hb0:=ha0
 obtain⟨v1,hv1,ha1,k2⟩:=Blk.al v0 117 #[.bool false,.slice A2 (limbs K2).length c2,.int .i64 X2]
 have hs1:v1.heap.size=v0.heap.size+1:=by rw[hv1];simp
 replace k1:=k1.below ha1 k1.lt
 replace hb0:=hb0.trans (ha1.mono hb0.size)
 obtain⟨v2,hv2,ha2,k3⟩:=Blk.al v1 117 #[.bool false,.slice none 0 0,.int .i64 0]
 have hs2:v2.heap.size=v1.heap.size+1:=by rw[hv2];simp
 replace k1:=k1.below ha2 k1.lt
 replace k2:=k2.below ha2 k2.lt
 replace hb0:=hb0.trans (ha2.mono hb0.size)
 rw[hs0] at k2
 rw[hs1,hs0] at k3
 simp only[Nat.add_assoc,Nat.reduceAdd] at k3
 go_enter Tryz.func123,Tryz.ntmps123
 go_upto_region 1 with fail
 rw[←hv0, ←hv1, ←hv2]
 clear hv0 hs0 ha0 hv1 hs1 ha1 hv2 hs2 ha2
 replace h1:=h1.below hb0
 replace h2:=h2.below hb0
 obtain⟨k1c0,k1c1,k1c2,k1z,k1f0,k1f1,k1f2⟩:=k1.b3
 obtain⟨k2c0,k2c1,k2c2,k2z,k2f0,k2f1,k2f2⟩:=k2.b3
 obtain⟨k3c0,k3c1,k3c2,k3z,k3f0,k3f1,k3f2⟩:=k3.b3
 go_wp2_with fail
 clear k1c0 k1f0 k1c1 k1f1 k1c2 k1f2 k2c0 k2f0 k2c1 k2f1 k2c2 k2f2 k3c0 k3f0 k3c1 k3f1 k3c2 k3f2 k1z k2z k3z
 refine(hTw _ h1 h2).mono ?_
 rintro e w1 ⟨rfl,hb1⟩
 replace k1:=k1.below hb1 k1.lt
 replace k2:=k2.below hb1 k2.lt
 replace k3:=k3.below hb1 k3.lt
 replace hb0:=hb0.trans (hb1.mono hb0.size)
 replace h1:=h1.below hb1
 replace h2:=h2.below hb1
 clear hb1
 obtain⟨k1c0,k1c1,k1c2,k1z,k1f0,k1f1,k1f2⟩:=k1.b3
 obtain⟨k2c0,k2c1,k2c2,k2z,k2f0,k2f1,k2f2⟩:=k2.b3
 obtain⟨k3c0,k3c1,k3c2,k3z,k3f0,k3f1,k3f2⟩:=k3.b3
 go_wp2_with fail
 clear k1c0 k1f0 k1c1 k1f1 k1c2 k1f2 k2c0 k2f0 k2c1 k2f1 k2c2 k2f2 k3c0 k3f0 k3c1 k3f1 k3c2 k3f2 k1z k2z k3z
 refine(ref04_none A1 K1 c1 _).mono ?_
 rintro e w2 ⟨rfl,hb2⟩
 replace k1:=k1.below hb2 k1.lt
 replace k2:=k2.below hb2 k2.lt
 replace k3:=k3.below hb2 k3.lt
 replace hb0:=hb0.trans (hb2.mono hb0.size)
 replace h1:=h1.below hb2
 replace h2:=h2.below hb2
 clear hb2
 rw[decide_eq_false n1]
 obtain⟨k1c0,k1c1,k1c2,k1z,k1f0,k1f1,k1f2⟩:=k1.b3
 obtain⟨k2c0,k2c1,k2c2,k2z,k2f0,k2f1,k2f2⟩:=k2.b3
 obtain⟨k3c0,k3c1,k3c2,k3z,k3f0,k3f1,k3f2⟩:=k3.b3
 go_wp2_with fail
 clear k1c0 k1f0 k1c1 k1f1 k1c2 k1f2 k2c0 k2f0 k2c1 k2f1 k2c2 k2f2 k3c0 k3f0 k3c1 k3f1 k3c2 k3f2 k1z k2z k3z
 refine(ref04_none A2 K2 c2 _).mono ?_
 rintro e w3 ⟨rfl,hb3⟩
 replace k1:=k1.below hb3 k1.lt
 replace k2:=k2.below hb3 k2.lt
 replace k3:=k3.below hb3 k3.lt
 replace hb0:=hb0.trans (hb3.mono hb0.size)
 replace h1:=h1.below hb3
 replace h2:=h2.below hb3
 clear hb3
 rw[decide_eq_false n2]
 obtain⟨k1c0,k1c1,k1c2,k1z,k1f0,k1f1,k1f2⟩:=k1.b3
 obtain⟨k2c0,k2c1,k2c2,k2z,k2f0,k2f1,k2f2⟩:=k2.b3
 obtain⟨k3c0,k3c1,k3c2,k3z,k3f0,k3f1,k3f2⟩:=k3.b3
 go_wp2_with fail
 clear k1c0 k1f0 k1c1 k1f1 k1c2 k1f2 k2c0 k2f0 k2c1 k2f1 k2c2 k2f2 k3c0 k3f0 k3c1 k3f1 k3c2 k3f2 k1z k2z k3z
 refine(hMu _ h1 h2).mono ?_
 rintro e w4 ⟨B,k,rfl,own1,hb4⟩
 replace k1:=k1.below hb4 k1.lt
 replace k2:=k2.below hb4 k2.lt
 replace k3:=k3.below hb4 k3.lt
 replace hb0:=hb0.trans (hb4.mono hb0.size)
 replace h1:=h1.below hb4
 replace h2:=h2.below hb4
 clear hb4
 obtain⟨k1c0,k1c1,k1c2,k1z,k1f0,k1f1,k1f2⟩:=k1.b3
 obtain⟨k2c0,k2c1,k2c2,k2z,k2f0,k2f1,k2f2⟩:=k2.b3
 obtain⟨k3c0,k3c1,k3c2,k3z,k3f0,k3f1,k3f2⟩:=k3.b3
 go_wp2_with fail
 clear k1c0 k1f0 k1c1 k1f1 k1c2 k1f2 k2c0 k2f0 k2c1 k2f1 k2c2 k2f2 k3c0 k3f0 k3c1 k3f1 k3c2 k3f2 k1z k2z k3z
 obtain⟨x4,hxx4,hx4,k4⟩:=Blk.al w4 67 #[.slice B (limbs (K1*K2)).length k]
 rw[←hxx4]
 clear hxx4
 replace k1:=k1.below hx4 k1.lt
 replace k2:=k2.below hx4 k2.lt
 replace k3:=k3.below hx4 k3.lt
 replace hb0:=hb0.trans (hx4.mono hb0.size)
 replace h1:=h1.below hx4
 replace h2:=h2.below hx4
 replace own1:=own1.below hx4 nrf
 clear hx4
 have z4:=k3.lt
 refine(hMk B k _ own1.rd).mono ?_
 rintro e w5 ⟨B2,k5,rfl,own2,hb5⟩
 replace k1:=k1.below hb5 k1.lt
 replace k2:=k2.below hb5 k2.lt
 replace k3:=k3.below hb5 k3.lt
 replace k4:=k4.below hb5 k4.lt
 replace hb0:=hb0.trans (hb5.mono hb0.size)
 replace h1:=h1.below hb5
 replace h2:=h2.below hb5
 replace own1:=own1.below hb5 nrf
 clear hb5
 obtain⟨k1c0,k1c1,k1c2,k1z,k1f0,k1f1,k1f2⟩:=k1.b3
 obtain⟨k2c0,k2c1,k2c2,k2z,k2f0,k2f1,k2f2⟩:=k2.b3
 obtain⟨k3c0,k3c1,k3c2,k3z,k3f0,k3f1,k3f2⟩:=k3.b3
 obtain⟨k4c0,k4z,k4f0⟩:=k4.b1
 go_wp2
 refine bodyPost_ret (v:=.tuple #[.agg #[.bool false,.slice B2 (limbs KV).length k5,.int .i64 DE],.int .i64 0]) ?_ rfl ⟨B2,k5,rfl,(((own2.setCell z4 _).setCell z4 _).setCell z4 _).mono (by omega),((bel3 hb0 (w.heap.size+2) (by simp)))⟩
 refine results_cell_tmp rfl _ _ (w.heap.size+2) _ _ _ _ _ ?_ ?_ ((((k3.set_ 0 _).set_ 1 _).set_ 2 _)) Tryz.underlying117 rfl (by kernel_rfl)
 · rfl
 · rfl
theorem up_of (A:Option Addr) (K c j:Nat) (hK:K≠0) (hl:(limbs K).length≤200) (hj:j≤5000) (W:World) (h:Rd W A (limbs K)):
 Calls Tryz.prog 172 #[.agg #[.slice A (limbs K).length c],.int .i64 (j:Int)] W (NatAns 153 W (limbs (K*2^j),0)):=by
 have:=ref_Up A (limbs K) _ c rfl (j:Int) (by omega) (by omega) W h
 have hb:=bl_le hl
 have e:upS (limbs K) (j:Int)=(limbs (K*2^j),0):=by
  unfold upS
  rw[if_pos (chk_ok hl),if_neg (by omega),if_neg (by rw[limbs_eq_nil];exact hK),val_limbs,if_neg (by omega),Int.toNat_natCast]
 rw[e] at this
 exact this
end Bg
end Go.Proofs.YtenekbfnlbipiaaGreatDoor
