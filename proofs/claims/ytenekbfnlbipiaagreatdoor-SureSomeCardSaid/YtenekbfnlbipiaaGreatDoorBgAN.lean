/- Walks: layer 15's powers of ten are the 128 bits; layer 19: both ends of a number. -/
import Derived.Test.YtenekbfnlbipiaaGreatDoorBgAM
import Derived.Test.YtenekbfnlbipiaaGreatDoorBgW
import Derived.Test.YtenekbfnlbipiaaGreatDoorBgA
import Derived.Test.YtenekbfnlbipiaaGreatDoorBgAB
import Derived.Test.YtenekbfnlbipiaaGreatDoorBgL
namespace Go.Proofs.YtenekbfnlbipiaaGreatDoor
open Go.RowKit
set_option linter.unusedVariables false
set_option linter.unusedSimpArgs false
set_option maxHeartbeats 4000000
set_option maxRecDepth 100000
namespace Bg
def x0P (j:Nat):Int:=(bitLen (10^j):Int)-(bitLen 1:Int)-128
def x0N (j:Nat):Int:=(bitLen 1:Int)-(bitLen (10^j):Int)-128
def okP (j:Nat):Bool:=decide (bitLen (tA (10^j) (x0P j)/tD 1 (x0P j))≠128)&&decide (bitLen (tA (10^j) (x0P j+1)/tD 1 (x0P j+1))=128)&&decide (tA (10^j) (x0P j+1)/tD 1 (x0P j+1)=tenN (j:Int))&&(decide (tA (10^j) (x0P j+1)%tD 1 (x0P j+1)=0)==tenX (j:Int))&&decide (x0P j+1=tenE (j:Int))&&decide (-2000≤x0P j)&&decide (x0P j≤2000)
def okN (j:Nat):Bool:=decide (bitLen (tA 1 (x0N j)/tD (10^j) (x0N j))=128)&&decide (tA 1 (x0N j)/tD (10^j) (x0N j)=tenN (-(j:Int)))&&(decide (tA 1 (x0N j)%tD (10^j) (x0N j)=0)==tenX (-(j:Int)))&&decide (x0N j=tenE (-(j:Int)))&&decide (-2000≤x0N j)&&decide (x0N j≤2000)
theorem okP_all:∀j:Fin 401,okP j.val=true:=by decide+kernel
theorem okN_all:∀j:Fin 400,okN (j.val+1)=true:=by decide+kernel
theorem ten370:∀j:Fin 371,10^j.val<4294967296^39:=by decide+kernel
theorem ten_len370 {j:Nat} (h:j≤370):(limbs (10^j)).length<40:=by
 have:=(length_limbs_le (10^j) 39).2 (ten370 ⟨j,by omega⟩)
 omega
theorem ref15_Ten (k:Int) (h1: -370≤k) (h2:k≤370) (w:World):
 Calls Tryz.prog 54 #[.int .i64 k] w (TenA w (tenN k) (tenE k) (tenX k)):=by
 by_cases h0:0≤k
 · obtain⟨j,rfl⟩:∃j:Nat,k=(j:Int):=⟨k.toNat,by omega⟩
   have ok:=okP_all ⟨j,by omega⟩
   simp only[okP,Bool.and_eq_true,decide_eq_true_eq,beq_iff_eq] at ok
   obtain⟨⟨⟨⟨⟨⟨a1,a2⟩,a3⟩,a4⟩,a5⟩,a6⟩,a7⟩:=ok
   have:=ref15_Ten_pos j (by omega) (ten_len370 (by omega)) (x0P j) (x0P j+1) (10^j) 1 rfl rfl rfl a6 a7 (.inr ⟨rfl,a1⟩) a2 w
   rw[a3,a4,a5] at this
   exact this
 · obtain⟨j,rfl⟩:∃j:Nat,k= -(j:Int):=⟨(-k).toNat,by omega⟩
   have ok:=okN_all ⟨j-1,by omega⟩
   rw[show(⟨j-1,by omega⟩:Fin 400).val+1=j by show j-1+1=j;omega] at ok
   simp only[okN,Bool.and_eq_true,decide_eq_true_eq,beq_iff_eq] at ok
   obtain⟨⟨⟨⟨⟨a2,a3⟩,a4⟩,a5⟩,a6⟩,a7⟩:=ok
   have:=ref15_Ten_neg j (by omega) (by omega) (ten_len370 (by omega)) (x0N j) (x0N j) 1 (10^j) rfl rfl rfl a6 a7 (.inl rfl) a2 w
   rw[a3,a4,a5] at this
   exact this
def TimesA (w:World) (V N:Nat) (e:Ending) (w':World):Prop:=
 ∃z n' d',e=.returned (.pointer (some ⟨z,0,none⟩))∧w.heap.size≤z∧Rt w' z n' d'∧Sc n' d' V N∧Below w.heap.size w w'
theorem ref19_times_sc (y i:Nat) (TI:TypeId) (restI:List Value) (n d m:Nat) (q:Int) (FR:Frac n d m q) (T N:Nat) (x:Int) (hT0:T≠0) (lT:(limbs T).length≤5) (hx1: -3000≤x) (hx2:x≤3000) (hN:(N:Int)= -(x+q-2)) (w:World) (hT:Tz w) (hy:Rt w y n d) (hi:Ob w i TI false T restI):
 Calls Tryz.prog 58 #[.pointer (some ⟨y,0,none⟩),.pointer (some ⟨i,0,none⟩),.int .i64 x] w (TimesA w (T*(4*m)) N):=by
 by_cases h0:0≤x
 · obtain⟨k,rfl⟩:∃k:Nat,x=(k:Int):=⟨x.toNat,by omega⟩
   obtain⟨f2,sc⟩:=FR.sc_pos (k:=k) hT0 lT (by omega) hN
   refine(ref19_times_pos y i restI TI n d T k (by omega) (FR.fit1 lT) f2 w hT hy hi).mono ?_
   rintro e w' ⟨z,rfl,hz,r,b⟩
   exact⟨z,_,_,rfl,hz,r,sc,b⟩
 · obtain⟨k,rfl⟩:∃k:Nat,x= -(k:Int):=⟨(-x).toNat,by omega⟩
   obtain⟨f2,sc⟩:=FR.sc_neg (k:=k) hT0 lT (by omega) hN
   refine(ref19_times_neg y i restI TI n d T k (by omega) (by omega) (FR.fit1 lT) f2 w hT hy hi).mono ?_
   rintro e w' ⟨z,rfl,hz,r,b⟩
   exact⟨z,_,_,rfl,hz,r,sc,b⟩
def EndsA (w:World) (V1 V2 N:Nat) (e:Ending) (w':World):Prop:=
 ∃z1 z2 n1 d1 n2 d2,e=.returned (.tuple #[.pointer (some ⟨z1,0,none⟩),.pointer (some ⟨z2,0,none⟩)])∧Rt w' z1 n1 d1∧Rt w' z2 n2 d2∧Sc n1 d1 V1 N∧Sc n2 d2 V2 N∧Below w.heap.size w w'
theorem T5 {v:Nat} (h:v≤2^128):(limbs v).length≤5:=(length_limbs_le v 5).2 (Nat.lt_of_le_of_lt h (by decide))
theorem ref19_ends (y n d m:Nat) (q:Int) (FR:Frac n d m q) (k s:Int) (hs:s= -k) (h1: -370≤k) (h2:k≤370) (N:Nat) (hN:(N:Int)= -(tenE k+q-2)) (w:World) (hT:Tz w) (hy:Rt w y n d):
 Calls Tryz.prog 21 #[.pointer (some ⟨y,0,none⟩),.int .i64 s] w (EndsA w (tenN k*(4*m)) (kB k*(4*m)) N):=by
 subst hs
 have hf:farB k=false:=by simp only[farB,Bool.or_eq_false_iff,decide_eq_false_iff_not];omega
 obtain⟨t1,t2⟩:=tenN_bd hf
 have hE: -3000≤tenE k∧tenE k≤3000:=by
  have:=tS_le hf
  unfold tenE
  split <;> omega
 have hTn:=fun W=>ref15_Ten k h1 h2 W
 have hk:kB k=tenN k+(if tenX k then 0 else 1):=rfl
 have hT1:=fun y' i W hW h3 h4=>ref19_times_sc y' i 95 [] n d m q FR (tenN k) N (tenE k) (by omega) (T5 (by omega)) hE.1 hE.2 hN W hW h3 h4
 have hT2:=fun y' i W hW h3 h4=>ref19_times_sc y' i 95 [] n d m q FR (kB k) N (tenE k) (by rw[hk];omega) (T5 (by rw[hk];split <;> omega)) hE.1 hE.2 hN W hW h3 h4
 have lT:(limbs (tenN k)).length≤5:=T5 (by omega)
 clear t1 t2 hf hN FR
 generalize tenE k=x at*
 generalize tenN k=T at*
 cases hX:tenX k with
 |true=>
  rw[hX] at hk hTn
  rw[show kB k=T from hk] at hT2 ⊢
  clear hk hX
  go_enter Tryz.func21,Tryz.ntmps21
  go_wp2_with fail
  refine(hTn _).mono ?_
  rintro e w1 ⟨t,rfl,ht,ot,b1⟩
  have y1:=hy.below b1
  have tlt:=ot.lt
  have al2:Below w1.heap.size w1 (w1.alloc (.cells #[.bool false,.slice none 0 0] 95)):=(Below.refl _ _).alloc nrf _
  have k2:At (w1.alloc (.cells #[.bool false,.slice none 0 0] 95)) w1.heap.size 95 []:=⟨_,_,Blk.new w1 _ _⟩
  go_wp2_with fail
  have B2:=b1.trans (al2.mono b1.size)
  refine(int_Set w1.heap.size t 95 95 [] [] (by decide) T _ k2 (ot.below al2)).mono ?_
  rintro e w3 ⟨rfl,h3,ou⟩
  have ylt:=y1.lt
  have ot3:=(ot.below al2).hole k2 (by decide) (show t≠w1.heap.size by omega) h3
  have y3:=(y1.below al2).hole k2 (by decide) (show y≠w1.heap.size by omega) h3
  have B3:=hole_fresh B2 h3 b1.size
  clear h3 k2 al2 B2 ot
  go_wp2_with fail
  refine(hT1 y t _ (hT.below B3) y3 ot3).mono ?_
  rintro e w6 ⟨z1,n1,d1,rfl,hz1,r1,sc1,b6⟩
  have y6:=y3.below b6
  have u6:=ou.below b6
  have B6:=B3.trans (b6.mono B3.size)
  go_wp2_with fail
  refine(hT2 y w1.heap.size _ (hT.below B6) y6 u6).mono ?_
  rintro e w7 ⟨z2,n2,d2,rfl,hz2,r2,sc2,b7⟩
  have r17:=r1.below b7
  have B7:=B6.trans (b7.mono B6.size)
  clear hT1 hT2
  go_wp2
  go_ret2
  exact⟨z1,z2,n1,d1,n2,d2,rfl,r17,r2,sc1,sc2,B7⟩
 |false=>
  rw[hX] at hk hTn
  rw[show kB k=T+1 from hk] at hT2 ⊢
  clear hk hX
  go_enter Tryz.func21,Tryz.ntmps21
  go_wp2_with fail
  refine(hTn _).mono ?_
  rintro e w1 ⟨t,rfl,ht,ot,b1⟩
  have y1:=hy.below b1
  have tlt:=ot.lt
  have al2:Below w1.heap.size w1 (w1.alloc (.cells #[.bool false,.slice none 0 0] 95)):=(Below.refl _ _).alloc nrf _
  have k2:At (w1.alloc (.cells #[.bool false,.slice none 0 0] 95)) w1.heap.size 95 []:=⟨_,_,Blk.new w1 _ _⟩
  go_wp2_with fail
  have B2:=b1.trans (al2.mono b1.size)
  refine(int_Set w1.heap.size t 95 95 [] [] (by decide) T _ k2 (ot.below al2)).mono ?_
  rintro e w3 ⟨rfl,h3,ou⟩
  have ylt:=y1.lt
  have ot3:=(ot.below al2).hole k2 (by decide) (show t≠w1.heap.size by omega) h3
  have y3:=(y1.below al2).hole k2 (by decide) (show y≠w1.heap.size by omega) h3
  have B3:=hole_fresh B2 h3 b1.size
  clear h3 k2 al2 B2 ot
  go_wp2_with fail
  refine(big_NewInt 1 (by decide) _).mono ?_
  rintro e w4 ⟨o,rfl,ho,oo,b4⟩
  have ou4:=ou.below b4
  have ot4:=ot3.below b4
  have y4:=y3.below b4
  have B4:=B3.trans (b4.mono B3.size)
  have ot3s:=ou.lt
  go_wp2_with fail
  refine(int_Add w1.heap.size w1.heap.size o 95 95 95 [] [] [] (by decide) T 1 (by have:(limbs 1).length=1:=rfl;omega) _ ou4.at_ ou4 oo).mono ?_
  rintro e w5 ⟨rfl,h5,ou5⟩
  have ot5:=ot4.hole ou4.at_ (by decide) (show t≠w1.heap.size by omega) h5
  have y5:=y4.hole ou4.at_ (by decide) (show y≠w1.heap.size by omega) h5
  have B5:=hole_fresh B4 h5 b1.size
  clear h5 ou4 ot4 y4 B4 oo ot3 y3 B3 ou b4
  go_wp2_with fail
  refine(hT1 y t _ (hT.below B5) y5 ot5).mono ?_
  rintro e w6 ⟨z1,n1,d1,rfl,hz1,r1,sc1,b6⟩
  have y6:=y5.below b6
  have u6:=ou5.below b6
  have B6:=B5.trans (b6.mono B5.size)
  go_wp2_with fail
  refine(hT2 y w1.heap.size _ (hT.below B6) y6 u6).mono ?_
  rintro e w7 ⟨z2,n2,d2,rfl,hz2,r2,sc2,b7⟩
  have r17:=r1.below b7
  have B7:=B6.trans (b7.mono B6.size)
  clear hT1 hT2
  go_wp2
  go_ret2
  exact⟨z1,z2,n1,d1,n2,d2,rfl,r17,r2,sc1,sc2,B7⟩
end Bg

theorem info_u8:(Tryz.prog.info? 5).map (fun i=>(i.zero,i.size,i.bytes))=some (some (.int .u8 0),1,1):=by kernel_rfl
theorem under_u8s:Tryz.prog.underlying 180=some (.slice 5):=Tryz.underlying180
theorem under_u8:Tryz.prog.underlying 5=some (.int .u8):=Tryz.underlying5
theorem under_str:Tryz.prog.underlying 9=some .string:=Tryz.underlying9
theorem elem8:ElemOf Tryz.prog 180 5 .u8:=by
 obtain⟨i,hi,hz,hs,hb⟩:=info_parts info_u8
 exact⟨under_u8s,i,1,hi,hz,hs,hb,by decide⟩
theorem mk8 (n:Nat) (N:Int) (hN:N=(n:Int)) (hn:n≤35184372088832) (w:World):
 (Instr.makeSlice 180 (.int .i64 N) (.int .i64 N)).run Tryz.prog w=.ok (.slice (some ⟨w.heap.size,0,none⟩) n n) (w.alloc (.cells (ints .u8 (List.replicate n 0)).toArray 5)):=by
 obtain⟨i,hi,hz,hs,hb⟩:=info_parts info_u8
 exact run_makeK _ _ .u8 i under_u8s hi hz hs (by omega) n N hN hn w

def cap6:Nat:=600000
theorem cap_lt (x y:Nat) (h1:x<y) (h2:y≤524289):cap6-y<cap6-x:=by unfold cap6;omega
theorem gap_lt {Q i a b:Nat} (hQ:Q=0) (hI:i=0→0<0+10^9*Q) (h:a+i≤b):a<b:=by
 rcases Nat.eq_zero_or_pos i with h0|h0
 · have:=hI h0
   rw[hQ] at this;simp at this
 · omega
theorem nine_mod (r i Q:Nat) (hi:i<9):(r+10^(9-i)*Q)%10=r%10∧(r+10^(9-i)*Q)/10=r/10+10^(9-(i+1))*Q:=by
 have e:10^(9-i)=10*10^(9-(i+1)):=by
  rw[←Nat.pow_succ'];congr 1;omega
 rw[e,Nat.mul_assoc]
 generalize 10^(9-(i+1))*Q=X
 omega
theorem nine_lt (r i:Nat) (hi:i<9) (h:r<10^(9-i)):r/10<10^(9-(i+1)):=by
 have e:10^(9-i)=10*10^(9-(i+1)):=by
  rw[←Nat.pow_succ'];congr 1;omega
 rw[e] at h
 omega
theorem rev_of {o b:List Nat} (hl:o.length=b.length) (h:∀j,j<b.length→nth o j=nth b (b.length-1-j)):o=b.reverse:=by
 apply List.ext_getElem
 · simp[hl]
 · intro j h1 h2
   have:=h j (by omega)
   rw[nth_lt o h1,nth_lt b (by omega)] at this
   rw[List.getElem_reverse,this]
namespace Bg
theorem row_grown {w w':World} {g B:Nat} {t e:TypeId} {k:IntKind} {v:Value} {m o:List Nat} (h:Row w t g o) (hg:w.grownBy w' v.ownBlock) (hown:OwnR w B e k v m) (hne:e≠t):Row w' t g o:=by
 refine(hg.block g h.lt fun he=>?_).trans h
 rcases hown.form with ⟨rfl,_⟩|⟨g',cap,cur',rfl,_,hh,_⟩
 · simp[Value.ownBlock] at he
 · simp[Value.ownBlock] at he
   subst he
   unfold Row Blk at h
   unfold Blk at hh
   rw[h] at hh;injection hh with hh;injection hh with _ hh
   exact hne hh.symm
theorem ownr_set {w:World} {g B:Nat} {t e:TypeId} {k:IntKind} {v:Value} {m o:List Nat} (h:OwnR w B e k v m) (hr:Row w t g o) (hne:e≠t) (i:Nat) (u:Value):OwnR (w.setCell ⟨g,i,none⟩ u) B e k v m:=by
 refine⟨h.1,?_⟩
 rcases h.2 with hn|⟨g',cap,cur,rfl,hg,hh,r⟩
 · exact .inl hn
 · refine .inr ⟨g',cap,cur,rfl,hg,(Below.heap_setCell w ⟨g,i,none⟩ u g' ?_).trans hh,r⟩
   intro e'
   simp only at e'
   subst e'
   unfold Row Blk at hr
   rw[hr] at hh;injection hh with hh;injection hh with _ hh
   exact hne hh.symm
def figB:ByteArray:={ data:=#[48,49,50,51,52,53,54,55,56,57,97,98,99,100,101,102,103,104,105,106,107,108,109,110,111,112,113,114,115,116,117,118,119,120,121,122] }
theorem fig_all:∀d:Fin 10,(figB[d.val]'(Nat.lt_of_lt_of_le d.isLt (by decide))).toNat=48+d.val:=by decide
theorem fig_at (d:Nat) (h:d<10) (hd:d<figB.size):(figB[d]'hd).toNat=48+d:=fig_all ⟨d,h⟩
theorem take_set (o:List Nat) (n k x:Nat):(o.set k x).take n=(o.take n).set k x:=by
 rw[List.take_set]
theorem nth_take (o:List Nat) (n k:Nat) (h:k<n):nth (o.take n) k=nth o k:=by
 unfold nth
 rw[List.getD_eq_getElem?_getD,List.getD_eq_getElem?_getD,List.getElem?_take,if_pos h]
def TellRel (N L g:Nat) (w:World) (v0 v12:Value) (wr:World):Prop:=
 ∃(ds o:List Nat) (n:Nat),v0=.slice (some ⟨g,0,none⟩) n L∧n≤L∧o.length=L∧Sm o∧o.take n=limbs (val (o.take n))∧Row wr 153 g o∧OwnR wr w.heap.size 5 .u8 v12 (ds.map (48+ ·))∧
  Dg ds∧N=dval ds+10^ds.length*val (o.take n)∧(ds=[]∨10^(ds.length-1)≤N)∧Below w.heap.size w wr
def TellDiv (o:List Nat) (n g:Nat) (bk:Value) (b:List Nat) (w:World) (v13 v14:Value) (wi:World):Prop:=
 ∃(k q:Nat) (o2:List Nat),k≤n∧v14=.int .i64 ((k:Int)-1)∧v13=.int .u64 (q:Int)∧q<1000000000∧o2.length=o.length∧Sm o2∧val ((o.take n).drop k)=1000000000*val ((o2.take n).drop k)+q∧
  (∀j,j<k→nth o2 j=nth o j)∧Row wi 153 g o2∧OwnR wi w.heap.size 5 .u8 bk b∧Below w.heap.size w wi
def TellIn (N Q g:Nat) (o:List Nat) (w:World) (v12 v16 v17:Value) (wr:World) (n0:Nat):Prop:=
 ∃(ds:List Nat) (r i:Nat),i≤9∧v16=.int .u32 (r:Int)∧v17=.int .i64 (i:Int)∧r<10^(9-i)∧Row wr 153 g o∧OwnR wr w.heap.size 5 .u8 v12 (ds.map (48+ ·))∧
  Dg ds∧N=dval ds+10^ds.length*(r+10^(9-i)*Q)∧(ds=[]∨10^(ds.length-1)≤N)∧n0+i≤ds.length∧(i=0→0<r+10^9*Q)∧Below w.heap.size w wr
theorem ten9 {j:Nat} (h:j≤8):10^j≤100000000:=Nat.pow_le_pow_right (n:=10) (j:=8) (by decide) h
def bMax:Nat:=1280
def Figs (w:World) (b:List Nat) (e:Ending) (w':World):Prop:=
 ∃g,e=.returned (.slice (some ⟨g,0,none⟩) b.length b.length)∧w.heap.size≤g∧RowK w' 5 .u8 g b∧Below w.heap.size w w'
theorem big_tell (A:Option Addr) (l:List Nat) (n c:Nat) (hn:n=l.length) (hl40:l.length≤40) (hcan:l=limbs (val l)) (w:World) (h:Rd w A l):
 Calls Tryz.prog 161 #[.slice A n c,.int .i64 10,.int .i64 1] w (Figs w (textL (val l))):=by
 subst hn
 have hN:val l<2^bMax:=by
  have:=val_lt h.sm
  refine Nat.lt_of_lt_of_le this ?_
  rw[show 4294967296=2^32 from rfl, ←Nat.pow_mul]
  exact Nat.pow_le_pow_right (by decide) (by unfold bMax;omega)
 have HN:=Lib.hid hN
 have HCAN:=Lib.hid hcan
 clear hN hcan
 go_enter Tryz.func161,Tryz.ntmps161
 go_wp2
 go_loopw [10,11] (fun v10 v11 wr=>∃j P:Nat,1≤j∧j≤9∧P=10^j∧v10=.int .u32 (P:Int)∧v11=.int .i64 (j:Int)∧Below w.heap.size w wr) (fun _ v11 _=>(9-intOf v11).toNat)
 case atStart=>exact⟨1,10,by decide,by decide,rfl,rfl,rfl,Below.refl _ _⟩
 case round=>
  obtain⟨j,P,hj1,hj9,hP,rfl,rfl,hb⟩:=hrel
  by_cases hj:j≤8
  · have hP8:P≤100000000:=by rw[hP];exact ten9 hj
    have hle:decide ((P:Int)≤429496729)=true:=by simp;omega
    have HP:=Lib.hid hP
    clear hP
    go_wp2
    go_roundw
    case rel=>exact⟨j+1,P*10,by omega,by omega,by rw[HP.out,Nat.pow_succ],by go_num,by go_num,hb⟩
    case measure=>first|(simp[intOf];done)|(simp[intOf];omega)
  · obtain rfl:j=9:=by omega
    obtain rfl:P=1000000000:=hP
    have hle:decide ((1000000000:Int)≤429496729)=false:=by decide
    clear hj hj1 hj9
    go_wp2_with fail
    refine(big_copied A l _ c rfl _ (h.below hb)).mono ?_
    rintro e w1 ⟨g,rfl,hg,hrow,hb1⟩
    have hbw1:=hb.trans (hb1.mono hb.size)
    have hgw:w.heap.size≤g:=Nat.le_trans hb.size hg
    go_wp2
    go_loopw [0,12] (fun v0 v12 wr=>TellRel (val l) l.length g w v0 v12 wr) (fun _ v12 _=>cap6-sliceLen v12)
    case atStart=>
     exact⟨[],l,l.length,rfl,Nat.le_refl _,rfl,h.sm,by rw[List.take_length];exact HCAN.out,hrow,OwnR.nil _ _ _ _,Dg.nil,by simp[dval],.inl rfl,hbw1⟩
    case round=>
     obtain⟨wo,rfl⟩:∃wo:World,wo=wr:=⟨_,rfl⟩
     obtain⟨ds,o,n,rfl,hnL,hol,hso,htk,hro,hown,hdg,hN1,hlow,hbl⟩:=hrel
     have HN1:=Lib.hid hN1
     have HLOW:=Lib.hid hlow
     have HTK:=Lib.hid htk
     have HOL:=Lib.hid hol
     have hdl:ds.length≤524289:=by
      rcases hlow with h|h
      · rw[h];simp
      · exact Nat.le_trans (low_bound HN.out h) (by unfold bMax;omega)
     have HDL:=Lib.hid hdl
     clear hN1 hlow hdl htk hol
     by_cases hz:n=0
     · subst hz
       have hdv:val l=dval ds:=by
        have:=HN1.out
        rw[List.take_zero] at this
        simpa [val] using this
       obtain⟨b,hb'⟩:∃b:List Nat,b=ds.map (48+ ·):=⟨_,rfl⟩
       have hbl2:b.length=ds.length:=by rw[hb'];simp
       have hp0:b.length<1→textL (val l)=[48]:=by
        intro h1
        have:ds=[]:=List.eq_nil_of_length_eq_zero (by omega)
        rw[hdv,this];rfl
       have hp1:1≤b.length→textL (val l)=b.reverse:=by
        intro h1
        have hne:ds≠[]:=by intro e0;rw[e0,List.length_nil] at hbl2;omega
        have h10:10^(ds.length-1)≤val l:=by
         rcases HLOW.out with h|h
         · exact absurd h hne
         · exact h
        have hv0:val l≠0:=by have:0<10^(ds.length-1):=Nat.pow_pos (by decide);omega
        rw[textL_pos hv0,hb',hdv,digs_of hdg (.inr (by rw[←hdv];exact h10))]
       rw[←hb'] at hown
       have HP0:=Lib.hid hp0
       have HP1:=Lib.hid hp1
       have HBL:=Lib.hid (show b.length≤524289 by have:=HDL.out;omega)
       clear hp0 hp1 hb' hbl2 hdv
       go_wp2
       go_loopw [12] (fun v12 wi=>∃b:List Nat,OwnR wi w.heap.size 5 .u8 v12 b∧b.length≤524289∧(b.length<1→b=[]∧textL (val l)=[48])∧(1≤b.length→textL (val l)=b.reverse)∧Below w.heap.size w wi) (fun v12 _=>1-sliceLen v12)
       case atStart=>
        exact⟨b,hown,HBL.out,fun h1=>⟨List.eq_nil_of_length_eq_zero (by omega),HP0.out h1⟩,HP1.out,hbl⟩
       case round=>
        clear HP0 HP1 HBL hown
        obtain⟨b,hown,hb524,hq0,hq1,hbl3⟩:=hrel
        obtain⟨wp,rfl⟩:∃wp:World,wp=wr:=⟨_,rfl⟩
        have HQ0:=Lib.hid hq0
        have HQ1:=Lib.hid hq1
        have HBL:=Lib.hid hb524
        clear hq0 hq1 hb524
        obtain⟨A5,c5,rfl⟩:=hown.len.2
        by_cases hb1':b.length<1
        · obtain⟨hbn,htx⟩:=HQ0.out hb1'
          subst hbn
          have HTX:=Lib.hid htx
          clear HQ0 HQ1 HBL htx hb1'
          go_wp2_with (at_builtin;refine wpList_app elem8 rfl _ _ rfl (hown.alloc _) rfl ⟨_,0,none⟩ rfl 48 ?d1 ?d2 ?d3 (fun v' w' hown' hgr hbb=>?_))
          case d1=>simp[go_sem]
          case d2=>simp
          case d3=>have:=hbl3.size;simp;omega
          go_roundw
          case rel=>
           exact⟨[48],hown',by simp,fun h1=>by simp at h1,fun _=>HTX.out,(hbl3.alloc hbl3.size _).trans hbb⟩
          case measure=>
           have a1:=hown'.len.1
           simp only[List.nil_append,List.length_cons,List.length_nil] at a1
           rw[a1];show 0<1-0;decide
        · have HTX:=Lib.hid (HQ1.out (by omega))
          have hbb:=HBL.out
          have hbge:decide ((b.length:Int)<1)=false:=by simp;omega
          have hmk:=fun W=>mk8 b.length (b.length:Int) rfl (by omega) W
          clear HQ0 HQ1 hb1'
          go_wp2
          go_loopw [19] (fun v19 wi=>∃(k:Nat) (o:List Nat),k≤b.length∧v19=.int .i64 (k:Int)∧o.length=b.length∧RowK wi 5 .u8 wp.heap.size o∧(∀j,j<k→nth o j=nth b (b.length-1-j))∧Below wp.heap.size wp wi) (fun v19 _=>b.length-(intOf v19).toNat)
          case atStart=>
           exact⟨0,List.replicate b.length 0,Nat.zero_le _,rfl,by simp,rowK_new rfl rfl,fun j hj=>by omega,bbel⟩
          case round=>
           obtain⟨k,o,hk,rfl,hol,hrow,hcp,hbi⟩:=hrel
           have HOL:=Lib.hid hol
           have HCP:=Lib.hid hcp
           clear hol hcp
           by_cases hk1:k<b.length
           · obtain⟨bb,off,rfl,hcell⟩:=(hown.rdK.below hbi) (by omega)
             have hc1:=hcell (b.length-1-k) (by omega)
             have hc2:=hrow.cell k (by rw[HOL.out];exact hk1)
             have hfz:=hrow.frozen k
             clear hcell
             have hx:((b.length:Int)-1-(k:Int)).toNat=b.length-1-k:=by omega
             go_wp2
             go_roundw
             case rel=>
              refine⟨k+1,o.set k (nth b (b.length-1-k)),by omega,by go_num,by simp[HOL.out],hrow.setE _ _ rfl,?_,bbel⟩
              intro j hj
              by_cases hjk:j=k
              · subst hjk
                exact nth_set_eq _ _ _ (by rw[HOL.out];exact hk1)
              · rw[nth_set_ne _ _ _ _ (by omega)]
                exact HCP.out j (by omega)
             case measure=>first|(simp[intOf];done)|(simp[intOf];omega)
           · have hkb:k=b.length:=by omega
             have hrev:o=b.reverse:=rev_of HOL.out fun j hj=>HCP.out j (by omega)
             have hot:o=textL (val l):=hrev.trans HTX.out.symm
             rw[hot] at hrow
             have hlen:b.length=(textL (val l)).length:=by rw[HTX.out];simp
             have HLEN:=Lib.hid hlen
             clear hrev hot hlen
             go_wp2
             go_ret
             exact⟨wp.heap.size,by rw[HLEN.out];rfl,hbl3.size,hrow,hbl3.trans (hbi.mono hbl3.size)⟩
     · have hV:0<val (o.take n):=by
        rcases Nat.eq_zero_or_pos (val (o.take n)) with h|h
        · exfalso
          have h2:=HTK.out
          rw[h] at h2
          have h3:=congrArg List.length h2
          rw[List.length_take,HOL.out,show(limbs 0).length=0 from rfl] at h3
          omega
        · exact h
       have hn5:0<n:=by omega
       have hn5B:decide ((0:Int)<(n:Int))=true:=by simp;omega
       clear hz
       go_wp2
       go_loopw [13,14] (fun v13 v14 wi=>TellDiv o n g u12 (ds.map (48+ ·)) w v13 v14 wi) (fun _ v14 _=>(intOf v14+1).toNat)
       case atStart=>
        refine⟨n,0,o,Nat.le_refl _,rfl,rfl,by decide,rfl,hso,?_,fun j hj=>rfl,hro,hown,hbl⟩
        rw[List.drop_of_length_le (by rw[List.length_take];omega)];rfl
       case round=>
        clear hown hro hbl
        obtain⟨wd,rfl⟩:∃wd:World,wd=wr:=⟨_,rfl⟩
        obtain⟨k,q,o2,hk,rfl,rfl,hq,ho2l,hso2,hv,hunt,hro2,hown2,hbl2⟩:=hrel
        have HV:=Lib.hid hv
        have HO2L:=Lib.hid ho2l
        have HUNT:=Lib.hid hunt
        clear hv ho2l hunt
        by_cases hk0:k=0
        · subst hk0
          have hqq:=HV.out
          rw[List.drop_zero,List.drop_zero] at hqq
          have hr10:q<10^(9-0):=hq
          have hcan2:limbs (val (o2.take n))=(o2.take n).take (limbs (val (o2.take n))).length:=limbs_prefix (hso2.take n)
          have hle2:(limbs (val (o2.take n))).length≤n:=by
           have:=limbs_length_le (hso2.take n)
           rw[List.length_take] at this
           omega
          rw[List.take_take,Nat.min_eq_left hle2] at hcan2
          have hrd2:Rd wd (some ⟨g,0,none⟩) (o2.take n):=by
           have:=hro2.rd hso2 (by rw[HO2L.out,HOL.out];omega) 0 n (by rw[HO2L.out,HOL.out];omega) _ rfl
           rwa [List.drop_zero] at this
          have htr:=fun W hW=>big_trim (some ⟨g,0,none⟩) (o2.take n) n l.length (by rw[List.length_take,HO2L.out,HOL.out];omega) hnL W hW
          obtain⟨X,hX⟩:∃X,X=val (o2.take n):=⟨_,rfl⟩
          rw[←hX] at hqq hcan2 hle2 htr
          have hVX:val l=dval ds+10^ds.length*(q+10^(9-0)*X):=by
           rw[HN1.out,hqq,Nat.add_comm (1000000000*X)]
          have hpos:0<q+10^9*X:=by
           rw[hqq] at hV
           omega
          obtain⟨n2,hn2⟩:∃n2,n2=(limbs X).length:=⟨_,rfl⟩
          rw[←hn2] at hle2 htr hcan2
          have hn0:n2=0↔X=0:=by
           rw[hn2,List.length_eq_zero_iff,limbs_eq_nil]
          have hX2:val (o2.take n2)=X:=by rw[←hcan2,val_limbs]
          have HVX:=Lib.hid hVX
          have HPOS0:=Lib.hid hpos
          have HN0:=Lib.hid hn0
          have HX2:=Lib.hid hX2
          have HC2:=Lib.hid hcan2
          have hn2l:n2≤l.length:=by omega
          clear hVX hpos hn0 hX2 hcan2 hqq hX hn2 HV HUNT HTK HN1 hV hso hle2
          go_wp2_with fail
          refine(htr _ hrd2).mono ?_
          rintro e w3 ⟨rfl,rfl⟩
          clear hrd2 htr
          go_wp2
          go_loopw [12,16,17] (fun v12 v16 v17 wi=>TellIn (val l) X g o2 w v12 v16 v17 wi ds.length) (fun _ _ v17 _=>9-(intOf v17).toNat)
          case atStart=>
           exact⟨ds,q,0,by decide,by go_num,rfl,hr10,hro2,hown2,hdg,HVX.out,HLOW.out,by omega,fun _=>HPOS0.out,hbl2⟩
          case round=>
           obtain⟨ds2,r,i,hi9,rfl,rfl,hr,hro3,hown3,hdg2,hN2,hlow2,hnn0,hi0,hbl3⟩:=hrel
           have HN2:=Lib.hid hN2
           have HLOW2:=Lib.hid hlow2
           have HR:=Lib.hid hr
           have HI0:=Lib.hid hi0
           have HNN0:=Lib.hid hnn0
           have hr10:r<1000000000:=Nat.lt_of_lt_of_le hr (Nat.pow_le_pow_right (j:=9) (by decide) (by omega))
           have hdl2:ds2.length≤524289:=by
            rcases hlow2 with h|h
            · rw[h];simp
            · exact Nat.le_trans (low_bound HN.out h) (by unfold bMax;omega)
           have HDL2:=Lib.hid hdl2
           have HR10:=Lib.hid hr10
           clear hN2 hlow2 hr hi0 hdl2 hr10 hnn0
           by_cases hi:i<9
           · have hiB:decide ((i:Int)<9)=true:=by simp;omega
             have hd10:r%10<10:=Nat.mod_lt _ (by decide)
             have hfig:=fun h'=>fig_at (r%10) hd10 h'
             by_cases hQ:n2=0
             · have hX0:=HN0.out.1 hQ
               have hqB:decide ((0:Int)<(n2:Int))=false:=by simp[hQ]
               have hqB':decide (0<n2)=false:=by simp[hQ]
               have HX0:=Lib.hid hX0
               clear hX0 hQ
               by_cases hr0:r=0
               · subst hr0
                 go_wp2
                 go_roundw
                 case rel=>
                  refine⟨ds2,o2,n2,rfl,hn2l,by rw[HO2L.out,HOL.out],hso2,by rw[HX2.out];exact HC2.out.symm,hro3,hown3,hdg2,?_,HLOW2.out,hbl3⟩
                  rw[HX2.out,HN2.out]
                  congr 2
                  rw[HX0.out];simp
                 case measure=>
                  have a1:=hown2.len.1
                  have a2:=hown3.len.1
                  simp only[List.length_map] at a1 a2
                  have hI:=HI0.out
                  have hfe:=cap_lt ds.length ds2.length (gap_lt HX0.out hI HNN0.out) HDL2.out
                  rw[←a1, ←a2] at hfe
                  exact hfe
               · have HPOS:Hid (0<r+10^(9-i)*X):=by
                  show 0<_
                  omega
                 have hrB':decide (0<r)=true:=by simp;omega
                 have hrB:decide ((0:Int)<(r:Int))=true:=by simp;omega
                 go_wp2_with (at_builtin;refine wpList_app elem8 rfl _ _ rfl (hown3.alloc _) rfl ⟨_,0,none⟩ rfl (48+r%10) ?e1 ?e2 ?e3 (fun v' w' hown' hgr hbb=>?_))
                 case e1=>
                  simp[go_sem]
                  exact(congrArg (fun n:Nat=>(n:Int)) (hfig (Nat.lt_of_lt_of_le hd10 (by decide)))).trans (by simp)
                 case e2=>have:=HDL2.out;simp;omega
                 case e3=>have:=hbl3.size;simp;omega
                 go_roundw
                 case rel=>
                  have e:=nine_mod r i X hi
                  have st:=digit_step HN2.out
                  have lo:=digit_low HN2.out HPOS.out (r%10)
                  rw[e.1,e.2] at st
                  exact⟨ds2++[r%10],r/10,i+1,by omega,vi (by first|(have:=HR10.out;rw[IntKind.wrap_u32];omega)|(have:=HR10.out;omega)),by go_num,nine_lt r i hi HR.out,row_grown (hro3.alloc _) hgr (hown3.alloc _) (by decide),by rw[List.map_append];exact hown',hdg2.append (Dg.cons (Nat.mod_lt _ (by decide)) Dg.nil),st,.inr lo,by have:=HNN0.out;simp;omega,fun h=>by omega,(hbl3.alloc hbl3.size _).trans hbb⟩
                 case measure=>first|(simp[intOf];done)|(simp[intOf];omega)
             · have HPOS:Hid (0<r+10^(9-i)*X):=by
                show 0<_
                have h0:X≠0:=fun e=>hQ (HN0.out.2 e)
                have:=Nat.mul_pos (Nat.pow_pos (n:=9-i) (show 0<10 by decide)) (Nat.pos_of_ne_zero h0)
                omega
               have hqB:decide ((0:Int)<(n2:Int))=true:=by simp;omega
               go_wp2_with (at_builtin;refine wpList_app elem8 rfl _ _ rfl (hown3.alloc _) rfl ⟨_,0,none⟩ rfl (48+r%10) ?f1 ?f2 ?f3 (fun v' w' hown' hgr hbb=>?_))
               case f1=>
                simp[go_sem]
                exact(congrArg (fun n:Nat=>(n:Int)) (hfig (Nat.lt_of_lt_of_le hd10 (by decide)))).trans (by simp)
               case f2=>have:=HDL2.out;simp;omega
               case f3=>have:=hbl3.size;simp;omega
               go_roundw
               case rel=>
                have e:=nine_mod r i X hi
                have st:=digit_step HN2.out
                have lo:=digit_low HN2.out HPOS.out (r%10)
                rw[e.1,e.2] at st
                exact⟨ds2++[r%10],r/10,i+1,by omega,vi (by first|(have:=HR10.out;rw[IntKind.wrap_u32];omega)|(have:=HR10.out;omega)),by go_num,nine_lt r i hi HR.out,row_grown (hro3.alloc _) hgr (hown3.alloc _) (by decide),by rw[List.map_append];exact hown',hdg2.append (Dg.cons (Nat.mod_lt _ (by decide)) Dg.nil),st,.inr lo,by have:=HNN0.out;simp;omega,fun h=>by omega,(hbl3.alloc hbl3.size _).trans hbb⟩
               case measure=>first|(simp[intOf];done)|(simp[intOf];omega)
           · have hi9':i=9:=by omega
             subst hi9'
             have hr0:r=0:=by have:=HR.out;simp at this;omega
             subst hr0
             go_wp2
             go_roundw
             case rel=>
              refine⟨ds2,o2,n2,rfl,hn2l,by rw[HO2L.out,HOL.out],hso2,by rw[HX2.out];exact HC2.out.symm,hro3,hown3,hdg2,?_,HLOW2.out,hbl3⟩
              rw[HX2.out,HN2.out]
              congr 2
              simp
             case measure=>
              have a1:=hown2.len.1
              have a2:=hown3.len.1
              simp only[List.length_map] at a1 a2
              have hI:=HI0.out
              have hfe:=cap_lt ds.length ds2.length (by have:=HNN0.out;omega) HDL2.out
              rw[←a1, ←a2] at hfe
              exact hfe
        · obtain⟨k,rfl⟩:∃j,k=j+1:=⟨k-1,by omega⟩
          have hko:k<o2.length:=by rw[HO2L.out,HOL.out];omega
          have hlt:=hso2.nth k
          have hcw:=hro2.cell k hko
          have hfz:=hro2.frozen k
          have hor:=or_low32 q (nth o2 k) (by omega) hlt
          have hst:=over_step (l:=o.take n) (o:=o2.take n) (k:=k) (d:=1000000000) (by rw[List.length_take];omega) (by decide) HV.out
          rw[nth_take o n k (by omega), ←HUNT.out k (by omega)] at hst
          obtain⟨T,hT⟩:∃T,T=q*4294967296+nth o2 k:=⟨_,rfl⟩
          have hT64:T<18446744073709551616:=by omega
          have hQ:T/1000000000<4294967296:=by omega
          have hM:T%1000000000<1000000000:=Nat.mod_lt _ (by decide)
          rw[←hT] at hor hst
          obtain⟨qq,hqq⟩:∃z,z=T/1000000000:=⟨_,rfl⟩
          obtain⟨rr,hrr⟩:∃z,z=T%1000000000:=⟨_,rfl⟩
          rw[←hqq] at hQ hst
          rw[←hrr] at hM hst
          rw[←take_set] at hst
          have HST:=Lib.hid hst
          have q1:(T:Int).tdiv 1000000000=(qq:Int):=by rw[hqq];rfl
          have q2:(T:Int).tmod 1000000000=(rr:Int):=by rw[hrr];rfl
          have q3:(T:Int)/1000000000=(qq:Int):=by rw[hqq];rfl
          have q4:(T:Int)%1000000000=(rr:Int):=by rw[hrr];rfl
          have hkL:k<l.length:=by omega
          clear hst hqq hrr hT
          go_wp2
          go_roundw
          case rel=>
           refine⟨k,rr,o2.set k qq,by omega,by go_num,rfl,hM,by simp[HO2L.out],hso2.set _ _ hQ,HST.out,?_,hro2.setE _ _ rfl,ownr_set hown2 hro2 (by decide) _ _,bbel⟩
           intro j hj
           rw[nth_set_ne _ _ _ _ (by omega)]
           exact HUNT.out j (by omega)
          case measure=>first|(simp[intOf];done)|(simp[intOf];omega)
end Bg
end Go.Proofs.YtenekbfnlbipiaaGreatDoor
