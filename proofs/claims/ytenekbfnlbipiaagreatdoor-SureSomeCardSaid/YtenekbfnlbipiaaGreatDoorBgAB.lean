/- Walks: the document's layer 19: the nearest whole number. -/
import Derived.Test.YtenekbfnlbipiaaGreatDoorBgW
import Derived.Test.YtenekbfnlbipiaaGreatDoorBgD
import Derived.Laws.MathBits
import Derived.Test.YtenekbfnlbipiaaGreatDoorPlain
import Derived.Test.YtenekbfnlbipiaaGreatDoorA
import Derived.Test.YtenekbfnlbipiaaGreatDoorBgA
namespace Go.Proofs.YtenekbfnlbipiaaGreatDoor
open Go.RowKit
set_option linter.unusedVariables false
set_option linter.unusedSimpArgs false
set_option maxHeartbeats 4000000
set_option maxRecDepth 100000
namespace Bg
def rnd (n d:Nat):Nat:=if d<2*(n%d)∨(2*(n%d)=d∧n/d%2=1) then n/d+1 else n/d
theorem rest_A {n d:Nat}:sumA true n d (n/d) 1=n%d:=by
 unfold sumA
 rw[Nat.gcd_one_right]
 simp only[if_true,Nat.div_one,Nat.mul_one]
 have:=Nat.div_add_mod n d
 rw[Nat.mul_comm] at this
 omega
theorem rest_N {n d:Nat}:sumN true n d (n/d) 1=n%d:=by
 unfold sumN
 rw[rest_A,Nat.gcd_one_right,Nat.gcd_one_right,Nat.div_one]
 split <;> omega
theorem rest_D {n d:Nat}:sumD true n d (n/d) 1=if n%d=0 then 1 else d:=by
 unfold sumD
 rw[rest_A,Nat.gcd_one_right,Nat.gcd_one_right,Nat.div_one,Nat.div_one,Nat.mul_one]
theorem rest_cmp {n d:Nat} (hd:d≠0):cmpV (n%d*2) (1*(if n%d=0 then 1 else d))=cmpV (2*(n%d)) d:=by
 by_cases h:n%d=0
 · rw[if_pos h,h]
   have h1:cmpV (0*2) (1*1)= -1:=by decide
   have h2:cmpV (2*0) d= -1:=by
    unfold cmpV
    rw[if_pos (by omega)]
   rw[h1,h2]
 · rw[if_neg h,Nat.one_mul,Nat.mul_comm]
theorem ref19_nearest (y n d:Nat) (ln:(limbs n).length≤1000) (ld:(limbs d).length≤1000) (lq:(limbs (n/d)).length<40) (w:World) (hT:Tz w) (hy:Rt w y n d):
 Calls Tryz.prog 22 #[.pointer (some ⟨y,0,none⟩)] w (Makes w 95 [] false (rnd n d)):=by
 have hd:=hy.ne
 have ylt:=hy.lt
 have lr:(limbs (n%d)).length≤1000:=Nat.le_trans (limbs_mono (Nat.mod_le n d)) ln
 have FA:FitA true n d (n/d) 1:=⟨hd,by decide,.inr tz_one,.inr (by rw[Nat.gcd_one_right];exact tz_one),ln,by omega,ld,by decide,by rw[rest_A];omega,.inr (by decide),.inl lq,.inr (by decide),fun _=>by rw[Nat.gcd_one_right,Nat.div_one,Nat.div_one,Nat.mul_one];exact Nat.div_mul_le_self n d⟩
 have hS:=fun z s=>rat_Sub z y s n d (n/d) 1 FA
 rw[rest_N,rest_D] at hS
 have hF:=fun w=>ref19_floor y n d (by omega) w
 have lrd:(limbs (if n%d=0 then 1 else d)).length≤5000:=by split <;> first|omega|decide
 have hC:=fun a b=>rat_Cmp a b (n%d) (if n%d=0 then 1 else d) 1 2 (by decide) (by omega) (by decide) lrd (by decide) (.inr (by decide)) (.inl (by decide))
 rw[rest_cmp hd] at hC
 have hN:=rat_New 1 2 (by decide) (by decide) (by decide) (by decide) (.inl tz_one)
 rw[show 1/Nat.gcd 1 2=1 from rfl,show 2/Nat.gcd 1 2=2 from rfl] at hN
 have hrnd:rnd n d=if d<2*(n%d)∨(2*(n%d)=d∧n/d%2=1) then n/d+1 else n/d:=rfl
 obtain⟨O,hO⟩:∃O,O=rnd n d:=⟨_,rfl⟩
 rw[←hO] at hrnd ⊢
 obtain⟨M,hM⟩:∃M,M=if n%d=0 then 1 else d:=⟨_,rfl⟩
 rw[←hM] at hS hC
 obtain⟨Q,hQ⟩:∃Q,Q=n/d:=⟨_,rfl⟩
 obtain⟨R,hR⟩:∃R,R=n%d:=⟨_,rfl⟩
 simp only[←hQ, ←hR] at hS hF hC hrnd lq
 have HR:=Lib.hid hrnd
 clear hO hM hQ hR FA lrd ln lr ld hrnd
 go_enter Tryz.func22,Tryz.ntmps22
 go_wp2_with fail
 refine(hF _ hy).mono ?_
 rintro e w1 ⟨q,rfl,hq,oq,b1⟩
 have al3:Below w1.heap.size w1 (w1.alloc (.cells #[.bool false,.slice none 0 0,.slice none 0 0] 97)):=(Below.refl _ _).alloc nrf _
 have k7:RAt (w1.alloc (.cells #[.bool false,.slice none 0 0,.slice none 0 0] 97)) w1.heap.size:=⟨_,_,_,Blk.new w1 _ _⟩
 obtain⟨w7,hw7⟩:∃w7,w7=w1.alloc (.cells #[.bool false,.slice none 0 0,.slice none 0 0] 97):=⟨_,rfl⟩
 rw[←hw7] at al3 k7
 have al4:Below w7.heap.size w7 (w7.alloc (.cells #[.bool false,.slice none 0 0,.slice none 0 0] 97)):=(Below.refl _ _).alloc nrf _
 have k8:RAt (w7.alloc (.cells #[.bool false,.slice none 0 0,.slice none 0 0] 97)) w7.heap.size:=⟨_,_,_,Blk.new w7 _ _⟩
 obtain⟨w8,hw8⟩:∃w8,w8=w7.alloc (.cells #[.bool false,.slice none 0 0,.slice none 0 0] 97):=⟨_,rfl⟩
 rw[←hw8] at al4 k8
 have e7:w7.heap.size=w1.heap.size+1:=by rw[hw7];simp
 rw[e7] at k8
 go_wp2_with fail
 rw[←hw7, ←hw8]
 have k78:=k7.below al4
 have al34:=al3.trans (al4.mono al3.size)
 have B8:=b1.trans (al34.mono b1.size)
 have q8:=oq.below al34
 have qlt:=oq.lt
 clear hw7 hw8 e7 al3 al4 k7
 refine(rat_SetInt (w1.heap.size+1) q _ [] Q _ k8 q8).mono ?_
 rintro e w9 ⟨rfl,hh9,r9⟩
 obtain⟨D8,hz8⟩:=k8
 have B9:Below w.heap.size w w9:=hole_fresh B8 hh9 (by have:=b1.size;omega)
 have k79:=k78.hole (show w1.heap.size≠w1.heap.size+1 by omega) hh9
 have q9:=q8.hole hz8 (by decide) (show q≠w1.heap.size+1 by omega) hh9
 go_wp2_with fail
 refine(hS w1.heap.size (w1.heap.size+1) _ (hT.below B9) k79 (hy.below B9) r9).mono ?_
 rintro e w10 ⟨rfl,hh10,r10⟩
 obtain⟨D9,hz9⟩:=k79
 have B10:Below w.heap.size w w10:=hole_fresh B9 hh10 b1.size
 have q10:=q9.hole hz9 (by decide) (show q≠w1.heap.size by omega) hh10
 go_wp2_with fail
 refine(hN _ (hT.below B10)).mono ?_
 rintro e w11 ⟨h,rfl,hh,r11,b11⟩
 have q11:=q10.below b11
 have B11:=B10.trans (b11.mono B10.size)
 go_wp2_with fail
 refine(hC w1.heap.size h _ (r10.below b11) r11).mono ?_
 rintro e w12 ⟨rfl,b12⟩
 have q12:=q11.below b12
 have B12:=B11.trans (b12.mono B11.size)
 clear hS hF hC hN k78 hz8 hz9 r9 r10 r11 q8 q9 q10 q11 B8 B9 B10 B11 hh9 hh10 b11 b12 oq al34

 by_cases hgt:d<2*R
 · have hc:cmpV (2*R) d=1:=by unfold cmpV;rw[if_neg (by omega),if_pos hgt]
   have HO:=Lib.hid (show O=Q+1 by rw[HR.out];rw[if_pos (by omega)])
   rw[hc]
   clear hc HR
   go_wp2_with fail
   refine(big_NewInt 1 (by decide) _).mono ?_
   rintro e w13 ⟨o,rfl,ho,oo,b13⟩
   have q13:=q12.below b13
   have B13:=B12.trans (b13.mono B12.size)
   go_wp2_with fail
   refine(int_Add q q o _ _ _ [] [] [] (by decide) Q 1 (by have:(limbs 1).length=1:=rfl;omega) _ q13.at_ q13 oo).mono ?_
   rintro e w14 ⟨rfl,hh14,q14⟩
   go_wp2
   go_ret
   exact⟨_,rfl,hq,by rw[HO.out];exact q14,hole_fresh B13 hh14 hq⟩
 by_cases heq:2*R=d
 by_cases hb:Q%2=1
 · have hc:cmpV (2*R) d=0:=by unfold cmpV;rw[if_neg (by omega),if_neg (by omega)]
   have HO:=Lib.hid (show O=Q+1 by rw[HR.out];rw[if_pos (by omega)])
   rw[hc]
   clear hc HR
   go_wp2_with fail
   refine(int_Bit0 q _ [] Q _ q12).mono ?_
   rintro e w15 ⟨rfl,rfl⟩
   rw[show Q%2=1 by omega]
   clear hb
   go_wp2_with fail
   refine(big_NewInt 1 (by decide) _).mono ?_
   rintro e w13 ⟨o,rfl,ho,oo,b13⟩
   have q13:=q12.below b13
   have B13:=B12.trans (b13.mono B12.size)
   go_wp2_with fail
   refine(int_Add q q o _ _ _ [] [] [] (by decide) Q 1 (by have:(limbs 1).length=1:=rfl;omega) _ q13.at_ q13 oo).mono ?_
   rintro e w14 ⟨rfl,hh14,q14⟩
   go_wp2
   go_ret
   exact⟨_,rfl,hq,by rw[HO.out];exact q14,hole_fresh B13 hh14 hq⟩
 · have hc:cmpV (2*R) d=0:=by unfold cmpV;rw[if_neg (by omega),if_neg (by omega)]
   have HO:=Lib.hid (show O=Q by rw[HR.out];rw[if_neg (by omega)])
   rw[hc]
   clear hc HR
   go_wp2_with fail
   refine(int_Bit0 q _ [] Q _ q12).mono ?_
   rintro e w15 ⟨rfl,rfl⟩
   rw[show Q%2=0 by omega]
   clear hb
   go_wp2_with fail
   go_wp2
   go_ret
   exact⟨_,rfl,hq,by rw[HO.out];exact q12,B12⟩
 · have hc:cmpV (2*R) d= -1:=by unfold cmpV;rw[if_pos (by omega)]
   have HO:=Lib.hid (show O=Q by rw[HR.out];rw[if_neg (by omega)])
   rw[hc]
   clear hc HR
   go_wp2_with fail
   go_wp2
   go_ret
   exact⟨_,rfl,hq,by rw[HO.out];exact q12,B12⟩
end Bg
namespace Bg
theorem ref19_tens (p:Int) (h1: -360≤p) (h2:p≤360) (w:World) (hT:Tz w):
 Calls Tryz.prog 53 #[.int .i64 p] w (RMakes w (10^p.toNat) (10^(-p).toNat)):=by
 by_cases h:0≤p
 · obtain⟨m,rfl⟩:∃m:Nat,p=(m:Int):=⟨p.toNat,by omega⟩
   have:=ref19_tens_pos m (by omega) w hT
   rw[show((m:Int)).toNat=m by omega,show(-(m:Int)).toNat=0 by omega,Nat.pow_zero]
   exact this
 · obtain⟨m,rfl⟩:∃m:Nat,p= -(m:Int):=⟨(-p).toNat,by omega⟩
   have:=ref19_tens_neg m (by omega) (by omega) w hT
   rw[show(-(m:Int)).toNat=0 by omega,show(-(-(m:Int))).toNat=m by omega,Nat.pow_zero]
   exact this
theorem cmpV_neg {a b:Nat}:decide (cmpV a b<0)=decide (a<b):=by rw[decide_eq_decide];exact cmpV_lt
theorem cmpV_ge {a b:Nat}:decide (0≤cmpV a b)=!decide (a<b):=by
 rw[←cmpV_neg]
 by_cases h:cmpV a b<0
 · rw[decide_eq_true h,decide_eq_false (by omega)];rfl
 · rw[decide_eq_false h,decide_eq_true (by omega)];rfl
theorem ref19_first (y n d:Nat) (P:Int) (ln:(limbs n).length<40) (ld:(limbs d).length<40) (hP1: -350≤P) (hP2:P<350)
 (hU:∀p:Int, -360≤p→p≤360→(n*10^(-p).toNat<10^p.toNat*d↔P<p)) (w:World) (hT:Tz w) (hy:Rt w y n d):
 Calls Tryz.prog 20 #[.pointer (some ⟨y,0,none⟩)] w (Says w (.int .i64 P)):=by
 have hTn:=fun p h1 h2 w h=>ref19_tens p h1 h2 w h
 have hC:∀(p:Int), -360≤p→p≤360→∀(t:Nat) (w:World),Rt w y n d→Rt w t (10^p.toNat) (10^(-p).toNat)→Calls Tryz.prog 52 #[.pointer (some ⟨y,0,none⟩),.pointer (some ⟨t,0,none⟩)] w fun e w'=>∃c:Int,e=.returned (.int .i64 c)∧decide (c<0)=decide (P<p)∧decide (0≤c)=!decide (P<p)∧Below w.heap.size w w':=by
  intro p h1 h2 t w hy ht
  have la:(limbs (10^p.toNat)).length<40:=ten_len (by omega)
  have lb:(limbs (10^(-p).toNat)).length<40:=ten_len (by omega)
  refine(rat_Cmp y t n d (10^p.toNat) (10^(-p).toNat) (Nat.ne_of_gt (Nat.pow_pos (by decide))) (by omega) (by omega) (by omega) (by omega) (.inl ln) (.inl la) w hy ht).mono ?_
  rintro e w1 ⟨rfl,hb⟩
  exact⟨_,rfl,by rw[cmpV_neg,decide_eq_decide];exact hU p h1 h2,by rw[cmpV_ge];congr 1;rw[decide_eq_decide];exact hU p h1 h2,hb⟩
 have HC:=Lib.hid hC
 have HTn:=Lib.hid hTn
 clear hC hTn hU ln ld
 go_enter Tryz.func20,Tryz.ntmps20
 go_wp2
 go_loopw [3] (fun v3 wr=>∃p:Int,p≤0∧(p=0∨P≤p)∧v3=.int .i64 p∧Below w.heap.size w wr) (fun v3 _=>(intOf v3-P+400).toNat)
 case atStart=>exact⟨0,by omega,.inl rfl,rfl,Below.refl _ _⟩
 case round=>
  obtain⟨p,hp0,hpP,rfl,hb⟩:=hrel
  go_wp2_with fail
  refine(HTn.out p (by omega) (by omega) _ (hT.below hb)).mono ?_
  rintro e w1 ⟨t,rfl,ht,rt,b1⟩
  have B1:=hb.trans (b1.mono hb.size)
  go_wp2_with fail
  refine(HC.out p (by omega) (by omega) t _ (hy.below B1) rt).mono ?_
  rintro e w2 ⟨c,rfl,hc1,hc2,b2⟩
  have B2:=B1.trans (b2.mono B1.size)
  by_cases h:P<p
  · rw[decide_eq_true h] at hc1
    clear hc2
    go_wp2
    go_roundw
    case rel=>exact⟨p-1,by omega,.inr (by omega),rfl,B2⟩
    case measure=>first|(simp[intOf];done)|(simp[intOf];omega)
  · rw[decide_eq_false h] at hc1
    clear hc2
    go_wp2
    go_loopw [3] (fun v3 wr=>∃p:Int, -360≤p∧p≤P∧v3=.int .i64 p∧Below w.heap.size w wr) (fun v3 _=>(P-intOf v3+400).toNat)
    case atStart=>exact⟨p,by omega,by omega,rfl,B2⟩
    case round=>
     obtain⟨q,hq0,hqP,rfl,hb'⟩:=hrel
     go_wp2_with fail
     refine(HTn.out (q+1) (by omega) (by omega) _ (hT.below hb')).mono ?_
     rintro e w3 ⟨t',rfl,ht',rt',b3⟩
     have B3:=hb'.trans (b3.mono hb'.size)
     go_wp2_with fail
     refine(HC.out (q+1) (by omega) (by omega) t' _ (hy.below B3) rt').mono ?_
     rintro e w4 ⟨c',rfl,hd1,hd2,b4⟩
     have B4:=B3.trans (b4.mono B3.size)
     by_cases h':P<q+1
     · rw[decide_eq_true h'] at hd2
       clear hd1
       have e:q=P:=by omega
       have E:=Lib.hid e
       clear e
       go_wp2
       go_ret
       exact⟨by rw[E.out];rfl,B4⟩
     · rw[decide_eq_false h'] at hd2
       clear hd1
       go_wp2
       go_roundw
       case rel=>exact⟨q+1,by omega,by omega,rfl,B4⟩
       case measure=>first|(simp[intOf];done)|(simp[intOf];omega)
end Bg
namespace Bg
theorem ref05_Bias (E F:Nat) (hE1:2≤E) (hE2:E≤11) (w:World):
 Calls Tryz.prog 49 #[.agg #[.int .i64 (E:Int),.int .i64 (F:Int)]] w (Says w (.int .i64 ((2^(E-1):Nat)-1:Int))):=by
 obtain⟨k,rfl⟩:∃k,E=k+1:=⟨E-1,by omega⟩
 have hk:k≤10:=by omega
 rw[show k+1-1=k from rfl]
 have hp:2^k≤1024:=Nat.le_trans (Nat.pow_le_pow_right (by decide) hk) (by decide)
 have hpos:0<2^k:=Nat.two_pow_pos k
 go_enter Tryz.func49,Tryz.ntmps49
 go_wp2
 go_ret
 have e1:(2:Int)^k=((2^k:Nat):Int):=by rw[Int.natCast_pow];rfl
 have e2:wrap64 (wrap64 ((2:Int)^k)-1)=((2^k:Nat):Int)-1:=by
  rw[e1];unfold wrap64;omega
 refine⟨?_,(Below.refl _ _).alloc nrf _⟩
 rw[←e2]
 rfl
end Bg

def tS (k:Int):Nat:=bitLen (5^k.natAbs)
def tenN (k:Int):Nat:=if k<0 then 2^(tS k+127)/5^k.natAbs else if tS k≤128 then 5^k.natAbs*2^(128-tS k) else 5^k.natAbs/2^(tS k-128)
def tenE (k:Int):Int:=if k<0 then k-((tS k:Int)+127) else k+(tS k:Int)-128
def tenX (k:Int):Bool:=!decide (k<0)&&decide (tS k≤128)
def farB (k:Int):Bool:=decide (k< -400)||decide (400<k)
theorem bits_lo:∀j:Fin 401,2^127≤tenN (j.val:Int)∧tenN (j.val:Int)<2^128∧2^127≤tenN (-((j.val+1:Nat):Int))∧tenN (-((j.val+1:Nat):Int))<2^128∧tS (j.val:Int)≤930:=by decide+kernel
theorem tS_neg (j:Nat):tS (-(j:Int))=tS (j:Int):=by unfold tS;rw[Int.natAbs_neg]
theorem ten_cases {k:Int} (h:farB k=false):(∃j:Nat,j≤400∧k=(j:Int))∨∃j:Nat,1≤j∧j≤400∧k= -(j:Int):=by
 simp only[farB,Bool.or_eq_false_iff,decide_eq_false_iff_not] at h
 by_cases h0:0≤k
 · exact .inl ⟨k.toNat,by omega,by omega⟩
 · exact .inr ⟨(-k).toNat,by omega,by omega,by omega⟩
theorem tenN_bd {k:Int} (h:farB k=false):2^127≤tenN k∧tenN k<2^128:=by
 rcases ten_cases h with ⟨j,hj,rfl⟩|⟨j,h1,hj,rfl⟩
 · have:=bits_lo ⟨j,by omega⟩
   exact⟨this.1,this.2.1⟩
 · have:=bits_lo ⟨j-1,by omega⟩
   simp only at this
   rw[show j-1+1=j by omega] at this
   exact⟨this.2.2.1,this.2.2.2.1⟩
theorem tS_le {k:Int} (h:farB k=false):tS k≤930:=by
 rcases ten_cases h with ⟨j,hj,rfl⟩|⟨j,h1,hj,rfl⟩
 · exact(bits_lo ⟨j,by omega⟩).2.2.2.2
 · rw[tS_neg];exact(bits_lo ⟨j,by omega⟩).2.2.2.2
theorem len5:∀j:Fin 401,5^j.val<4294967296^30:=by decide+kernel

def dval:List Nat→Nat
 |[]=>0
 |x :: l=>x+10*dval l
def digsF:Nat→Nat→List Nat
 |0,_=>[]
 |k+1,n=>if n=0 then [] else n%10 :: digsF k (n/10)
def digs (n:Nat):List Nat:=digsF n n
def Dg (l:List Nat):Prop:=∀x ∈ l,x<10
theorem Dg.nil:Dg []:=by intro x h;cases h
theorem Dg.cons {x:Nat} {l:List Nat} (hx:x<10) (h:Dg l):Dg (x :: l):=by
 intro y hy;rcases List.mem_cons.1 hy with rfl|hy
 · exact hx
 · exact h y hy
theorem Dg.tail {x:Nat} {l:List Nat} (h:Dg (x :: l)):Dg l:=fun y hy=>h y (List.mem_cons_of_mem _ hy)
theorem Dg.head {x:Nat} {l:List Nat} (h:Dg (x :: l)):x<10:=h x List.mem_cons_self
theorem Dg.append {a b:List Nat} (ha:Dg a) (hb:Dg b):Dg (a++b):=by
 intro y hy;rcases List.mem_append.1 hy with h|h
 · exact ha y h
 · exact hb y h
theorem dval_append (a b:List Nat):dval (a++b)=dval a+10^a.length*dval b:=by
 induction a with
 |nil=>simp[dval]
 |cons x a ih=>simp only[List.cons_append,dval,ih,List.length_cons,Nat.pow_succ];grind
theorem dval_lt {l:List Nat} (h:Dg l):dval l<10^l.length:=by
 induction l with
 |nil=>simp[dval]
 |cons x l ih=>
  have:=ih h.tail
  have hx:=h.head
  simp only[dval,List.length_cons,Nat.pow_succ]
  omega
theorem digsF_val:∀k n:Nat,n≤k→dval (digsF k n)=n
 |0,n,h=>by obtain rfl:n=0:=by omega
            rfl
 |k+1,n,h=>by
  unfold digsF
  by_cases h0:n=0
  · rw[if_pos h0,h0];rfl
  · rw[if_neg h0]
    simp only[dval]
    rw[digsF_val k (n/10) (by omega)]
    omega
theorem digsF_dg:∀k n:Nat,Dg (digsF k n)
 |0,n=>Dg.nil
 |k+1,n=>by
  unfold digsF
  by_cases h0:n=0
  · rw[if_pos h0];exact Dg.nil
  · rw[if_neg h0];exact Dg.cons (by omega) (digsF_dg k _)
theorem digsF_low:∀k n:Nat,n≤k→n≠0→10^((digsF k n).length-1)≤n
 |0,n,h,h0=>by omega
 |k+1,n,h,h0=>by
  unfold digsF
  rw[if_neg h0]
  by_cases h1:n/10=0
  · have:digsF k (n/10)=[]:=by
     rw[h1];cases k <;> simp[digsF]
    rw[this];simp;omega
  · have ih:=digsF_low k (n/10) (by omega) h1
    have hl:digsF k (n/10)≠[]:=by
     intro e
     have:=digsF_val k (n/10) (by omega)
     rw[e] at this
     exact h1 this.symm
    have hp:0<(digsF k (n/10)).length:=List.length_pos_iff.2 hl
    rw[List.length_cons,Nat.add_sub_cancel]
    have e:10^(digsF k (n/10)).length=10^((digsF k (n/10)).length-1)*10:=by
     rw[←Nat.pow_succ];congr 1;omega
    rw[e]
    omega
@[simp] theorem dval_digs (n:Nat):dval (digs n)=n:=digsF_val n n (Nat.le_refl n)
theorem dg_digs (n:Nat):Dg (digs n):=digsF_dg n n
theorem digs_low {n:Nat} (h:n≠0):10^((digs n).length-1)≤n:=digsF_low n n (Nat.le_refl n) h
theorem digs_lt (n:Nat):n<10^(digs n).length:=by
 have:=dval_lt (dg_digs n);rw[dval_digs] at this;exact this
theorem dval_inj:∀{a b:List Nat},a.length=b.length→Dg a→Dg b→dval a=dval b→a=b
 |[],[],_,_,_,_=>rfl
 |x :: s,y :: t,hl,ga,gb,h=>by
  have hx:=ga.head
  have hy:=gb.head
  simp only[dval] at h
  have h1:x=y:=by omega
  have h2:dval s=dval t:=by omega
  rw[h1,dval_inj (by simpa using hl) ga.tail gb.tail h2]
theorem pow10_lt {a b n:Nat} (ha:10^(a-1)≤n) (hb:n<10^b):a≤b:=by
 rcases Nat.lt_or_ge b a with h|h
 · have:10^b≤10^(a-1):=Nat.pow_le_pow_right (by decide) (by omega)
   omega
 · exact h
theorem digs_of {l:List Nat} (h:Dg l) (hl:l=[]∨10^(l.length-1)≤dval l):digs (dval l)=l:=by
 rcases hl with rfl|hl
 · rfl
 · have h1:=dval_lt h
   have h0:dval l≠0:=by have:0<10^(l.length-1):=Nat.pow_pos (by decide);omega
   have h2:=digs_low h0
   have h3:=digs_lt (dval l)
   exact dval_inj (Nat.le_antisymm (pow10_lt h2 h1) (pow10_lt hl h3)) (dg_digs _) h (dval_digs _)
theorem digs_nil {n:Nat}:digs n=[]↔n=0:=by
 constructor
 · intro h;have:=dval_digs n;rw[h] at this;exact this.symm
 · intro h;rw[h];rfl
def textL (n:Nat):List Nat:=if n=0 then [48] else ((digs n).map (48+ ·)).reverse
theorem textL_pos {n:Nat} (h:n≠0):textL n=((digs n).map (48+ ·)).reverse:=by unfold textL;rw[if_neg h]
theorem low_bound {n b k:Nat} (h:n<2^b) (hk:10^(k-1)≤n):k≤b+1:=by
 have h2:2^(k-1)≤10^(k-1):=Nat.pow_le_pow_left (by decide) _
 rcases Nat.lt_or_ge b (k-1) with h3|h3
 · have:2^b≤2^(k-1):=Nat.pow_le_pow_right (by decide) (by omega)
   omega
 · omega
theorem digit_step {N R:Nat} {ds:List Nat} (h:N=dval ds+10^ds.length*R):N=dval (ds++[R%10])+10^(ds++[R%10]).length*(R/10):=by
 rw[dval_append,List.length_append]
 simp only[List.length_singleton,dval,Nat.pow_succ]
 have:=Nat.mod_add_div R 10
 generalize R%10=a at*
 generalize R/10=b at*
 grind
theorem digit_low {N R:Nat} {ds:List Nat} (h:N=dval ds+10^ds.length*R) (hR:0<R) (d:Nat):10^((ds++[d]).length-1)≤N:=by
 rw[List.length_append,List.length_singleton,Nat.add_sub_cancel,h]
 have:10^ds.length*1≤10^ds.length*R:=Nat.mul_le_mul_left _ hR
 omega

def RowK (w:World) (t:TypeId) (k:IntKind) (g:Nat) (l:List Nat):Prop:=Blk w g t (ints k l).toArray
section
variable {w w':World} {g:Nat} {t:TypeId} {k:IntKind} {l:List Nat}
theorem RowK.cell (h:RowK w t k g l) (i:Nat) (hi:i<l.length):w.cell? ⟨g,i,none⟩=some (.int k ((nth l i:Nat):Int)):=by
 rw[Blk.cell h,List.getElem?_toArray];exact ints_get k l i hi
theorem RowK.frozen (h:RowK w t k g l) (i:Nat):w.frozen? ⟨g,i,none⟩=false:=Blk.frozen h i
theorem RowK.setE (h:RowK w t k g l) (i x:Nat) {E:Int} (hE:E=(x:Int)):RowK (w.setCell ⟨g,i,none⟩ (.int k E)) t k g (l.set i x):=by
 rw[hE]
 have:=Blk.set_ h i (.int k (x:Int))
 unfold RowK
 have e:(ints k (l.set i x)).toArray=(ints k l).toArray.setIfInBounds i (.int k (x:Int)):=by simp[ints,List.map_set]
 rw[e];exact this
theorem rowK_new {w:World} {cs:Array Value} (hc:cs=(ints k l).toArray) (hg:g=w.heap.size):RowK (w.alloc (.cells cs t)) t k g l:=by
 subst hc hg;exact Blk.new w t _
end
theorem run_makeK {P:Program} (t e:TypeId) (k:IntKind) (i:TypeInfo) (ht:P.underlying t=some (.slice e)) (hi:P.info? e=some i) (hz:i.zero=some (.int k 0)) (hs:i.size=1) (hb:i.bytes≤8)
 (n:Nat) (N:Int) (hN:N=(n:Int)) (hn:n≤35184372088832) (w:World):
 (Instr.makeSlice t (.int .i64 N) (.int .i64 N)).run P w=.ok (.slice (some ⟨w.heap.size,0,none⟩) n n) (w.alloc (.cells (ints k (List.replicate n 0)).toArray e)):=by
 have hbn:i.bytes*n≤8*n:=Nat.mul_le_mul_right _ hb
 have hbN:(i.bytes:Int)*N≤281474976710656:=by
  rw[hN, ←Int.natCast_mul];omega
 have hr:=run_make (P:=P) w t e i _ ht hi hz .i64 .i64 N N (by omega) (by omega) hbN (by omega)
 rw[hr,hs,hN]
 have hc:madeCells (Value.int k 0).cells (n*1)=(ints k (List.replicate n 0)).toArray:=by
  apply Array.ext
  · simp[madeCells]
  · intro j h1 h2
    simp[madeCells,ints,Value.cells,Nat.mod_one]
 simp only[Int.toNat_natCast,hc]

def RdK (k:IntKind) (w:World) (A:Option Addr) (l:List Nat):Prop:=
 0<l.length→∃b off,A=some ⟨b,off,none⟩∧∀j,j<l.length→w.cell? ⟨b,off+j,none⟩=some (.int k ((nth l j:Nat):Int))
theorem RdK.keep {k:IntKind} {w w':World} {A:Option Addr} {l:List Nat} (h:RdK k w A l) (hk:∀p:Addr,p.block<w.heap.size→w'.cell? p=w.cell? p):RdK k w' A l:=fun hn=>by
 obtain⟨b,off,e,hc⟩:=h hn
 exact⟨b,off,e,fun j hj=>(hk _ (cell_lt (hc j hj))).trans (hc j hj)⟩
theorem RdK.below {k:IntKind} {w w':World} {A:Option Addr} {l:List Nat} (h:RdK k w A l) (hb:Below w.heap.size w w'):RdK k w' A l:=h.keep fun _ hp=>hb.cell hp
theorem OwnR.rdK {w:World} {B:Nat} {e:TypeId} {k:IntKind} {A:Option Addr} {n c:Nat} {l:List Nat} (h:OwnR w B e k (.slice A n c) l):RdK k w A l:=fun hn=>by
 rcases h.form with ⟨_,rfl⟩|⟨g,cap,cur,e,hg,hh,hnc,hcs,hc⟩
 · simp at hn
 · injection e with e1 e2 e3
   exact⟨g,0,e1,fun j hj=>by rw[hh.cell,Nat.zero_add];exact hc j hj⟩

def bstr (l:List Nat):ByteArray:=⟨(l.map UInt8.ofNat).toArray⟩
theorem strOfNums_bstr (l:List Nat):strOfNums (l.map fun x:Nat=>(x:Int))=bstr l:=by
 unfold strOfNums bstr
 rw[List.map_map]
 congr 2
theorem run_bytes {P:Program} (w:World) (src e dst:TypeId) (hs:P.underlying src=some (.slice e)) (he:P.underlying e=some (.int .u8)) (hd:P.underlying dst=some .string)
 (b off len cap:Nat) (l:List Nat) (hl:l.length=len) (hc:∀j,j<l.length→w.cell? ⟨b,off+j,none⟩=some (.int .u8 ((nth l j:Nat):Int))):
 (convert src dst (.slice (some ⟨b,off,none⟩) len cap)).run P w=.ok (.string (bstr l)) w:=by
 rw[←strOfNums_bstr]
 refine run_convert_bytes_arg w src e hs he b off len cap _ (by simpa using hl) (fun i hi=>?_) dst hd
 rw[hc i (by omega),nth_lt l (by omega),List.getD_eq_getElem?_getD]
 simp[show i<l.length by omega]

def sliceLen:Value→Nat| .slice _ n _=>n|_=>0
theorem OwnR.len {w:World} {B:Nat} {e:TypeId} {k:IntKind} {v:Value} {l:List Nat} (h:OwnR w B e k v l):sliceLen v=l.length∧∃A c,v=.slice A l.length c:=by
 rcases h.form with ⟨rfl,rfl⟩|⟨g,cap,cur,rfl,_⟩
 · exact⟨rfl,_,_,rfl⟩
 · exact⟨rfl,_,_,rfl⟩

section
variable {P:Program}
end

def FitAns (B:Nat) (w:World) (r:List Nat × Int) (e:Ending) (w':World):Prop:=
 ∃A c,e=.returned (.tuple #[.agg #[.slice A r.1.length c],.int .i64 r.2])∧Own w' 153 B A c r.1∧Below w.heap.size w w'

theorem ref_fits (A:Option Addr) (c:Nat) (l:List Nat) (B:Nat) (n:Nat) (hn:n=l.length) (hc:n≤c) (w:World) (h:Own w 153 B A c l) (hB:B≤w.heap.size):
 Calls Tryz.prog 219 #[.slice A n c] w (FitAns B w (fitS (val l))):=by
 subst hn
 have h1:=(h.alloc (Obj.cells #[Value.slice none 0 0] 67))
 have hle:=limbs_length_le h.sm
 have ht:=h1.trim
 by_cases h5:16384<(limbs (val l)).length
 · have e:fitS (val l)=([],4):=by unfold fitS;rw[if_pos h5]
   rw[e]
   go_enter Tryz.func219,Tryz.ntmps219
   go_wp2_with fail
   refine(ref_Trim A l _ c rfl hc _ h1.rd).mono ?_
   rintro e w1 ⟨rfl,rfl⟩
   go_wp2
   (try simp only[Exit.inBlock,Exit.then]);refine bodyPost_ret (by simp (maxDischargeDepth:=9) [results,Tryz.results219,go_sem,World.cell?_alloc_past];try rfl) rfl ?_
   exact⟨none,0,rfl,Own.nil _ _ _,bbel⟩
 · have e:fitS (val l)=(limbs (val l),0):=by unfold fitS;rw[if_neg h5]
   rw[e]
   go_enter Tryz.func219,Tryz.ntmps219
   go_wp2_with fail
   refine(ref_Trim A l _ c rfl hc _ h1.rd).mono ?_
   rintro e w1 ⟨rfl,rfl⟩
   go_wp2_with fail
   refine(ref_nat _ _ _ _).mono ?_
   rintro e w1 ⟨rfl,hb1⟩
   obtain⟨hc1,hf1⟩:=bcell hb1
   have hbw1:Below w.heap.size w w1:=Below.trans (b:=_) bbel (hb1.mono (by go_size))
   have hz1_0:w.heap.size<w1.heap.size:=by have:=hb1.size;simp at this;omega
   go_wp2
   (try simp only[Exit.inBlock,Exit.then]);refine bodyPost_ret (by simp (maxDischargeDepth:=9) [results,Tryz.results219,go_sem,hc1,hz1_0];try rfl) rfl ?_
   refine⟨_,_,rfl,?_,bbel⟩
   refine(ht.below hb1 (by simp)).setFar ?_ _
   intro a ha
   exact Nat.ne_of_lt (h.lt a ha)

end Go.Proofs.YtenekbfnlbipiaaGreatDoor
