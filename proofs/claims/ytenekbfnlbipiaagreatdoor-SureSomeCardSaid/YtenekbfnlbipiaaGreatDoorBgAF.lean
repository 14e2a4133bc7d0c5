/- Forms, the document's way: may a form be, does a float fit, its fields, its class. -/
import Derived.Test.YtenekbfnlbipiaaGreatDoorSuF
import Derived.Test.YtenekbfnlbipiaaGreatDoorBgAB
namespace Go.Proofs.YtenekbfnlbipiaaGreatDoor
open Go.RowKit
set_option linter.unusedVariables false
set_option linter.unusedSimpArgs false
set_option maxHeartbeats 4000000
set_option maxRecDepth 100000
namespace Fo
theorem ref_Pow2 (S:Int) (s P:Nat) (hS:S=(s:Int)) (hs:s<64) (hP:P=2^s) (w:World):
 Calls Tryz.prog 92 #[.int .i64 S] w fun e w'=>e=.returned (.int .u64 (P:Int))∧w=w':=by
 subst hS
 have HPP:=Lib.hid hP
 clear hP
 go_enter Tryz.func92,Tryz.ntmps92
 go_wp2
 go_loop [3,4] (fun v i=>∃(k p:Nat),k≤s∧i=.int .i64 (k:Int)∧p=2^k∧v=.int .u64 (p:Int)) (fun _ i=>s-(intOf i).toNat)
 case atStart=>exact⟨0,1,Nat.zero_le _,rfl,rfl,rfl⟩
 case round=>
  obtain⟨k,p,hk,rfl,hp,rfl⟩:=hrel
  have HP:=Lib.hid hp
  by_cases hk1:k<s
  · have hlt:p<9223372036854775808:=by
     have h1:2^k≤2^62:=Nat.pow_le_pow_right (by decide) (by omega)
     rw[hp];omega
    clear hp
    go_wp2
    go_round
    case rel=>exact⟨k+1,p*2,by omega,by go_num,by rw[HP.out,Nat.pow_succ],by go_num⟩
    case measure=>first|(simp[intOf];done)|(simp[intOf];omega)
  · have hks:k=s:=by omega
    clear hp
    go_wp2
    go_ret
    have hps:p=P:=by rw[HP.out,hks,HPP.out]
    subst hps
    exact⟨rfl,rfl⟩
theorem ref_Check (e f:Int) (w:World):
 Calls Tryz.prog 91 #[.agg #[.int .i64 e,.int .i64 f]] w (Says w (.int .i64 (chkF e f))):=by
 have hb:Below w.heap.size w (w.alloc (.cells #[.int .i64 e,.int .i64 f] 23)):=(Below.refl _ _).alloc nrf _
 by_cases h:e<2∨11<e∨f<1∨52<f
 · rw[show chkF e f=5 from by unfold chkF;rw[if_pos h]]
   have hc:e<2∨(¬e<2∧11<e)∨(¬e<2∧¬11<e∧f<1)∨(¬e<2∧¬11<e∧¬f<1∧52<f):=by omega
   clear h
   rcases hc with h1|⟨h1,h2⟩|⟨h1,h2,h3⟩|⟨h1,h2,h3,h4⟩
   all_goals (
    go_enter Tryz.func91,Tryz.ntmps91
    go_wp2
    go_ret
    exact⟨rfl,hb⟩)
 · rw[show chkF e f=0 from by unfold chkF;rw[if_neg h]]
   have h1:¬e<2:=by omega
   have h2:¬11<e:=by omega
   have h3:¬f<1:=by omega
   have h4:¬52<f:=by omega
   go_enter Tryz.func91,Tryz.ntmps91
   go_wp2
   go_ret
   exact⟨rfl,hb⟩
theorem ref_Top (e f T:Nat) (he:e≤11) (hT:T+1=2^e) (w:World):
 Calls Tryz.prog 163 #[.agg #[.int .i64 (e:Int),.int .i64 (f:Int)]] w (Says w (.int .i64 (T:Int))):=by
 obtain⟨P,hP⟩:∃P,P=2^e:=⟨_,rfl⟩
 have hP2:P≤2048:=by rw[hP];exact Nat.pow_le_pow_right (n:=2) (by decide) he
 have hPT:P=T+1:=by omega
 have HP:=Lib.hid hP
 have HT:=Lib.hid hPT
 clear hP hT hPT
 go_enter Tryz.func163,Tryz.ntmps163
 go_wp2_with fail
 refine(ref_Pow2 _ e P rfl (by omega) HP.out _).mono ?_
 rintro r w1 ⟨rfl,rfl⟩
 go_wp2
 go_ret
 exact⟨by show Ending.returned (Value.int .i64 ((P:Int)-1))=_;rw[show(P:Int)-1=(T:Int) from by have:=HT.out;omega],(Below.refl _ _).alloc nrf _⟩
theorem ref_Bias (E F M:Nat) (hE1:2≤E) (hE2:E≤11) (hM:M+1=2^(E-1)) (w:World):
 Calls Tryz.prog 176 #[.agg #[.int .i64 (E:Int),.int .i64 (F:Int)]] w (Says w (.int .i64 (M:Int))):=by
 obtain⟨P,hP⟩:∃P,P=2^(E-1):=⟨_,rfl⟩
 have hP2:P≤2048:=by rw[hP];exact Nat.pow_le_pow_right (n:=2) (by decide) (show E-1≤11 by omega)
 have hPT:P=M+1:=by omega
 have HP:=Lib.hid hP
 have HT:=Lib.hid hPT
 clear hP hM hPT
 go_enter Tryz.func176,Tryz.ntmps176
 go_wp2_with fail
 refine(ref_Pow2 _ (E-1) P (by omega) (by omega) HP.out _).mono ?_
 rintro r w1 ⟨rfl,rfl⟩
 go_wp2
 go_ret
 exact⟨by show Ending.returned (Value.int .i64 ((P:Int)-1))=_;rw[show(P:Int)-1=(M:Int) from by have:=HT.out;omega],(Below.refl _ _).alloc nrf _⟩
theorem ref_Fits (e f B:Int) (b:Nat) (hB:B=(b:Int)) (hb64:b<18446744073709551616) (w:World):
 Calls Tryz.prog 43 #[.agg #[.int .i64 e,.int .i64 f],.int .u64 B] w (Says w (.int .i64 (fitS e f b))):=by
 subst hB
 by_cases hc:chkF e f=0
 · obtain⟨E,F,rfl,rfl,hE1,hE2,hF1,hF2⟩:=chk_ok hc
   have HC:=Lib.hid hc
   have hj:fitS (E:Int) (F:Int) b=fitF E F b:=by unfold fitS;rw[if_pos hc];rfl
   rw[hj]
   clear hj hc
   by_cases h63:E+F<63
   · obtain⟨P,hP⟩:∃P,P=2^(1+E+F):=⟨_,rfl⟩
     have HP:=Lib.hid hP
     have hd:decide ((E:Int)+(F:Int)<63)=true:=by rw[decide_eq_true_iff];omega
     by_cases hk:P≤b
     · rw[show fitF E F b=6 from by unfold fitF;rw[←hP,if_pos hk]]
       have hk2:decide ((P:Int)≤(b:Int))=true:=by rw[decide_eq_true_iff];omega
       clear hP
       go_enter Tryz.func43,Tryz.ntmps43
       go_wp2_with fail
       refine(ref_Check _ _ _).mono ?_
       rintro r w1 ⟨rfl,hb1⟩
       rw[HC.out]
       obtain⟨hc1,hf1⟩:=bcell hb1
       have hbw1:Below w.heap.size w w1:=Below.trans (b:=_) bbel (hb1.mono (by go_size))
       have hz1_0:w.heap.size<w1.heap.size:=by have:=hb1.size;simp at this;omega
       go_wp2_with fail
       refine(ref_Pow2 _ (1+E+F) P (by omega) (by omega) HP.out _).mono ?_
       rintro r w2 ⟨rfl,rfl⟩
       go_wp2
       go_ret
       exact⟨rfl,bbel⟩
     · rw[show fitF E F b=0 from by unfold fitF;rw[←hP,if_neg hk]]
       have hk2:decide ((P:Int)≤(b:Int))=false:=by rw[decide_eq_false_iff_not];omega
       clear hP
       go_enter Tryz.func43,Tryz.ntmps43
       go_wp2_with fail
       refine(ref_Check _ _ _).mono ?_
       rintro r w1 ⟨rfl,hb1⟩
       rw[HC.out]
       obtain⟨hc1,hf1⟩:=bcell hb1
       have hbw1:Below w.heap.size w w1:=Below.trans (b:=_) bbel (hb1.mono (by go_size))
       have hz1_0:w.heap.size<w1.heap.size:=by have:=hb1.size;simp at this;omega
       go_wp2_with fail
       refine(ref_Pow2 _ (1+E+F) P (by omega) (by omega) HP.out _).mono ?_
       rintro r w2 ⟨rfl,rfl⟩
       go_wp2
       go_ret
       exact⟨rfl,bbel⟩
   · rw[show fitF E F b=0 from by unfold fitF;rw[show 1+E+F=64 from by omega,if_neg (by omega)]]
     have hd:decide ((E:Int)+(F:Int)<63)=false:=by rw[decide_eq_false_iff_not];omega
     go_enter Tryz.func43,Tryz.ntmps43
     go_wp2_with fail
     refine(ref_Check _ _ _).mono ?_
     rintro r w1 ⟨rfl,hb1⟩
     rw[HC.out]
     obtain⟨hc1,hf1⟩:=bcell hb1
     have hbw1:Below w.heap.size w w1:=Below.trans (b:=_) bbel (hb1.mono (by go_size))
     have hz1_0:w.heap.size<w1.heap.size:=by have:=hb1.size;simp at this;omega
     go_wp2
     go_ret
     exact⟨rfl,bbel⟩
 · rw[show fitS e f b=5 from by unfold fitS;rw[if_neg hc,chk_no hc]]
   have HC:=Lib.hid (chk_no hc)
   clear hc
   go_enter Tryz.func43,Tryz.ntmps43
   go_wp2_with fail
   refine(ref_Check _ _ _).mono ?_
   rintro r w1 ⟨rfl,hb1⟩
   rw[HC.out]
   obtain⟨hc1,hf1⟩:=bcell hb1
   have hbw1:Below w.heap.size w w1:=Below.trans (b:=_) bbel (hb1.mono (by go_size))
   have hz1_0:w.heap.size<w1.heap.size:=by have:=hb1.size;simp at this;omega
   go_wp2
   go_ret
   exact⟨rfl,hbw1⟩
theorem ref_Split (e f B:Int) (b:Nat) (hB:B=(b:Int)) (hb64:b<18446744073709551616) (w:World):
 Calls Tryz.prog 162 #[.agg #[.int .i64 e,.int .i64 f],.int .u64 B] w (Says w (.tuple #[.agg #[.bool (splitS e f b).1.1,.int .i64 (((splitS e f b).1.2.1:Nat):Int),.int .u64 (((splitS e f b).1.2.2:Nat):Int)],.int .i64 (splitS e f b).2])):=by
 subst hB
 by_cases hc:fitS e f b=0
 · have HC:=Lib.hid hc
   obtain⟨E,F,rfl,rfl,hE1,hE2,hF1,hF2,hfit⟩:=fit_ok hc
   have hj:splitS (E:Int) (F:Int) b=(splitF E F b,0):=by unfold splitS;rw[if_pos hc];rfl
   rw[hj]
   obtain⟨P,hP⟩:∃P,P=2^F:=⟨_,rfl⟩
   obtain⟨Q,hQ⟩:∃Q,Q=2^E:=⟨_,rfl⟩
   have HP:=Lib.hid hP
   have HQ:=Lib.hid hQ
   have hP0:0<P:=by rw[hP];exact Nat.two_pow_pos F
   have hQ0:0<Q:=by rw[hQ];exact Nat.two_pow_pos E
   obtain⟨R,hR⟩:∃R,R=b/P:=⟨_,rfl⟩
   obtain⟨N,hN⟩:∃N,N=R/Q:=⟨_,rfl⟩
   obtain⟨X,hX⟩:∃X,X=R%Q:=⟨_,rfl⟩
   obtain⟨Y,hY⟩:∃Y,Y=b%P:=⟨_,rfl⟩
   have hN2:N<2:=by
    rw[hN,hR,Nat.div_div_eq_div_mul,hP,hQ, ←Nat.pow_add]
    refine Nat.div_lt_of_lt_mul ?_
    rw[←Nat.pow_succ,show(F+E).succ=1+E+F from by omega];exact hfit
   obtain⟨ng,hng⟩:∃ng,((N:Int)==1)=ng:=⟨_,rfl⟩
   have hs:splitF E F b=(ng,X,Y):=by
    unfold splitF
    rw[hX,hY,hR,hP,hQ, ←hng,hN,hR,hP,hQ,Nat.div_div_eq_div_mul, ←Nat.pow_add]
    rw[hN,hR,hP,hQ,Nat.div_div_eq_div_mul, ←Nat.pow_add] at hN2
    congr 1
    generalize b/2^(F+E)=z at*
    have:z=0∨z=1:=by omega
    rcases this with rfl|rfl <;> rfl
   rw[hs]
   have hXb:X<2048:=by
    rw[hX,hQ]
    exact Nat.lt_of_lt_of_le (Nat.mod_lt _ (Nat.two_pow_pos E)) (Nat.pow_le_pow_right (n:=2) (by decide) hE2)
   have hR64:R<18446744073709551616:=by rw[hR];exact Nat.lt_of_le_of_lt (Nat.div_le_self _ _) hb64
   have hiR:(b:Int)/(P:Int)=(R:Int):=by rw[hR];push_cast;rfl
   have hiN:(R:Int)/(Q:Int)=(N:Int):=by rw[hN];push_cast;rfl
   have hiX:(R:Int)%(Q:Int)=(X:Int):=by rw[hX];push_cast;rfl
   have hiY:(b:Int)%(P:Int)=(Y:Int):=by rw[hY];push_cast;rfl
   have hwX:IntKind.i64.wrap (X:Int)=(X:Int):=by rw[IntKind.wrap_i64];omega
   have hwN:IntKind.u64.wrap (N:Int)=(N:Int):=by rw[IntKind.wrap_u64];omega
   have htX:(R:Int).tmod (Q:Int)=(X:Int):=by rw[hX];rfl
   have htY:(b:Int).tmod (P:Int)=(Y:Int):=by rw[hY];rfl
   have hPn:((P:Int)==0)=false:=by rw[beq_eq_false_iff_ne];omega
   have hQn:((Q:Int)==0)=false:=by rw[beq_eq_false_iff_ne];omega
   have hPz:¬P=0:=by omega
   have hQz:¬Q=0:=by omega
   have hPy:(P:Int)≠0:=by omega
   have hQy:(Q:Int)≠0:=by omega
   clear hj hc hfit hP hQ hR hN hX hY hs
   go_enter Tryz.func162,Tryz.ntmps162
   go_wp2_with fail
   refine(ref_Fits _ _ _ b rfl hb64 _).mono ?_
   rintro r w1 ⟨rfl,hb1⟩
   rw[HC.out]
   obtain⟨hc1,hf1⟩:=bcell hb1
   have hbw1:Below w.heap.size w w1:=Below.trans (b:=_) bbel (hb1.mono (by go_size))
   have hz1_0:w.heap.size<w1.heap.size:=by have:=hb1.size;simp at this;omega
   have hz1_1:w.heap.size+1<w1.heap.size:=by have:=hb1.size;simp at this;omega
   have s0:w1.cell? ⟨w.heap.size,0,none⟩=some (.int .i64 (E:Int)):=by rw[hc1 _ _ (by go_size)];simp[go_sem]
   have s1:w1.cell? ⟨w.heap.size,1,none⟩=some (.int .i64 (F:Int)):=by rw[hc1 _ _ (by go_size)];simp[go_sem]
   have t0:w1.cell? ⟨w.heap.size+1,0,none⟩=some (.bool false):=by rw[hc1 _ _ (by go_size)];simp[go_sem]
   have t1:w1.cell? ⟨w.heap.size+1,1,none⟩=some (.int .i64 0):=by rw[hc1 _ _ (by go_size)];simp[go_sem]
   have t2:w1.cell? ⟨w.heap.size+1,2,none⟩=some (.int .u64 0):=by rw[hc1 _ _ (by go_size)];simp[go_sem]
   have tf:∀o,w1.frozen? ⟨w.heap.size+1,o,none⟩=false:=by intro o;rw[hf1 _ _ (by go_size)];simp[go_sem]
   clear hc1 hf1
   go_wp2_with fail
   refine(ref_Pow2 _ F P rfl (by omega) HP.out _).mono ?_
   rintro r w2 ⟨rfl,rfl⟩
   go_wp2
   have tf0:=tf 0
   have tf1:=tf 1
   have tf2:=tf 2
   clear tf
   go_region_held3 (fun w'=>w'.cell? ⟨w.heap.size,0,none⟩=some (.int .i64 (E:Int))∧w'.cell? ⟨w.heap.size,1,none⟩=some (.int .i64 (F:Int)))
    (first|exact⟨s0,s1⟩|go_keep)
    (first
     |(go_at_call 92;with_reducible refine(ref_Pow2 (E:Int) E Q rfl (by omega) HQ.out _).mono ?_;rintro r wa ⟨rfl,rfl⟩)
     |(go_at_call 92;with_reducible refine(ref_Pow2 (F:Int) F P rfl (by omega) HP.out _).mono ?_;rintro r wa ⟨rfl,rfl⟩))
   all_goals (
    go_wp2
    (try simp only[Exit.inBlock,Exit.then]);refine bodyPost_ret (by simp (maxDischargeDepth:=9) [results,Tryz.results162,go_sem,t0,t1,t2,hwX,htX,htY,hwN,hng];try rfl) rfl ?_
    exact⟨rfl,bbel⟩)
 · have hfn:fitS e f b≠0:=hc
   have hne:(fitS e f b !=0)=true:=by rw[bne_iff_ne];exact hc
   rw[show splitS e f b=((false,0,0),fitS e f b) from by unfold splitS;rw[if_neg hc]]
   clear hc hfn
   go_enter Tryz.func162,Tryz.ntmps162
   go_wp2_with fail
   refine(ref_Fits _ _ _ b rfl hb64 _).mono ?_
   rintro r w1 ⟨rfl,hb1⟩
   obtain⟨hc1,hf1⟩:=bcell hb1
   have hbw1:Below w.heap.size w w1:=Below.trans (b:=_) bbel (hb1.mono (by go_size))
   have hz1_0:w.heap.size<w1.heap.size:=by have:=hb1.size;simp at this;omega
   have hz1_1:w.heap.size+1<w1.heap.size:=by have:=hb1.size;simp at this;omega
   go_wp2
   (try simp only[Exit.inBlock,Exit.then]);refine bodyPost_ret (by simp (maxDischargeDepth:=9) [results,Tryz.results162,go_sem,hc1,hz1_0,hz1_1];try rfl) rfl ?_
   exact⟨rfl,bbel⟩
theorem ref_Class (e f B:Int) (b:Nat) (hB:B=(b:Int)) (hb64:b<18446744073709551616) (w:World):
 Calls Tryz.prog 118 #[.agg #[.int .i64 e,.int .i64 f],.int .u64 B] w (Says w (.tuple #[.int .u8 (((classS e f b).1:Nat):Int),.int .i64 (classS e f b).2])):=by
 subst hB
 by_cases hc:fitS e f b=0
 · have HC:=Lib.hid hc
   obtain⟨E,F,rfl,rfl,hE1,hE2,hF1,hF2,hfit⟩:=fit_ok hc
   have hs2:(splitS (E:Int) (F:Int) b).2=0:=by unfold splitS;rw[if_pos hc]
   have hj:classS (E:Int) (F:Int) b=(classF E (splitS (E:Int) (F:Int) b).1.2.1 (splitS (E:Int) (F:Int) b).1.2.2,0):=by unfold classS;rw[if_pos hc];rfl
   have hxE:(splitS (E:Int) (F:Int) b).1.2.1<2^E:=by
    unfold splitS;rw[if_pos hc];exact Nat.mod_lt _ (Nat.two_pow_pos E)
   have hEs:2^E≤2048:=Nat.pow_le_pow_right (n:=2) (by decide) hE2
   rw[hj]
   clear hj hc hfit
   have hsp:=ref_Split (E:Int) (F:Int) (b:Int) b rfl hb64
   rw[hs2] at hsp
   obtain⟨⟨ng,X,Y⟩,hp⟩:∃p,p=(splitS (E:Int) (F:Int) b).1:=⟨_,rfl⟩
   rw[←hp] at hsp hxE ⊢
   have hXb:X<2048:=by simp only at hxE;omega
   obtain⟨M,hM⟩:=pow_m1 E
   have HM:=Lib.hid hM
   have hXM:X≤M:=by simp only at hxE;omega
   have hcase:(X=0∧Y=0)∨(X=0∧Y≠0)∨(X≠0∧X=M∧Y=0)∨(X≠0∧X=M∧Y≠0)∨(X≠0∧X<M):=by omega
   have hcl:classF E X Y=if X=0 then (if Y=0 then 1 else 2) else if X=M then (if Y=0 then 4 else 5) else 3:=by
    unfold classF;rw[←hM];simp only[Nat.add_right_cancel_iff]
   have HCL:=Lib.hid hcl
   clear hcl hM hp hs2 hEs hxE
   show Calls Tryz.prog _ _ w (Says w (.tuple #[.int .u8 ((classF E X Y:Nat):Int),.int .i64 0]))
   rw[HCL.out]
   rcases hcase with ⟨h1,h2⟩|⟨h1,h2⟩|⟨h1,h2,h3⟩|⟨h1,h2,h3⟩|⟨h1,h2⟩
   · subst h1 h2
     rw[if_pos rfl,if_pos rfl]
     go_enter Tryz.func118,Tryz.ntmps118
     go_wp2_with fail
     refine(hsp _).mono ?_
     rintro r w1 ⟨rfl,hb1⟩
     obtain⟨hc1,hf1⟩:=bcell hb1
     have hbw1:Below w.heap.size w w1:=Below.trans (b:=_) bbel (hb1.mono (by go_size))
     have hz1_0:w.heap.size<w1.heap.size:=by have:=hb1.size;simp at this;omega
     go_wp2
     go_ret2
     exact⟨rfl,bbel⟩
   · subst h1
     rw[if_pos rfl,if_neg h2]
     have hY:((Y:Int)==0)=false:=by rw[beq_eq_false_iff_ne];omega
     go_enter Tryz.func118,Tryz.ntmps118
     go_wp2_with fail
     refine(hsp _).mono ?_
     rintro r w1 ⟨rfl,hb1⟩
     obtain⟨hc1,hf1⟩:=bcell hb1
     have hbw1:Below w.heap.size w w1:=Below.trans (b:=_) bbel (hb1.mono (by go_size))
     have hz1_0:w.heap.size<w1.heap.size:=by have:=hb1.size;simp at this;omega
     go_wp2
     go_ret2
     exact⟨rfl,bbel⟩
   all_goals (
    have hX:((X:Int)==0)=false:=by rw[beq_eq_false_iff_ne];omega
    have hXn:¬X=0:=h1)
   · subst h2
     rw[if_neg h1,if_pos rfl,if_pos h3]
     subst h3
     go_enter Tryz.func118,Tryz.ntmps118
     go_wp2_with fail
     refine(hsp _).mono ?_
     rintro r w1 ⟨rfl,hb1⟩
     obtain⟨hc1,hf1⟩:=bcell hb1
     have hbw1:Below w.heap.size w w1:=Below.trans (b:=_) bbel (hb1.mono (by go_size))
     have hz1_0:w.heap.size<w1.heap.size:=by have:=hb1.size;simp at this;omega
     have c0:(w1.alloc (.cells #[.bool ng,.int .i64 (X:Int),.int .u64 (0:Int)] 77)).cell? ⟨w.heap.size,0,none⟩=some (.int .i64 (E:Int)):=by rw[World.cell?_alloc_lt _ _ _ hz1_0,hc1 _ _ (by go_size)];simp[go_sem]
     have c1:(w1.alloc (.cells #[.bool ng,.int .i64 (X:Int),.int .u64 (0:Int)] 77)).cell? ⟨w.heap.size,1,none⟩=some (.int .i64 (F:Int)):=by rw[World.cell?_alloc_lt _ _ _ hz1_0,hc1 _ _ (by go_size)];simp[go_sem]
     have p1:(w1.alloc (.cells #[.bool ng,.int .i64 (X:Int),.int .u64 (0:Int)] 77)).cell? ⟨w1.heap.size,1,none⟩=some (.int .i64 (X:Int)):=by simp
     have p2:(w1.alloc (.cells #[.bool ng,.int .i64 (X:Int),.int .u64 (0:Int)] 77)).cell? ⟨w1.heap.size,2,none⟩=some (.int .u64 (0:Int)):=by simp
     have hbW:Below w.heap.size w (w1.alloc (.cells #[.bool ng,.int .i64 (X:Int),.int .u64 (0:Int)] 77)):=hbw1.alloc hbw1.size _
     go_wp2
     clear hb1 hc1 hf1
     generalize (w1.alloc (.cells #[.bool ng,.int .i64 (X:Int),.int .u64 (0:Int)] 77))=W at*
     generalize w1.heap.size=Bk at*
     go_region_held3 (fun w'=>w'.cell? ⟨w.heap.size,0,none⟩=some (.int .i64 (E:Int))∧w'.cell? ⟨w.heap.size,1,none⟩=some (.int .i64 (F:Int))∧w'.cell? ⟨Bk,1,none⟩=some (.int .i64 (X:Int))∧w'.cell? ⟨Bk,2,none⟩=some (.int .u64 (0:Int))) (first|exact⟨k0,k1,k2,k3⟩|go_keep)
      ((go_at_call 163;refine(ref_Top E F X hE2 HM.out _).mono ?_;rintro r w4 ⟨rfl,hb4⟩;have k0:=cell_keep hb4 c0;have k1:=cell_keep hb4 c1;have k2:=cell_keep hb4 p1;have k3:=cell_keep hb4 p2;have hbw4:=(Below.drew hbW).trans (hb4.mono hbW.size)))
     all_goals (
      go_wp2
      go_ret2
      exact⟨rfl,hbw4⟩)
   · subst h2
     rw[if_neg h1,if_pos rfl,if_neg h3]
     have hY:((Y:Int)==0)=false:=by rw[beq_eq_false_iff_ne];omega
     go_enter Tryz.func118,Tryz.ntmps118
     go_wp2_with fail
     refine(hsp _).mono ?_
     rintro r w1 ⟨rfl,hb1⟩
     obtain⟨hc1,hf1⟩:=bcell hb1
     have hbw1:Below w.heap.size w w1:=Below.trans (b:=_) bbel (hb1.mono (by go_size))
     have hz1_0:w.heap.size<w1.heap.size:=by have:=hb1.size;simp at this;omega
     have c0:(w1.alloc (.cells #[.bool ng,.int .i64 (X:Int),.int .u64 (Y:Int)] 77)).cell? ⟨w.heap.size,0,none⟩=some (.int .i64 (E:Int)):=by rw[World.cell?_alloc_lt _ _ _ hz1_0,hc1 _ _ (by go_size)];simp[go_sem]
     have c1:(w1.alloc (.cells #[.bool ng,.int .i64 (X:Int),.int .u64 (Y:Int)] 77)).cell? ⟨w.heap.size,1,none⟩=some (.int .i64 (F:Int)):=by rw[World.cell?_alloc_lt _ _ _ hz1_0,hc1 _ _ (by go_size)];simp[go_sem]
     have p1:(w1.alloc (.cells #[.bool ng,.int .i64 (X:Int),.int .u64 (Y:Int)] 77)).cell? ⟨w1.heap.size,1,none⟩=some (.int .i64 (X:Int)):=by simp
     have p2:(w1.alloc (.cells #[.bool ng,.int .i64 (X:Int),.int .u64 (Y:Int)] 77)).cell? ⟨w1.heap.size,2,none⟩=some (.int .u64 (Y:Int)):=by simp
     have hbW:Below w.heap.size w (w1.alloc (.cells #[.bool ng,.int .i64 (X:Int),.int .u64 (Y:Int)] 77)):=hbw1.alloc hbw1.size _
     go_wp2
     clear hb1 hc1 hf1
     generalize (w1.alloc (.cells #[.bool ng,.int .i64 (X:Int),.int .u64 (Y:Int)] 77))=W at*
     generalize w1.heap.size=Bk at*
     go_region_held3 (fun w'=>w'.cell? ⟨w.heap.size,0,none⟩=some (.int .i64 (E:Int))∧w'.cell? ⟨w.heap.size,1,none⟩=some (.int .i64 (F:Int))∧w'.cell? ⟨Bk,1,none⟩=some (.int .i64 (X:Int))∧w'.cell? ⟨Bk,2,none⟩=some (.int .u64 (Y:Int))) (first|exact⟨k0,k1,k2,k3⟩|go_keep)
      ((go_at_call 163;refine(ref_Top E F X hE2 HM.out _).mono ?_;rintro r w4 ⟨rfl,hb4⟩;have k0:=cell_keep hb4 c0;have k1:=cell_keep hb4 c1;have k2:=cell_keep hb4 p1;have k3:=cell_keep hb4 p2;have hbw4:=(Below.drew hbW).trans (hb4.mono hbW.size)))
     all_goals (
      go_wp2
      go_ret2
      exact⟨rfl,hbw4⟩)
   · rw[if_neg h1,if_neg (by omega)]
     have hlt:decide ((X:Int)<(M:Int))=true:=by rw[decide_eq_true_iff];omega
     go_enter Tryz.func118,Tryz.ntmps118
     go_wp2_with fail
     refine(hsp _).mono ?_
     rintro r w1 ⟨rfl,hb1⟩
     obtain⟨hc1,hf1⟩:=bcell hb1
     have hbw1:Below w.heap.size w w1:=Below.trans (b:=_) bbel (hb1.mono (by go_size))
     have hz1_0:w.heap.size<w1.heap.size:=by have:=hb1.size;simp at this;omega
     have c0:(w1.alloc (.cells #[.bool ng,.int .i64 (X:Int),.int .u64 (Y:Int)] 77)).cell? ⟨w.heap.size,0,none⟩=some (.int .i64 (E:Int)):=by rw[World.cell?_alloc_lt _ _ _ hz1_0,hc1 _ _ (by go_size)];simp[go_sem]
     have c1:(w1.alloc (.cells #[.bool ng,.int .i64 (X:Int),.int .u64 (Y:Int)] 77)).cell? ⟨w.heap.size,1,none⟩=some (.int .i64 (F:Int)):=by rw[World.cell?_alloc_lt _ _ _ hz1_0,hc1 _ _ (by go_size)];simp[go_sem]
     have p1:(w1.alloc (.cells #[.bool ng,.int .i64 (X:Int),.int .u64 (Y:Int)] 77)).cell? ⟨w1.heap.size,1,none⟩=some (.int .i64 (X:Int)):=by simp
     have p2:(w1.alloc (.cells #[.bool ng,.int .i64 (X:Int),.int .u64 (Y:Int)] 77)).cell? ⟨w1.heap.size,2,none⟩=some (.int .u64 (Y:Int)):=by simp
     have hbW:Below w.heap.size w (w1.alloc (.cells #[.bool ng,.int .i64 (X:Int),.int .u64 (Y:Int)] 77)):=hbw1.alloc hbw1.size _
     go_wp2
     clear hb1 hc1 hf1
     generalize (w1.alloc (.cells #[.bool ng,.int .i64 (X:Int),.int .u64 (Y:Int)] 77))=W at*
     generalize w1.heap.size=Bk at*
     go_region_held3 (fun w'=>w'.cell? ⟨w.heap.size,0,none⟩=some (.int .i64 (E:Int))∧w'.cell? ⟨w.heap.size,1,none⟩=some (.int .i64 (F:Int))∧w'.cell? ⟨Bk,1,none⟩=some (.int .i64 (X:Int))∧w'.cell? ⟨Bk,2,none⟩=some (.int .u64 (Y:Int))) (first|exact⟨k0,k1,k2,k3⟩|go_keep)
      ((go_at_call 163;refine(ref_Top E F M hE2 HM.out _).mono ?_;rintro r w4 ⟨rfl,hb4⟩;have k0:=cell_keep hb4 c0;have k1:=cell_keep hb4 c1;have k2:=cell_keep hb4 p1;have k3:=cell_keep hb4 p2;have hbw4:=(Below.drew hbW).trans (hb4.mono hbW.size)))
     all_goals (
      go_wp2
      go_ret2
      exact⟨rfl,hbw4⟩)
 · have hne:(fitS e f b !=0)=true:=by rw[bne_iff_ne];exact hc
   have hsp:=ref_Split e f (b:Int) b rfl hb64
   rw[show splitS e f b=((false,0,0),fitS e f b) from by unfold splitS;rw[if_neg hc]] at hsp
   rw[show classS e f b=(0,fitS e f b) from by unfold classS;rw[if_neg hc]]
   clear hc
   go_enter Tryz.func118,Tryz.ntmps118
   go_wp2_with fail
   refine(hsp _).mono ?_
   rintro r w1 ⟨rfl,hb1⟩
   obtain⟨hc1,hf1⟩:=bcell hb1
   have hbw1:Below w.heap.size w w1:=Below.trans (b:=_) bbel (hb1.mono (by go_size))
   have hz1_0:w.heap.size<w1.heap.size:=by have:=hb1.size;simp at this;omega
   go_wp2
   go_ret2
   exact⟨rfl,bbel⟩
end Fo
namespace Bg
theorem u64_two {k:Nat} (h:k≤63):IntKind.u64.wrap ((2:Int)^k)=((2^k:Nat):Int):=by
 have h1:(2:Nat)^k≤2^63:=Nat.pow_le_pow_right (by decide) h
 have e:((2:Int)^k)=((2^k:Nat):Int):=by push_cast;rfl
 rw[e,IntKind.wrap_u64]
 generalize 2^k=P at h1 ⊢
 omega
theorem i64_two {k:Nat} (h:k≤62):IntKind.i64.wrap ((2:Int)^k)=((2^k:Nat):Int):=by
 have h1:(2:Nat)^k≤2^62:=Nat.pow_le_pow_right (by decide) h
 have e:((2:Int)^k)=((2^k:Nat):Int):=by push_cast;rfl
 rw[e,IntKind.wrap_i64]
 generalize 2^k=P at h1 ⊢
 omega
theorem w64_two {k:Nat} (h:k≤62):wrap64 ((2:Int)^k)=((2^k:Nat):Int):=by
 have h1:(2:Nat)^k≤2^62:=Nat.pow_le_pow_right (by decide) h
 have e:((2:Int)^k)=((2^k:Nat):Int):=by push_cast;rfl
 rw[e]
 unfold wrap64
 generalize 2^k=P at h1 ⊢
 omega
theorem ref05_Sign (E F:Nat) (hE:E≤11) (hF:F≤52) (S:Nat) (hS:S=2^(E+F)) (w:World):
 Calls Tryz.prog 18 #[.agg #[.int .i64 (E:Int),.int .i64 (F:Int)]] w (Says w (.int .u64 (S:Int))):=by
 have h1:=u64_two (k:=E+F) (by omega)
 have hw:IntKind.u64.wrap ((E:Int)+(F:Int))=((E+F:Nat):Int):=by rw[IntKind.wrap_u64];omega
 have hb0:Below w.heap.size w w:=Below.refl _ _
 go_enter Tryz.func18,Tryz.ntmps18
 go_wp2
 go_ret
 refine⟨?_,(Below.refl _ _).alloc nrf _⟩
 rw[hS, ←h1]
 rfl
theorem ref19_sign (E F b:Nat) (hE:E≤11) (hF:F≤52) (S:Nat) (hS:S=2^(E+F)) (w:World):
 Calls Tryz.prog 17 #[.agg #[.int .i64 (E:Int),.int .i64 (F:Int)],.int .u64 (b:Int)] w (Says w (.bool (decide (S≤b)))):=by
 have hC:=fun W=>ref05_Sign E F hE hF S hS W
 have hd:decide ((S:Int)≤(b:Int))=decide (S≤b):=by rw[decide_eq_decide];omega
 clear hS
 go_enter Tryz.func17,Tryz.ntmps17
 go_wp2_with fail
 have hv1:Below w.heap.size w (w.alloc (.cells #[.int .i64 (E:Int),.int .i64 (F:Int)] 23)):=(Below.refl _ _).alloc nrf _
 refine(hC _).mono ?_
 rintro e w1 ⟨rfl,hb1⟩
 have hb:=hv1.trans (hb1.mono hv1.size)
 go_wp2
 go_ret
 exact⟨rfl,hb⟩
theorem ref05_Fits (E F b:Nat) (hE:E≤11) (hF:F≤52) (hb64:b<18446744073709551616) (hb:b<2^(1+E+F)) (w:World):
 Calls Tryz.prog 93 #[.agg #[.int .i64 (E:Int),.int .i64 (F:Int)],.int .u64 (b:Int)] w (Says w (.bool true)):=by
 obtain⟨S,hS⟩:∃S,S=2^(E+F):=⟨_,rfl⟩
 have hC:=fun W=>ref05_Sign E F hE hF S hS W
 have hS2:2^(1+E+F)=2*S:=by rw[hS,show 1+E+F=E+F+1 by omega,Nat.pow_succ];omega
 have hb0:Below w.heap.size w w:=Below.refl _ _
 have hv1:Below w.heap.size w (w.alloc (.cells #[.int .i64 (E:Int),.int .i64 (F:Int)] 23)):=(Below.refl _ _).alloc nrf _
 by_cases h63:E+F<63
 · have hle:S≤2^62:=by rw[hS];exact Nat.pow_le_pow_right (by decide) (by omega)
   have e62:(2:Nat)^62=4611686018427387904:=rfl
   have hd:decide ((63:Int)≤(E:Int)+(F:Int))=false:=by simp;omega
   have hd2:decide ((b:Int)<2*(S:Int))=true:=by simp;omega
   rw[hS2] at hb
   rw[e62] at hle
   clear hS hS2 e62 h63
   go_enter Tryz.func93,Tryz.ntmps93
   go_wp2_with fail
   refine(hC _).mono ?_
   rintro e w1 ⟨rfl,hb1⟩
   have hb:=hv1.trans (hb1.mono hv1.size)
   go_wp2
   go_ret
   exact⟨rfl,hb⟩
 · have hd:decide ((63:Int)≤(E:Int)+(F:Int))=true:=by simp;omega
   clear hS hS2 h63 hb
   go_enter Tryz.func93,Tryz.ntmps93
   go_wp2
   go_ret
   exact⟨rfl,hv1⟩
theorem ref05_Finite (E F b X:Nat) (hE2:2≤E) (hE:E≤11) (hF1:1≤F) (hF:F≤52) (hb64:b<18446744073709551616) (hb:b<2^(1+E+F)) (hX:X=b/2^F%2^E) (w:World):
 Calls Tryz.prog 44 #[.agg #[.int .i64 (E:Int),.int .i64 (F:Int)],.int .u64 (b:Int)] w (Says w (.bool (!decide (X+1=2^E)))):=by
 have hC:=fun W=>ref05_Fits E F b hE hF hb64 hb W
 have hv1:Below w.heap.size w (w.alloc (.cells #[.int .i64 (E:Int),.int .i64 (F:Int)] 23)):=(Below.refl _ _).alloc nrf _
 have k1:Blk (w.alloc (.cells #[.int .i64 (E:Int),.int .i64 (F:Int)] 23)) w.heap.size 23 #[.int .i64 (E:Int),.int .i64 (F:Int)]:=Blk.new w _ _
 have eE:=u64_two (k:=E) (by omega)
 have eI:=i64_two (k:=E) (by omega)
 have hEp:2^E≤2048:=Nat.le_trans (Nat.pow_le_pow_right (by decide) hE) (by decide)
 have eW:=w64_two (k:=E) (by omega)
 have hE0:0<2^E:=Nat.two_pow_pos E
 obtain⟨q,hq⟩:∃q,q=b/2^F:=⟨_,rfl⟩
 have hqe:(b:Int)/2^F=(q:Int):=by rw[hq];push_cast;rfl
 have hq64:q<18446744073709551616:=by rw[hq];exact Nat.lt_of_le_of_lt (Nat.div_le_self _ _) hb64
 rw[←hq] at hX
 obtain⟨P,hP⟩:∃P,P=2^E:=⟨_,rfl⟩
 rw[←hP] at hX eE eI eW hEp hE0 ⊢
 have hXlt:X<P:=by rw[hX];exact Nat.mod_lt _ hE0
 have hXm:(q:Int)%(P:Int)=(X:Int):=by rw[hX];rfl
 have hXt:(q:Int).tmod (P:Int)=(X:Int):=by rw[hX];rfl
 have hXn:q%P=X:=hX.symm
 have hPn:¬P=0:=by omega
 have hPi:((P:Int)==0)=false:=by rw[beq_eq_false_iff_ne];omega
 obtain⟨fin,hfin⟩:∃fin,fin=decide (X+1=P):=⟨_,rfl⟩
 rw[←hfin]
 have hf1:((X:Int)==(P:Int)-1)=fin:=by
  rw[hfin]
  by_cases h:X+1=P
  · rw[decide_eq_true h,beq_iff_eq];omega
  · rw[decide_eq_false h,beq_eq_false_iff_ne];omega
 have hf2:((X:Int) !=(P:Int)-1)=!fin:=by rw[bne,hf1]
 clear hX hq hP hfin hb
 go_enter Tryz.func44,Tryz.ntmps44
 go_wp2_with fail
 refine(hC _).mono ?_
 rintro e w1 ⟨rfl,hb1⟩
 have hb2:=hv1.trans (hb1.mono hv1.size)
 replace k1:=k1.below hb1 k1.lt
 obtain⟨k1c0,k1c1,k1z,k1f0,k1f1⟩:=k1.b2
 go_upto_region 2 with fail
 go_region
 go_wp2
 go_ret
 exact⟨rfl,hb2.drew⟩
theorem ref19_asked_bad (e f:Int) (b:Nat) (hb64:b<18446744073709551616) (h:Fo.fitS e f b≠0) (w:World):
 Calls Tryz.prog 16 #[.agg #[.int .i64 e,.int .i64 f],.int .u64 (b:Int)] w (Says w (.int .i64 (Fo.fitS e f b))):=by
 have hC:=fun W=>Fo.ref_Fits e f b b rfl hb64 W
 have hv1:Below w.heap.size w (w.alloc (.cells #[.int .i64 e,.int .i64 f] 23)):=(Below.refl _ _).alloc nrf _
 have hne:(Fo.fitS e f b !=0)=true:=by simpa using h
 generalize Fo.fitS e f b=r at*
 go_enter Tryz.func16,Tryz.ntmps16
 go_wp2_with fail
 refine(hC _).mono ?_
 rintro e' w1 ⟨rfl,hb1⟩
 go_wp2
 go_ret
 exact⟨rfl,hv1.trans (hb1.mono hv1.size)⟩
theorem ref19_asked (E F b X:Nat) (hE2:2≤E) (hE:E≤11) (hF1:1≤F) (hF:F≤52) (hb64:b<18446744073709551616) (hb:b<2^(1+E+F)) (hfit:Fo.fitS (E:Int) (F:Int) b=0) (hX:X=b/2^F%2^E) (w:World):
 Calls Tryz.prog 16 #[.agg #[.int .i64 (E:Int),.int .i64 (F:Int)],.int .u64 (b:Int)] w (Says w (.int .i64 (if X+1=2^E then 8 else 0))):=by
 have hC:=fun W=>Fo.ref_Fits (E:Int) (F:Int) b b rfl hb64 W
 rw[hfit] at hC
 have hD:=fun W=>ref05_Finite E F b X hE2 hE hF1 hF hb64 hb hX W
 have hv1:Below w.heap.size w (w.alloc (.cells #[.int .i64 (E:Int),.int .i64 (F:Int)] 23)):=(Below.refl _ _).alloc nrf _
 have k1:Blk (w.alloc (.cells #[.int .i64 (E:Int),.int .i64 (F:Int)] 23)) w.heap.size 23 #[.int .i64 (E:Int),.int .i64 (F:Int)]:=Blk.new w _ _
 clear hb hX hfit
 by_cases h:X+1=2^E
 · rw[if_pos h]
   rw[decide_eq_true h] at hD
   clear h
   go_enter Tryz.func16,Tryz.ntmps16
   go_wp2_with fail
   refine(hC _).mono ?_
   rintro e' w1 ⟨rfl,hb1⟩
   replace k1:=k1.below hb1 k1.lt
   obtain⟨k1c0,k1c1, -⟩:=k1.b2
   go_wp2_with fail
   refine(hD _).mono ?_
   rintro e' w2 ⟨rfl,hb2⟩
   go_wp2
   go_ret
   exact⟨rfl,(hv1.trans (hb1.mono hv1.size)).trans (hb2.mono (hv1.trans (hb1.mono hv1.size)).size)⟩
 · rw[if_neg h]
   rw[decide_eq_false h] at hD
   clear h
   go_enter Tryz.func16,Tryz.ntmps16
   go_wp2_with fail
   refine(hC _).mono ?_
   rintro e' w1 ⟨rfl,hb1⟩
   replace k1:=k1.below hb1 k1.lt
   obtain⟨k1c0,k1c1, -⟩:=k1.b2
   go_wp2_with fail
   refine(hD _).mono ?_
   rintro e' w2 ⟨rfl,hb2⟩
   go_wp2
   go_ret
   exact⟨rfl,(hv1.trans (hb1.mono hv1.size)).trans (hb2.mono (hv1.trans (hb1.mono hv1.size)).size)⟩
end Bg
end Go.Proofs.YtenekbfnlbipiaaGreatDoor
