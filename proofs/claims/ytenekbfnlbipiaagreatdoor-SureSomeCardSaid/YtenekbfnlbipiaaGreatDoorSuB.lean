/- Plain: what package sure asks of a power of ten is whether a float is below it; its first digit. -/
import Derived.Test.YtenekbfnlbipiaaGreatDoorSuF
namespace Go.Proofs.YtenekbfnlbipiaaGreatDoor
theorem bitLen_bd {m:Nat} (h:m≠0):2^(bitLen m-1)≤m∧m<2^bitLen m∧1≤bitLen m:=by
 unfold bitLen
 rw[if_neg h]
 exact⟨Nat.log2_self_le h,Nat.lt_log2_self,Nat.succ_le_succ (Nat.zero_le _)⟩
theorem ten_pos (n:Nat):0<10^n:=Nat.pow_pos (by decide)
theorem below_eq {m:Nat} {q p:Int} (h0:m≠0) (hL:bitLen m≤64) (hf:farB p=false):belowS m q p=underB m q p:=by
 obtain⟨b1,b2,b3⟩:=bitLen_bd h0
 obtain⟨t1,t2⟩:=tenN_bd hf
 obtain⟨c,hc⟩:∃c:Nat,c=(-q).toNat+(-(tenE p)).toNat:=⟨_,rfl⟩
 have hq:0≤q+(c:Int):=by omega
 have hE:0≤tenE p+(c:Int):=by omega
 obtain⟨e1,e2,e3⟩:=ends_at hf c hE
 rw[under_at m q p c hq]
 unfold belowS topI
 generalize hL':bitLen m=L at b1 b2 b3 hL ⊢
 obtain⟨a,ha⟩:∃a:Nat,a=(q+(c:Int)).toNat:=⟨_,rfl⟩
 obtain⟨b,hb⟩:∃b:Nat,b=(tenE p+(c:Int)).toNat:=⟨_,rfl⟩
 rw[←ha]
 rw[←hb] at e1 e2 e3
 have hR:=ten_pos (-p).toNat
 generalize 10^(-p).toNat=R at e1 e2 e3 hR ⊢
 generalize 10^p.toNat*2^c=P at e1 e2 e3 ⊢
 generalize tenN p=T at t1 t2 e1 e2 e3 ⊢
 generalize tenX p=X at e3 ⊢
 by_cases ht:q+(L:Int)-1=tenE p+127
 · rw[if_neg (by simpa using ht)]
   have hab:a=b+64+(64-L):=by omega
   have hM:m*2^a*R=m*2^(64-L)*2^64*(2^b*R):=by
    rw[hab,Nat.pow_add,Nat.pow_add];ac_rfl
   rw[hM]
   have hK:0<2^b*R:=Nat.mul_pos (Nat.two_pow_pos b) hR
   rw[Nat.mul_assoc] at e1 e2 e3
   generalize 2^b*R=K at e1 e2 e3 hK ⊢
   generalize m*2^(64-L)=M
   have hd:=Nat.div_add_mod T (2^64)
   have hlo:=Nat.mod_lt T (Nat.two_pow_pos 64)
   generalize T/2^64=H at hd ⊢
   generalize T%2^64=lo at hd hlo ⊢
   have h64:(2:Nat)^64=18446744073709551616:=rfl
   rw[h64] at hd hlo ⊢
   rcases Nat.lt_trichotomy M H with h|h|h
   · have h1:M*18446744073709551616+1≤T:=by omega
     have h2:=Nat.mul_le_mul_right K h1
     have h3:M*18446744073709551616*K<P:=by
      rw[Nat.add_mul] at h2;omega
     rw[decide_eq_true h,decide_eq_true h3];rfl
   · subst h
     rw[decide_eq_false (Nat.lt_irrefl M),decide_eq_true (rfl:M=M)]
     by_cases hz:lo=0
     · have hT:M*18446744073709551616=T:=by omega
       rw[hT,decide_eq_false (by omega:¬lo≠0)]
       cases X
       · have:T*K<P:=by
          rcases Nat.lt_or_eq_of_le e1 with h|h
          · exact h
          · simp at e3;exact absurd h e3
         rw[decide_eq_true this];rfl
       · have:¬T*K<P:=by
          have:=e3.2 rfl;omega
         rw[decide_eq_false this];rfl
     · have h1:M*18446744073709551616+1≤T:=by omega
       have h2:=Nat.mul_le_mul_right K h1
       have h3:M*18446744073709551616*K<P:=by
        rw[Nat.add_mul] at h2;omega
       rw[decide_eq_true h3,decide_eq_true hz];rfl
   · have h1:T+1≤M*18446744073709551616:=by omega
     have h2:=Nat.mul_le_mul_right K h1
     rw[decide_eq_false (by omega:¬M<H),decide_eq_false (by omega:¬M=H),decide_eq_false (by omega:¬M*18446744073709551616*K<P)];rfl
 · rw[if_pos ht]
   by_cases hlt:q+(L:Int)-1<tenE p+127
   · have h1:L+a≤127+b:=by omega
     have h2:m*2^a+1≤T*2^b:=by
      have h3:m*2^a<2^L*2^a:=(Nat.mul_lt_mul_right (Nat.two_pow_pos a)).2 b2
      have h4:2^127*2^b≤T*2^b:=Nat.mul_le_mul_right _ t1
      rw[←Nat.pow_add] at h3 h4
      have h5:2^(L+a)≤2^(127+b):=Nat.pow_le_pow_right (by decide) h1
      omega
     have h3:=Nat.mul_le_mul_right R h2
     rw[Nat.add_mul] at h3
     rw[decide_eq_true hlt,decide_eq_true (by omega:m*2^a*R<P)]
   · have h1:128+b≤L-1+a:=by omega
     have h2:(T+1)*2^b≤m*2^a:=by
      have h3:2^(L-1)*2^a≤m*2^a:=Nat.mul_le_mul_right _ b1
      have h4:(T+1)*2^b≤2^128*2^b:=Nat.mul_le_mul_right _ t2
      rw[←Nat.pow_add] at h3 h4
      have h5:2^(128+b)≤2^(L-1+a):=Nat.pow_le_pow_right (by decide) h1
      omega
     have h3:=Nat.mul_le_mul_right R h2
     rw[decide_eq_false hlt,decide_eq_false (by omega:¬m*2^a*R<P)]
theorem under_mono {m:Nat} {q p p':Int} (h:p≤p') (hu:underB m q p=true):underB m q p'=true:=by
 unfold underB at hu ⊢
 rw[decide_eq_true_eq] at hu ⊢
 obtain⟨d,hd⟩:∃d:Nat,p'=p+d:=⟨(p'-p).toNat,by omega⟩
 -- 10^p'.toNat * 10^(-p).toNat = 10^p.toNat * 10^(-p').toNat * 10^d
 have e:p'.toNat+(-p).toNat=p.toNat+(-p').toNat+d:=by omega
 have h1:10^p'.toNat*10^(-p).toNat=10^p.toNat*10^(-p').toNat*10^d:=by
  rw[←Nat.pow_add,e,Nat.pow_add,Nat.pow_add]
 have h2:=(Nat.mul_lt_mul_right (ten_pos (-p').toNat)).2 hu
 have h3:0<10^(-p).toNat:=ten_pos _
 rw[←Nat.mul_lt_mul_right h3]
 have h4:1≤10^d:=ten_pos d
 calc m*2^q.toNat*10^(-p').toNat*10^(-p).toNat
     =m*2^q.toNat*10^(-p).toNat*10^(-p').toNat:=by ac_rfl
  _<10^p.toNat*2^(-q).toNat*10^(-p').toNat:=h2
  _≤10^p.toNat*2^(-q).toNat*10^(-p').toNat*10^d:=Nat.le_mul_of_pos_right _ h4
  _=10^p'.toNat*2^(-q).toNat*10^(-p).toNat:=by
    rw[Nat.mul_right_comm (10^p'.toNat),h1];ac_rfl
def IsFirst (m:Nat) (q P:Int):Prop:=underB m q P=false∧underB m q (P+1)=true
theorem IsFirst.iff {m:Nat} {q P:Int} (h:IsFirst m q P) (p:Int):underB m q p=decide (P<p):=by
 by_cases hp:P<p
 · rw[decide_eq_true hp];exact under_mono (by omega) h.2
 · rw[decide_eq_false hp]
   cases hb:underB m q p with
   |false=>rfl
   |true=>have:=under_mono (p':=P) (by omega) hb;rw[h.1] at this;exact absurd this (by decide)
theorem first_ex {m:Nat} {q:Int} (lo:Int) (n:Nat) (h1:underB m q lo=false) (h2:underB m q (lo+n)=true):∃P,IsFirst m q P∧lo≤P∧P<lo+n:=by
 induction n with
 |zero=>rw[show lo+((0:Nat):Int)=lo by omega,h1] at h2;exact absurd h2 (by decide)
 |succ n ih=>
  cases hb:underB m q (lo+n) with
  |true=>obtain⟨P,hP,h3,h4⟩:=ih hb;exact⟨P,hP,h3,by omega⟩
  |false=>exact⟨lo+n,⟨hb,by rw[show lo+(n:Int)+1=lo+((n+1:Nat):Int) by omega];exact h2⟩,by omega,by omega⟩
def eLo:Nat:=1074
def eHi:Nat:=1022
def eTen:Nat:=350
theorem efar_lo:2^eLo≤10^eTen:=by decide+kernel
theorem efar_hi:2^53*2^eHi≤10^eTen:=by decide+kernel
theorem first_form {m:Nat} {q:Int} (h0:m≠0) (hm:m<2^53) (hq: -1074≤q) (hq2:q≤1022):∃P,IsFirst m q P∧ -350≤P∧P<350:=by
 have h1:underB m q (-350)=false:=by
  unfold underB
  rw[decide_eq_false_iff_not,Nat.not_lt]
  have e1:(-(-350:Int)).toNat=eTen:=rfl
  have e2:(-350:Int).toNat=0:=rfl
  have e3:(-q).toNat≤eLo:=by unfold eLo;omega
  rw[e1,e2]
  have h2:2^(-q).toNat≤2^eLo:=Nat.pow_le_pow_right (by decide) e3
  have h3:=efar_lo
  have h4:1*1≤m*2^q.toNat:=Nat.mul_le_mul (Nat.pos_of_ne_zero h0) (Nat.two_pow_pos _)
  have h5:=Nat.mul_le_mul_right (10^eTen) h4
  generalize 10^eTen=t at*
  generalize 2^eLo=t2 at*
  omega
 have h2:underB m q (-350+(700:Nat))=true:=by
  unfold underB
  rw[decide_eq_true_eq]
  have e1:(-(-350+((700:Nat):Int))).toNat=0:=rfl
  have e2:(-350+((700:Nat):Int)).toNat=eTen:=rfl
  have e3:q.toNat≤eHi:=by unfold eHi;omega
  rw[e1,e2]
  have h2:2^q.toNat≤2^eHi:=Nat.pow_le_pow_right (by decide) e3
  have h3:=efar_hi
  have h4:m*2^q.toNat<2^53*2^eHi:=Nat.lt_of_lt_of_le ((Nat.mul_lt_mul_right (Nat.two_pow_pos _)).2 hm) (Nat.mul_le_mul_left _ h2)
  have h5:=Nat.two_pow_pos (-q).toNat
  have h6:=Nat.le_mul_of_pos_right (10^eTen) h5
  generalize 2^53*2^eHi=t2 at*
  generalize 10^eTen*2^(-q).toNat=t3 at*
  generalize 10^eTen=t at*
  omega
 obtain⟨P,hP,h3,h4⟩:=first_ex (-350) 700 h1 h2
 exact⟨P,hP,h3,by omega⟩
end Go.Proofs.YtenekbfnlbipiaaGreatDoor
namespace Go.Proofs.YtenekbfnlbipiaaGreatDoor
open Go.RowKit
set_option linter.unusedVariables false
set_option linter.unusedSimpArgs false
set_option maxHeartbeats 4000000
set_option maxRecDepth 100000

theorem suLen {m:Nat} (h:m<18446744073709551616):Lib.bitLen m=bitLen m∧bitLen m≤64:=by
 by_cases h0:m=0
 · subst h0;exact⟨rfl,by decide⟩
 obtain⟨b1,b2,b3⟩:=bitLen_bd h0
 have hL:bitLen m≤64:=by
  apply Nat.le_of_not_lt
  intro h1
  have:=Nat.pow_le_pow_right (n:=2) (by decide) (show 64≤bitLen m-1 by omega)
  have h64:(2:Nat)^64=18446744073709551616:=rfl
  omega
 refine⟨?_,hL⟩
 have hu:Lib.bitLen m≤bitLen m:=by
  by_cases h64:bitLen m<64
  · exact(Fo.libLen_le m (bitLen m) h64 h).2 b2
  · have:=Lib.bitLen_le m 64 (by omega) h
    omega
 have hl:¬Lib.bitLen m≤bitLen m-1:=by
  intro h1
  have:=(Fo.libLen_le m (bitLen m-1) (by omega) h).1 h1
  omega
 omega
theorem len64 {m L:Nat} (h:m<18446744073709551616) (hL:L=bitLen m) (w:World):Calls Tryz.prog 33 #[.int .u64 (m:Int)] w fun e w'=>e=.returned (.int .i64 (L:Int))∧w=w':=
 Fo.len64_n L (by rw[hL,(suLen h).1]) h w
theorem leadingZ {m L:Nat} (h:m<18446744073709551616) (hL:L=bitLen m) (w:World):Calls Tryz.prog 82 #[.int .u64 (m:Int)] w fun e w'=>e=.returned (.int .i64 (64-(L:Int)))∧w=w':=by
 have hL2:L≤64:=by rw[hL];exact(suLen h).2
 have HL:=Lib.hid hL
 clear hL
 go_enter Tryz.func82,Tryz.ntmps82
 go_wp2_with fail
 refine(len64 h HL.out _).mono ?_
 rintro e w1 ⟨rfl,rfl⟩
 go_wp2
 go_ret
 exact⟨rfl,rfl⟩
theorem sure_below (ng st:Bool) (m:Nat) (q p:Int) (h0:m≠0) (hm:m<18446744073709551616) (hq1: -5000≤q) (hq2:q≤5000) (hf:farB p=false) (w:World) (hT:Tab5 w):
 Calls Tryz.prog 34 #[.agg #[.bool ng,.int .u64 (m:Int),.int .i64 q,.bool st],.int .i64 p] w (Says w (.tuple #[.bool (underB m q p),.int .i64 0])):=by
 rw[←below_eq h0 (suLen hm).2 hf]
 have hTe:=fun W hT=>power_Ten p W hT
 have hWh:=fun W hT=>power_Whole p W hT
 have hE: -2000≤tenE p∧tenE p≤2000:=by
  have:=tS_le hf
  unfold tenE
  simp only[farB,Bool.or_eq_false_iff,decide_eq_false_iff_not] at hf
  split <;> omega
 have e2:(tenHi p=tenN p/2^64)∧(tenLo p=tenN p%2^64)∧tenEr p=0∧tenEx p=tenE p∧wholeB p=tenX p:=by
  unfold tenHi tenLo tenEr tenEx wholeB;rw[hf];exact⟨rfl,rfl,rfl,rfl,rfl⟩
 rw[e2.1,e2.2.1,e2.2.2.1,e2.2.2.2.1] at hTe
 rw[e2.2.2.1,e2.2.2.2.2] at hWh
 unfold belowS topI
 have hL2:=(suLen hm).2
 obtain⟨L,hL⟩:∃L,L=bitLen m:=⟨_,rfl⟩
 have hmL:m*2^(64-bitLen m)<18446744073709551616:=by
  obtain⟨b1,b2,b3⟩:=bitLen_bd h0
  have h1:=(Nat.mul_lt_mul_right (Nat.two_pow_pos (64-bitLen m))).2 b2
  rw[←Nat.pow_add,show bitLen m+(64-bitLen m)=64 by omega] at h1
  exact h1
 rw[←hL] at hL2 hmL ⊢
 have HL:=Lib.hid hL
 clear hL e2 hf
 generalize tenE p=X at hE hTe ⊢
 generalize tenN p/2^64=H at hTe ⊢
 generalize tenN p%2^64=lo at hTe ⊢
 generalize tenX p=XB at hWh ⊢
 have hL1:1≤L:=by rw[HL.out];exact(bitLen_bd h0).2.2
 have hsh:IntKind.u64.wrap ((m:Int)*2^(64-L))=((m*2^(64-L):Nat):Int):=Fo.shl_eq m (64-L) (by omega) hmL
 by_cases ht:q+(L:Int)-1=X+127
 · rw[if_neg (by simpa using ht)]
   generalize m*2^(64-L)=M at hsh hmL ⊢
   rcases Nat.lt_trichotomy M H with hMH|hMH|hMH
   · have hD1:decide (M<H)=true:=by rw[decide_eq_true hMH]
     rw[hD1,Bool.true_or]
     have hb0:Below w.heap.size w w:=Below.refl _ _
     go_enter Tryz.func34,Tryz.ntmps34
     go_wp2_with fail
     obtain⟨v1,E_,hv1,k1⟩:=Blk.a1 w 37 #[.bool ng,.int .u64 (m:Int),.int .i64 q,.bool st]
     replace hb0:=hb0.trans (hv1.mono hb0.size)
     replace hT:=hT.below hv1
     rw[E_]
     clear hv1 E_
     refine(hTe _ hT).mono ?_
     rintro e w2 ⟨rfl,hb2⟩
     replace hb0:=hb0.trans (hb2.mono hb0.size)
     replace hT:=hT.below hb2
     replace k1:=k1.below hb2 k1.lt
     clear hb2
     have hne:(q+(L:Int)-1 !=X+127)=false:=by simpa using ht
     obtain⟨k1c0,k1c1,k1c2,k1c3,k1z,k1f0,k1f1,k1f2,k1f3⟩:=k1.b4
     have hk:(64:Int)-(L:Int)=((64-L:Nat):Int):=by omega
     go_wp2_with fail
     go_quiet ((go_at_call 33;exact Fo.quiet_left (len64 hm HL.out _)))
     go_wp2_with fail
     go_quiet ((go_at_call 82;exact Fo.quiet_add_left (leadingZ hm HL.out _)))
     go_wp2_with fail
     refine(hWh _ (hT.below bbel)).mono ?_
     rintro e w3 ⟨rfl,hb3⟩
     have hb4:=Below.trans (b:=_) (show Below w.heap.size w _ from bbel) (hb3.mono (by have:=hb0.size;simpa using this))
     go_wp2
     all_goals (go_ret2;exact⟨rfl,hb4⟩)
   · subst hMH
     by_cases hlo:lo=0
     · subst hlo
       cases XB
       · rw[show(decide (M<M)||decide (M=M)&&(decide ((0:Nat)≠0)||!false))=true by simp]
         have hb0:Below w.heap.size w w:=Below.refl _ _
         go_enter Tryz.func34,Tryz.ntmps34
         go_wp2_with fail
         obtain⟨v1,E_,hv1,k1⟩:=Blk.a1 w 37 #[.bool ng,.int .u64 (m:Int),.int .i64 q,.bool st]
         replace hb0:=hb0.trans (hv1.mono hb0.size)
         replace hT:=hT.below hv1
         rw[E_]
         clear hv1 E_
         refine(hTe _ hT).mono ?_
         rintro e w2 ⟨rfl,hb2⟩
         replace hb0:=hb0.trans (hb2.mono hb0.size)
         replace hT:=hT.below hb2
         replace k1:=k1.below hb2 k1.lt
         clear hb2
         have hne:(q+(L:Int)-1 !=X+127)=false:=by simpa using ht
         obtain⟨k1c0,k1c1,k1c2,k1c3,k1z,k1f0,k1f1,k1f2,k1f3⟩:=k1.b4
         have hk:(64:Int)-(L:Int)=((64-L:Nat):Int):=by omega
         go_wp2_with fail
         go_quiet ((go_at_call 33;exact Fo.quiet_left (len64 hm HL.out _)))
         go_wp2_with fail
         go_quiet ((go_at_call 82;exact Fo.quiet_add_left (leadingZ hm HL.out _)))
         go_wp2_with fail
         refine(hWh _ (hT.below bbel)).mono ?_
         rintro e w3 ⟨rfl,hb3⟩
         have hb4:=Below.trans (b:=_) (show Below w.heap.size w _ from bbel) (hb3.mono (by have:=hb0.size;simpa using this))
         go_wp2
         all_goals (go_ret2;exact⟨rfl,hb4⟩)
       · rw[show(decide (M<M)||decide (M=M)&&(decide ((0:Nat)≠0)||!true))=false by simp]
         have hb0:Below w.heap.size w w:=Below.refl _ _
         go_enter Tryz.func34,Tryz.ntmps34
         go_wp2_with fail
         obtain⟨v1,E_,hv1,k1⟩:=Blk.a1 w 37 #[.bool ng,.int .u64 (m:Int),.int .i64 q,.bool st]
         replace hb0:=hb0.trans (hv1.mono hb0.size)
         replace hT:=hT.below hv1
         rw[E_]
         clear hv1 E_
         refine(hTe _ hT).mono ?_
         rintro e w2 ⟨rfl,hb2⟩
         replace hb0:=hb0.trans (hb2.mono hb0.size)
         replace hT:=hT.below hb2
         replace k1:=k1.below hb2 k1.lt
         clear hb2
         have hne:(q+(L:Int)-1 !=X+127)=false:=by simpa using ht
         obtain⟨k1c0,k1c1,k1c2,k1c3,k1z,k1f0,k1f1,k1f2,k1f3⟩:=k1.b4
         have hk:(64:Int)-(L:Int)=((64-L:Nat):Int):=by omega
         go_wp2_with fail
         go_quiet ((go_at_call 33;exact Fo.quiet_left (len64 hm HL.out _)))
         go_wp2_with fail
         go_quiet ((go_at_call 82;exact Fo.quiet_add_left (leadingZ hm HL.out _)))
         go_wp2_with fail
         refine(hWh _ (hT.below bbel)).mono ?_
         rintro e w3 ⟨rfl,hb3⟩
         have hb4:=Below.trans (b:=_) (show Below w.heap.size w _ from bbel) (hb3.mono (by have:=hb0.size;simpa using this))
         go_wp2
         all_goals (go_ret2;exact⟨rfl,hb4⟩)
     · have hD1:((lo:Int) !=0)=true:=by rw[bne_iff_ne];omega
       rw[show(decide (M<M)||decide (M=M)&&(decide (lo≠0)||!XB))=true by simp[hlo]]
       have hb0:Below w.heap.size w w:=Below.refl _ _
       go_enter Tryz.func34,Tryz.ntmps34
       go_wp2_with fail
       obtain⟨v1,E_,hv1,k1⟩:=Blk.a1 w 37 #[.bool ng,.int .u64 (m:Int),.int .i64 q,.bool st]
       replace hb0:=hb0.trans (hv1.mono hb0.size)
       replace hT:=hT.below hv1
       rw[E_]
       clear hv1 E_
       refine(hTe _ hT).mono ?_
       rintro e w2 ⟨rfl,hb2⟩
       replace hb0:=hb0.trans (hb2.mono hb0.size)
       replace hT:=hT.below hb2
       replace k1:=k1.below hb2 k1.lt
       clear hb2
       have hne:(q+(L:Int)-1 !=X+127)=false:=by simpa using ht
       obtain⟨k1c0,k1c1,k1c2,k1c3,k1z,k1f0,k1f1,k1f2,k1f3⟩:=k1.b4
       have hk:(64:Int)-(L:Int)=((64-L:Nat):Int):=by omega
       go_wp2_with fail
       go_quiet ((go_at_call 33;exact Fo.quiet_left (len64 hm HL.out _)))
       go_wp2_with fail
       go_quiet ((go_at_call 82;exact Fo.quiet_add_left (leadingZ hm HL.out _)))
       go_wp2_with fail
       refine(hWh _ (hT.below bbel)).mono ?_
       rintro e w3 ⟨rfl,hb3⟩
       have hb4:=Below.trans (b:=_) (show Below w.heap.size w _ from bbel) (hb3.mono (by have:=hb0.size;simpa using this))
       go_wp2
       all_goals (go_ret2;exact⟨rfl,hb4⟩)
   · have hD1:decide (M<H)=false:=by rw[decide_eq_false];omega
     have hD2:((M:Int)==(H:Int))=false:=by rw[beq_eq_false_iff_ne];omega
     rw[hD1,Bool.false_or,decide_eq_false (show ¬M=H by omega),Bool.false_and]
     have hb0:Below w.heap.size w w:=Below.refl _ _
     go_enter Tryz.func34,Tryz.ntmps34
     go_wp2_with fail
     obtain⟨v1,E_,hv1,k1⟩:=Blk.a1 w 37 #[.bool ng,.int .u64 (m:Int),.int .i64 q,.bool st]
     replace hb0:=hb0.trans (hv1.mono hb0.size)
     replace hT:=hT.below hv1
     rw[E_]
     clear hv1 E_
     refine(hTe _ hT).mono ?_
     rintro e w2 ⟨rfl,hb2⟩
     replace hb0:=hb0.trans (hb2.mono hb0.size)
     replace hT:=hT.below hb2
     replace k1:=k1.below hb2 k1.lt
     clear hb2
     have hne:(q+(L:Int)-1 !=X+127)=false:=by simpa using ht
     obtain⟨k1c0,k1c1,k1c2,k1c3,k1z,k1f0,k1f1,k1f2,k1f3⟩:=k1.b4
     have hk:(64:Int)-(L:Int)=((64-L:Nat):Int):=by omega
     go_wp2_with fail
     go_quiet ((go_at_call 33;exact Fo.quiet_left (len64 hm HL.out _)))
     go_wp2_with fail
     go_quiet ((go_at_call 82;exact Fo.quiet_add_left (leadingZ hm HL.out _)))
     go_wp2_with fail
     refine(hWh _ (hT.below bbel)).mono ?_
     rintro e w3 ⟨rfl,hb3⟩
     have hb4:=Below.trans (b:=_) (show Below w.heap.size w _ from bbel) (hb3.mono (by have:=hb0.size;simpa using this))
     go_wp2
     all_goals (go_ret2;exact⟨rfl,hb4⟩)
 · rw[if_pos ht]
   clear hsh
   have hb0:Below w.heap.size w w:=Below.refl _ _
   go_enter Tryz.func34,Tryz.ntmps34
   go_wp2_with fail
   obtain⟨v1,E_,hv1,k1⟩:=Blk.a1 w 37 #[.bool ng,.int .u64 (m:Int),.int .i64 q,.bool st]
   replace hb0:=hb0.trans (hv1.mono hb0.size)
   replace hT:=hT.below hv1
   rw[E_]
   clear hv1 E_
   refine(hTe _ hT).mono ?_
   rintro e w2 ⟨rfl,hb2⟩
   replace hb0:=hb0.trans (hb2.mono hb0.size)
   replace hT:=hT.below hb2
   replace k1:=k1.below hb2 k1.lt
   clear hb2
   have hne:(q+(L:Int)-1 !=X+127)=true:=by simpa using ht
   obtain⟨k1c0,k1c1,k1c2,k1c3,k1z,k1f0,k1f1,k1f2,k1f3⟩:=k1.b4
   go_wp2_with fail
   go_quiet ((go_at_call 33;exact Fo.quiet_left (len64 hm HL.out _)))
   go_wp2
   go_ret2
   exact⟨rfl,bdn hb0 _⟩

theorem sure_first (ng st:Bool) (m:Nat) (q P:Int) (h0:m≠0) (hm:m<9007199254740992) (hq1: -1074≤q) (hq2:q≤1022) (hP:IsFirst m q P) (hP1: -350≤P) (hP2:P<350) (w:World) (hT:Tab5 w):
 Calls Tryz.prog 11 #[.agg #[.bool ng,.int .u64 (m:Int),.int .i64 q,.bool st]] w (Says w (.tuple #[.int .i64 P,.int .i64 0])):=by
 have hm64:m<18446744073709551616:=by omega
 have hL1:1≤bitLen m∧bitLen m≤64:=⟨(bitLen_bd h0).2.2,(suLen hm64).2⟩
 obtain⟨L,hL⟩:∃L,L=bitLen m:=⟨_,rfl⟩
 rw[←hL] at hL1
 have HL:=Lib.hid hL
 have HP:=Lib.hid hP
 have H0:=Lib.hid h0
 clear hL hP h0
 obtain⟨l1,l2⟩:=hL1
 have hb0:Below w.heap.size w w:=Below.refl _ _
 go_enter Tryz.func11,Tryz.ntmps11
 go_wp2_with fail
 obtain⟨v1,E_,hv1,k1⟩:=Blk.a1 w 37 #[.bool ng,.int .u64 (m:Int),.int .i64 q,.bool st]
 replace hb0:=hb0.trans (hv1.mono hb0.size)
 replace hT:=hT.below hv1
 rw[E_]
 clear hv1 E_
 obtain⟨k1c0,k1c1,k1c2,k1c3,k1z,k1f0,k1f1,k1f2,k1f3⟩:=k1.b4
 go_quiet ((go_at_call 33;exact Fo.quiet_left (len64 hm64 HL.out _)))
 clear k1c0 k1f0 k1c1 k1f1 k1c2 k1f2 k1c3 k1f3 k1z
 obtain⟨G,hG,g1,g2⟩:∃G,((q+(L:Int)-1)*30103).tdiv 100000=G∧ -335≤G∧G≤335:=by
  refine⟨_,rfl,?_,?_⟩
  · rcases Int.le_total 0 ((q+(L:Int)-1)*30103) with h|h
    · rw[Int.tdiv_eq_ediv_of_nonneg h];omega
    · have:((q+(L:Int)-1)*30103)= -(-((q+(L:Int)-1)*30103)):=by omega
      rw[this,Int.neg_tdiv,Int.tdiv_eq_ediv_of_nonneg (by omega)];omega
  · rcases Int.le_total 0 ((q+(L:Int)-1)*30103) with h|h
    · rw[Int.tdiv_eq_ediv_of_nonneg h];omega
    · have:((q+(L:Int)-1)*30103)= -(-((q+(L:Int)-1)*30103)):=by omega
      rw[this,Int.neg_tdiv,Int.tdiv_eq_ediv_of_nonneg (by omega)];omega
 by_cases htop:q+(L:Int)-1<0
 · have htd:decide (q+(L:Int)-1<0)=true:=decide_eq_true htop
   go_wp2
   go_loopw [5] (fun v5 wr=>∃p:Int,v5=.int .i64 p∧ -399≤p∧p≤398∧Blk wr w.heap.size 37 #[.bool ng,.int .u64 (m:Int),.int .i64 q,.bool st]∧Tab5 wr∧Below w.heap.size w wr) (fun v5 _=>(P-intOf v5).natAbs)
   case atStart=>exact⟨_,rfl,by omega,by omega,k1.drewN _,hT.below (bdn (Below.refl _ _) _),bdn hb0 _⟩
   case round=>
    obtain⟨p,rfl,p1,p2,kk,hTr,hbr⟩:=hrel
    have hf1:farB (p+1)=false:=by simp only[farB,Bool.or_eq_false_iff,decide_eq_false_iff_not];omega
    have hf0:farB p=false:=by simp only[farB,Bool.or_eq_false_iff,decide_eq_false_iff_not];omega
    have hC1:=fun W hT=>sure_below ng st m q (p+1) H0.out hm64 (by omega) (by omega) hf1 W hT
    have hC0:=fun W hT=>sure_below ng st m q p H0.out hm64 (by omega) (by omega) hf0 W hT
    rw[HP.out.iff] at hC1 hC0
    clear hf1 hf0
    obtain⟨kkc0,kkc1,kkc2,kkc3, -⟩:=kk.b4
    have kkz:=kk.lt
    by_cases h1:P<p+1
    · rw[decide_eq_true h1] at hC1
      by_cases h2:P<p
      · rw[decide_eq_true h2] at hC0
        go_wp2_with fail
        refine(hC1 _ hTr).mono ?_
        rintro e w1 ⟨rfl,hb1⟩
        replace hbr:=hbr.trans (hb1.mono hbr.size)
        replace hTr:=hTr.below hb1
        replace kk:=kk.below hb1 kkz
        clear kkc0 kkc1 kkc2 kkc3
        obtain⟨kkc0,kkc1,kkc2,kkc3, -⟩:=kk.b4
        replace kkz:=kk.lt
        clear hb1
        go_wp2_with fail
        refine(hC0 _ hTr).mono ?_
        rintro e w2 ⟨rfl,hb2⟩
        replace hbr:=hbr.trans (hb2.mono hbr.size)
        replace hTr:=hTr.below hb2
        replace kk:=kk.below hb2 kkz
        clear kkc0 kkc1 kkc2 kkc3
        obtain⟨kkc0,kkc1,kkc2,kkc3, -⟩:=kk.b4
        replace kkz:=kk.lt
        clear hb2
        go_wp2
        go_roundw
        case rel=>exact⟨_,rfl,by omega,by omega,kk,hTr,hbr⟩
        case measure=>first|(simp[intOf];done)|(simp[intOf];omega)
      · rw[decide_eq_false h2] at hC0
        go_wp2_with fail
        refine(hC1 _ hTr).mono ?_
        rintro e w1 ⟨rfl,hb1⟩
        replace hbr:=hbr.trans (hb1.mono hbr.size)
        replace hTr:=hTr.below hb1
        replace kk:=kk.below hb1 kkz
        clear kkc0 kkc1 kkc2 kkc3
        obtain⟨kkc0,kkc1,kkc2,kkc3, -⟩:=kk.b4
        replace kkz:=kk.lt
        clear hb1
        go_wp2_with fail
        refine(hC0 _ hTr).mono ?_
        rintro e w2 ⟨rfl,hb2⟩
        replace hbr:=hbr.trans (hb2.mono hbr.size)
        replace hTr:=hTr.below hb2
        replace kk:=kk.below hb2 kkz
        clear kkc0 kkc1 kkc2 kkc3
        obtain⟨kkc0,kkc1,kkc2,kkc3, -⟩:=kk.b4
        replace kkz:=kk.lt
        clear hb2
        go_wp2
        obtain rfl:p=P:=by omega
        go_ret2
        exact⟨rfl,hbr⟩
    · rw[decide_eq_false h1] at hC1
      go_wp2_with fail
      refine(hC1 _ hTr).mono ?_
      rintro e w1 ⟨rfl,hb1⟩
      replace hbr:=hbr.trans (hb1.mono hbr.size)
      replace hTr:=hTr.below hb1
      replace kk:=kk.below hb1 kkz
      clear kkc0 kkc1 kkc2 kkc3
      obtain⟨kkc0,kkc1,kkc2,kkc3, -⟩:=kk.b4
      replace kkz:=kk.lt
      clear hb1
      go_wp2
      go_roundw
      case rel=>exact⟨_,rfl,by omega,by omega,kk,hTr,hbr⟩
      case measure=>first|(simp[intOf];done)|(simp[intOf];omega)
 · have htd:decide (q+(L:Int)-1<0)=false:=decide_eq_false htop
   go_wp2
   go_loopw [5] (fun v5 wr=>∃p:Int,v5=.int .i64 p∧ -399≤p∧p≤398∧Blk wr w.heap.size 37 #[.bool ng,.int .u64 (m:Int),.int .i64 q,.bool st]∧Tab5 wr∧Below w.heap.size w wr) (fun v5 _=>(P-intOf v5).natAbs)
   case atStart=>exact⟨_,rfl,by omega,by omega,k1.drewN _,hT.below (bdn (Below.refl _ _) _),bdn hb0 _⟩
   case round=>
    obtain⟨p,rfl,p1,p2,kk,hTr,hbr⟩:=hrel
    have hf1:farB (p+1)=false:=by simp only[farB,Bool.or_eq_false_iff,decide_eq_false_iff_not];omega
    have hf0:farB p=false:=by simp only[farB,Bool.or_eq_false_iff,decide_eq_false_iff_not];omega
    have hC1:=fun W hT=>sure_below ng st m q (p+1) H0.out hm64 (by omega) (by omega) hf1 W hT
    have hC0:=fun W hT=>sure_below ng st m q p H0.out hm64 (by omega) (by omega) hf0 W hT
    rw[HP.out.iff] at hC1 hC0
    clear hf1 hf0
    obtain⟨kkc0,kkc1,kkc2,kkc3, -⟩:=kk.b4
    have kkz:=kk.lt
    by_cases h1:P<p+1
    · rw[decide_eq_true h1] at hC1
      by_cases h2:P<p
      · rw[decide_eq_true h2] at hC0
        go_wp2_with fail
        refine(hC1 _ hTr).mono ?_
        rintro e w1 ⟨rfl,hb1⟩
        replace hbr:=hbr.trans (hb1.mono hbr.size)
        replace hTr:=hTr.below hb1
        replace kk:=kk.below hb1 kkz
        clear kkc0 kkc1 kkc2 kkc3
        obtain⟨kkc0,kkc1,kkc2,kkc3, -⟩:=kk.b4
        replace kkz:=kk.lt
        clear hb1
        go_wp2_with fail
        refine(hC0 _ hTr).mono ?_
        rintro e w2 ⟨rfl,hb2⟩
        replace hbr:=hbr.trans (hb2.mono hbr.size)
        replace hTr:=hTr.below hb2
        replace kk:=kk.below hb2 kkz
        clear kkc0 kkc1 kkc2 kkc3
        obtain⟨kkc0,kkc1,kkc2,kkc3, -⟩:=kk.b4
        replace kkz:=kk.lt
        clear hb2
        go_wp2
        go_roundw
        case rel=>exact⟨_,rfl,by omega,by omega,kk,hTr,hbr⟩
        case measure=>first|(simp[intOf];done)|(simp[intOf];omega)
      · rw[decide_eq_false h2] at hC0
        go_wp2_with fail
        refine(hC1 _ hTr).mono ?_
        rintro e w1 ⟨rfl,hb1⟩
        replace hbr:=hbr.trans (hb1.mono hbr.size)
        replace hTr:=hTr.below hb1
        replace kk:=kk.below hb1 kkz
        clear kkc0 kkc1 kkc2 kkc3
        obtain⟨kkc0,kkc1,kkc2,kkc3, -⟩:=kk.b4
        replace kkz:=kk.lt
        clear hb1
        go_wp2_with fail
        refine(hC0 _ hTr).mono ?_
        rintro e w2 ⟨rfl,hb2⟩
        replace hbr:=hbr.trans (hb2.mono hbr.size)
        replace hTr:=hTr.below hb2
        replace kk:=kk.below hb2 kkz
        clear kkc0 kkc1 kkc2 kkc3
        obtain⟨kkc0,kkc1,kkc2,kkc3, -⟩:=kk.b4
        replace kkz:=kk.lt
        clear hb2
        go_wp2
        obtain rfl:p=P:=by omega
        go_ret2
        exact⟨rfl,hbr⟩
    · rw[decide_eq_false h1] at hC1
      go_wp2_with fail
      refine(hC1 _ hTr).mono ?_
      rintro e w1 ⟨rfl,hb1⟩
      replace hbr:=hbr.trans (hb1.mono hbr.size)
      replace hTr:=hTr.below hb1
      replace kk:=kk.below hb1 kkz
      clear kkc0 kkc1 kkc2 kkc3
      obtain⟨kkc0,kkc1,kkc2,kkc3, -⟩:=kk.b4
      replace kkz:=kk.lt
      clear hb1
      go_wp2
      go_roundw
      case rel=>exact⟨_,rfl,by omega,by omega,kk,hTr,hbr⟩
      case measure=>first|(simp[intOf];done)|(simp[intOf];omega)
end Go.Proofs.YtenekbfnlbipiaaGreatDoor
