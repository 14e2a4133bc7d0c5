/- Walks of numeralbig: times and by powers of two. -/
import Derived.Test.YtenekbfnlbipiaaGreatDoorBgB
import Derived.Test.YtenekbfnlbipiaaGreatDoorBgA
import Derived.Lib.TrailingZeros
import Derived.Laws.MathBits
import Derived.Test.YtenekbfnlbipiaaGreatDoorPlain
namespace Go.Proofs.YtenekbfnlbipiaaGreatDoor
open Go.RowKit
set_option linter.unusedVariables false
set_option linter.unusedSimpArgs false
set_option maxHeartbeats 4000000
set_option maxRecDepth 100000
namespace Bg

theorem or_lo (x y:Nat) (hx:x<4294967296) (hy:y<4294967296):bits BinOp.or IntKind.u64 (x:Int) ((y:Int)*4294967296)=((y*4294967296+x:Nat):Int):=by
 have e:((y:Int)*4294967296)=((y*4294967296:Nat):Int):=by omega
 rw[e,u64_or_nat _ _ (by omega) (by omega),Nat.or_comm]
 have:=Nat.two_pow_add_eq_or_of_lt (i:=32) (b:=x) hx y
 rw[show y*4294967296=2^32*y from by omega, ←this]
theorem set2_val {o:List Nat} {k P:Nat} (hk:k+1<o.length) (hz:nth o (k+1)=0):val ((o.set k (nth o k+P%4294967296)).set (k+1) (P/4294967296))=val o+4294967296^k*P:=by
 have e:=Nat.mod_add_div P 4294967296
 have h1:=val_set o k (nth o k+P%4294967296) (by omega)
 have h2:=val_set (o.set k (nth o k+P%4294967296)) (k+1) (P/4294967296) (by simp;omega)
 rw[nth_set_ne _ _ _ _ (by omega),hz,Nat.mul_zero,Nat.add_zero] at h2
 rw[h2]
 have h3:val (o.set k (nth o k+P%4294967296))=val o+4294967296^k*(P%4294967296):=by
  rw[Nat.mul_add] at h1;omega
 rw[h3,Nat.pow_succ,Nat.add_assoc,Nat.mul_assoc, ←Nat.mul_add,e]
theorem big_up (A:Option Addr) (l:List Nat) (n c:Nat) (hn:n=l.length) (m:Nat) (hm:m≤1000000) (hl16:l.length≤1000000) (w:World) (h:Rd w A l):
 Calls Tryz.prog 149 #[.slice A n c,.int .i64 (m:Int)] w (LimbsOne w (val l*2^m)):=by
 subst hn
 by_cases h0:l.length=0
 · obtain rfl:l=[]:=List.eq_nil_of_length_eq_zero h0
   go_enter Tryz.func149,Tryz.ntmps149
   go_wp2
   go_ret
   exact⟨none,0,by simp[val,limbs_zero],by simp[val,limbs_zero],by simpa [val,limbs_zero] using Own.nil w 153 w.heap.size,Below.refl _ _⟩
 · have hL0:((l.length:Int)==0)=false:=by rw[beq_eq_false_iff_ne];omega
   obtain⟨K,hK⟩:∃K,K=m/32:=⟨_,rfl⟩
   obtain⟨r,hr0⟩:∃r,r=m%32:=⟨_,rfl⟩
   have hr:r<32:=by omega
   have hmk:=fun W=>mk32 (l.length+K+1) ((l.length:Int)+(K:Int)+1) (by omega) (by omega) W
   have hd1:Int.tdiv (m:Int) 32=(K:Int):=by rw[Int.tdiv_eq_ediv_of_nonneg (by omega)];omega
   have hd2:(m:Int)/32=(K:Int):=by omega
   have hd3:Int.tmod (m:Int) 32=(r:Int):=by rw[Int.tmod_eq_emod_of_nonneg (by omega)];omega
   have hd4:(m:Int)%32=(r:Int):=by omega
   have hKb:K≤40000:=by omega
   have HM:Hid (m=32*K+r):=by show _=_;omega
   clear hK hr0 h0 hm
   go_enter Tryz.func149,Tryz.ntmps149
   go_wp2
   go_loopw [8] (fun i wr=>∃(k:Nat) (o:List Nat),k≤l.length∧i=.int .i64 (k:Int)∧o.length=l.length+K+1∧Sm o∧(∀j,k+K<j→nth o j=0)∧nth o (k+K)<2^r∧val o=4294967296^K*(val (l.take k)*2^r)∧Row wr 153 w.heap.size o∧Below w.heap.size w wr) (fun i _=>l.length-(intOf i).toNat)
   case atStart=>
    exact⟨0,List.replicate (l.length+K+1) 0,Nat.zero_le _,rfl,by simp,Sm.replicate _,fun j _=>nth_replicate _ _,by rw[nth_replicate];exact Nat.two_pow_pos _,by rw[val_replicate];simp[val],row_new rfl rfl,bbel⟩
   case round=>
    clear hd1 hd2 hd3 hd4
    obtain⟨k,o,hk,rfl,hol,hos,hoz,hor,hov,hrow,hbl⟩:=hrel
    have HOL:=Lib.hid hol
    have HOZ:=Lib.hid hoz
    have HOV:=Lib.hid hov
    have HOR:=Lib.hid hor
    clear hol hoz hov hor
    by_cases hk1:k<l.length
    · obtain⟨ba,oa,rfl,hca⟩:=rd_at h hbl (k:=k) hk1
      have hx:=h.sm.nth k
      have hco:=hrow.cell (k+K) (by rw[HOL.out];omega)
      have hco1:=hrow.cell (k+K+1) (by rw[HOL.out];omega)
      have hfz:=hrow.frozen (k+K)
      have hfz1:=hrow.frozen (k+K+1)
      obtain⟨P,hP⟩:∃P:Nat,P=nth l k*2^r:=⟨_,rfl⟩
      have hPe:((nth l k:Nat):Int)*2^r=(P:Int):=by rw[hP];push_cast;rfl
      have hPb:P<9223372036854775808:=by
       have h1:2^r≤2^31:=Nat.pow_le_pow_right (by decide) (by omega)
       have h2:=Nat.mul_le_mul (show nth l k≤4294967295 by omega) h1
       rw[hP];omega
      have hor:=shl_low (nth l k) r (nth o (k+K)) hr HOR.out
      rw[←hP] at hor
      obtain⟨hor1,hor2⟩:=hor
      have HOR2:=Lib.hid hor2
      have HP:=Lib.hid hP
      have i1:(0:Int)≤(k:Int)+(K:Int):=by omega
      have i2:(k:Int)+(K:Int)<((l.length+K+1:Nat):Int):=by omega
      have i3:(0:Int)≤(k:Int)+(K:Int)+1:=by omega
      have i4:(k:Int)+(K:Int)+1<((l.length+K+1:Nat):Int):=by omega
      clear hP hor2
      go_wp2
      go_roundw
      case rel=>
       have h2:=shl_high (nth l k) r hx
       have h3:=HOR2.out
       have hlt:P/4294967296<4294967296:=by omega
       have st:=set2_val (o:=o) (k:=k+K) (P:=P) (by rw[HOL.out];omega) (HOZ.out _ (by omega))
       refine⟨k+1,(o.set (k+K) (nth o (k+K)+P%4294967296)).set (k+K+1) (P/4294967296),by omega,by go_num,by simp[HOL.out],(hos.set _ _ h3).set _ _ hlt,?_,?_,?_,?_,bbel⟩
       · intro j hj
         rw[nth_set_ne _ _ _ _ (by omega),nth_set_ne _ _ _ _ (by omega)]
         exact HOZ.out j (by omega)
       · rw[show k+1+K=k+K+1 by omega,nth_set_eq _ _ _ (by simp[HOL.out];omega),HP.out];exact h2
       · rw[st,HOV.out,HP.out,val_take_succ',Nat.add_mul,Nat.mul_add,Nat.pow_add]
         congr 1
         ac_rfl
       · exact(hrow.setE (k+K) (nth o (k+K)+P%4294967296) (by omega)).setE (k+K+1) (P/4294967296) (by omega)
      case measure=>first|(simp[intOf];done)|(simp[intOf];omega)
    · have hkl:k=l.length:=by omega
      have hfin:val o=val l*2^m:=by
       rw[HOV.out,hkl,List.take_length,HM.out,Nat.pow_add,Nat.pow_mul]
       rw[show(2:Nat)^32=4294967296 from rfl]
       ac_rfl
      have HF:=Lib.hid hfin
      clear hfin hkl
      go_wp2_with fail
      refine(big_trim _ o _ (l.length+K+1) HOL.out.symm nrf _ (hrow.rd0 hos (by rw[HOL.out];omega))).mono ?_
      rintro e w1 ⟨rfl,rfl⟩
      go_wp2
      go_ret
      have ho:=(hrow.own hos (by rw[HOL.out];omega) nrf o.length nrf nrf).trim
      have hle:=limbs_length_le hos
      rw[HOL.out] at ho hle
      rw[List.take_of_length_le (by rw[HOL.out];omega),HF.out] at ho
      rw[HF.out] at hle
      exact⟨_,_,by rw[HF.out];rfl,hle,ho,hbl⟩
theorem nth_drop (l:List Nat) (K i:Nat):nth (l.drop K) i=nth l (K+i):=by
 by_cases h:K+i<l.length
 · rw[nth_lt _ (by simp;omega),nth_lt _ h];simp
 · rw[nth_ge _ (by simp;omega),nth_ge _ (by omega)]
theorem big_down (A:Option Addr) (l:List Nat) (n c:Nat) (hn:n=l.length) (m:Nat) (hm:m≤1000000) (hl16:l.length≤1000000) (w:World) (h:Rd w A l):
 Calls Tryz.prog 207 #[.slice A n c,.int .i64 (m:Int)] w (LimbsOne w (val l/2^m)):=by
 subst hn
 obtain⟨K,hK⟩:∃K,K=m/32:=⟨_,rfl⟩
 obtain⟨r,hr0⟩:∃r,r=m%32:=⟨_,rfl⟩
 have hr:r<32:=by omega
 have hd1:Int.tdiv (m:Int) 32=(K:Int):=by rw[Int.tdiv_eq_ediv_of_nonneg (by omega)];omega
 have hd2:(m:Int)/32=(K:Int):=by omega
 have hd3:Int.tmod (m:Int) 32=(r:Int):=by rw[Int.tmod_eq_emod_of_nonneg (by omega)];omega
 have hd4:(m:Int)%32=(r:Int):=by omega
 have hKb:K≤40000:=by omega
 have hM:m=32*K+r:=by omega
 have hdv:val l/2^m=val (l.drop K)/2^r:=by
  rw[hM,Nat.pow_add,Nat.pow_mul, ←Nat.div_div_eq_div_mul,val_drop l h.sm]
 rw[hdv]
 clear hK hr0 hM hdv hm
 by_cases hKl:l.length≤K
 · have hz:l.drop K=[]:=List.drop_eq_nil_iff.2 hKl
   rw[hz]
   have hg:decide ((l.length:Int)≤(K:Int))=true:=by simp;omega
   go_enter Tryz.func207,Tryz.ntmps207
   go_wp2
   go_ret
   exact⟨none,0,by simp[val,limbs_zero],by simp[val,limbs_zero],by simpa [val,limbs_zero] using Own.nil w 153 w.heap.size,Below.refl _ _⟩
 · have hg:decide ((l.length:Int)≤(K:Int))=false:=by simp;omega
   obtain⟨L,hL⟩:∃L,L=l.length-K:=⟨_,rfl⟩
   have hLK:l.length=L+K:=by omega
   have hmk:=fun W=>mk32 L ((l.length:Int)-(K:Int)) (by omega) (by omega) W
   have hLb:L≤1000000:=by omega
   have hs:=h.sm.drop K
   have hdl:(l.drop K).length=L:=by simp;omega
   have HDL:=Lib.hid hdl
   have HLK:=Lib.hid hLK
   clear hL hdl hLK
   go_enter Tryz.func207,Tryz.ntmps207
   go_wp2
   go_loopw [8] (fun i wr=>∃(k:Nat) (o:List Nat),k≤L∧i=.int .i64 (k:Int)∧o.length=L∧Sm o∧(∀j,j<k→nth o j=val (l.drop K)/2^r/4294967296^j%4294967296)∧Row wr 153 w.heap.size o∧Below w.heap.size w wr) (fun i _=>L-(intOf i).toNat)
   case atStart=>
    exact⟨0,List.replicate L 0,Nat.zero_le _,rfl,by simp,Sm.replicate _,fun j hj=>by omega,row_new rfl rfl,bbel⟩
   case round=>
    clear hd1 hd2 hd3 hd4 hg
    obtain⟨k,o,hk,rfl,hol,hos,hoj,hrow,hbl⟩:=hrel
    have HOL:=Lib.hid hol
    have HOJ:=Lib.hid hoj
    clear hol hoj
    by_cases hk1:k<L
    · have hkK:k+K<l.length:=by have:=HLK.out;omega
      obtain⟨ba,oa,rfl,hca⟩:=rd_at h hbl (k:=k+K) hkK
      have hx:=h.sm.nth (k+K)
      have hy:=h.sm.nth (k+K+1)
      have hco:=hrow.cell k (by rw[HOL.out];omega)
      have hfz:=hrow.frozen k
      have st:=low_step hs k r hr
      rw[nth_drop,nth_drop,show K+(k+1)=k+K+1 by omega,show K+k=k+K by omega] at st
      have i1:(0:Int)≤(k:Int)+(K:Int):=by omega
      have i2:(k:Int)+(K:Int)<(l.length:Int):=by omega
      by_cases hk2:k+K+1<l.length
      · obtain⟨ba2,oa2,he,hca2⟩:=rd_at h hbl (k:=k+K+1) hk2
        injection he with he
        injection he with he1 he2
        subst he1 he2
        have i3:(0:Int)≤(k:Int)+(K:Int)+1:=by omega
        have i4:(k:Int)+(K:Int)+1<(l.length:Int):=by omega
        have hg2:decide ((k:Int)+(K:Int)+1<(l.length:Int))=true:=by simp;omega
        have hor:=or_lo (nth l (k+K)) (nth l (k+K+1)) hx hy
        obtain⟨P,hP⟩:∃P:Nat,P=nth l (k+K+1)*4294967296+nth l (k+K):=⟨_,rfl⟩
        rw[←hP] at hor st
        have hPb:P<18446744073709551616:=by omega
        have ST:=Lib.hid st
        clear hP st
        go_wp2
        go_roundw
        case rel=>
         refine⟨k+1,o.set k (P/2^r%4294967296),by omega,by go_num,by simp[HOL.out],hos.set _ _ (Nat.mod_lt _ (by decide)),?_,hrow.setE _ _ (cast_shr P r),bbel⟩
         intro j h1
         by_cases hjk:j=k
         · subst hjk
           rw[nth_set_eq _ _ _ (by rw[HOL.out];omega),ST.out]
         · rw[nth_set_ne _ _ _ _ (by omega)]
           exact HOJ.out j (by omega)
        case measure=>first|(simp[intOf];done)|(simp[intOf];omega)
      · have hg2:decide ((k:Int)+(K:Int)+1<(l.length:Int))=false:=by simp;omega
        rw[nth_ge l (show l.length≤k+K+1 by omega),Nat.zero_mul,Nat.zero_add] at st
        obtain⟨P,hP⟩:∃P:Nat,P=nth l (k+K):=⟨_,rfl⟩
        rw[←hP] at st hca hx
        have ST:=Lib.hid st
        clear hP st
        go_wp2
        go_roundw
        case rel=>
         refine⟨k+1,o.set k (P/2^r%4294967296),by omega,by go_num,by simp[HOL.out],hos.set _ _ (Nat.mod_lt _ (by decide)),?_,hrow.setE _ _ (cast_shr P r),bbel⟩
         intro j h1
         by_cases hjk:j=k
         · subst hjk
           rw[nth_set_eq _ _ _ (by rw[HOL.out];omega),ST.out]
         · rw[nth_set_ne _ _ _ _ (by omega)]
           exact HOJ.out j (by omega)
        case measure=>first|(simp[intOf];done)|(simp[intOf];omega)
    · have hkl:k=L:=by omega
      have hv:val o=val (l.drop K)/2^r:=by
       refine val_of_nth hos ?_ fun j hj=>HOJ.out j (by rw[hkl, ←HOL.out];exact hj)
       rw[HOL.out, ←HDL.out]
       exact Nat.lt_of_le_of_lt (Nat.div_le_self _ _) (val_lt hs)
      have HF:=Lib.hid hv
      clear hv hkl
      go_wp2_with fail
      refine(big_trim _ o _ L HOL.out.symm nrf _ (hrow.rd0 hos (by rw[HOL.out];omega))).mono ?_
      rintro e w1 ⟨rfl,rfl⟩
      go_wp2
      go_ret
      have ho:=(hrow.own hos (by rw[HOL.out];omega) nrf o.length nrf nrf).trim
      have hle:=limbs_length_le hos
      rw[HOL.out] at ho hle
      rw[List.take_of_length_le (by rw[HOL.out];omega),HF.out] at ho
      rw[HF.out] at hle
      exact⟨_,_,by rw[HF.out];rfl,hle,ho,hbl⟩
end Bg
namespace Bg
def SmallAns (w:World) (v d:Nat) (e:Ending) (w':World):Prop:=
 ∃A c,e=.returned (.tuple #[.slice A (limbs (v/d)).length c,.int .u32 ((v%d:Nat):Int)])∧(limbs (v/d)).length≤c∧Own w' 153 w.heap.size A c (limbs (v/d))∧Below w.heap.size w w'
theorem big_divSmall (A:Option Addr) (l:List Nat) (n c:Nat) (hn:n=l.length) (hl16:l.length≤1000000) (d:Nat) (hd0:0<d) (hd:d<4294967296) (w:World) (h:Rd w A l):
 Calls Tryz.prog 205 #[.slice A n c,.int .u32 (d:Int)] w (SmallAns w (val l) d):=by
 subst hn
 have hmk:=fun W=>mk32 l.length (l.length:Int) rfl (by omega) W
 have hdn:¬d=0:=by omega
 have hdi:((d:Int)==0)=false:=by rw[beq_eq_false_iff_ne];omega
 go_enter Tryz.func205,Tryz.ntmps205
 go_wp2
 go_loopw [7,8] (fun r i wr=>∃(k:Nat) (o:List Nat) (q:Nat),k≤l.length∧i=.int .i64 ((k:Int)-1)∧r=.int .u64 (q:Int)∧q<d∧o.length=l.length∧Sm o∧val (l.drop k)=d*val (o.drop k)+q∧Row wr 153 w.heap.size o∧Below w.heap.size w wr) (fun _ i _=>(intOf i+1).toNat)
 case atStart=>
  refine⟨l.length,List.replicate l.length 0,0,Nat.le_refl _,rfl,rfl,hd0,by simp,Sm.replicate _,?_,row_new rfl rfl,bbel⟩
  rw[List.drop_length,List.drop_of_length_le (by simp)];rfl
 case round=>
  obtain⟨wo,rfl⟩:∃wo:World,wo=wr:=⟨_,rfl⟩
  obtain⟨k,o,q,hk,rfl,rfl,hq,hlen,hso,hv,hrow,hbl⟩:=hrel
  have HV:=Lib.hid hv
  have HLEN:=Lib.hid hlen
  clear hv hlen
  by_cases hk0:k=0
  · subst hk0
    obtain⟨e1,e2⟩:=over_div HV.out hq
    have hq16:q<4294967296:=by omega
    have E1:=Lib.hid e1
    have E2:=Lib.hid e2
    clear e1 e2
    go_wp2_with fail
    refine(big_trim _ o _ l.length HLEN.out.symm nrf _ (hrow.rd0 hso (by rw[HLEN.out];omega))).mono ?_
    rintro e w1 ⟨rfl,rfl⟩
    go_wp2
    go_ret2
    have ho:=(hrow.own hso (by rw[HLEN.out];omega) nrf o.length nrf nrf).trim
    have hle:=limbs_length_le hso
    rw[HLEN.out] at ho hle
    rw[List.take_of_length_le (by rw[HLEN.out];omega),E1.out] at ho
    rw[E1.out] at hle
    exact⟨_,_,by rw[E1.out, ←E2.out];rfl,hle,ho,hbl⟩
  · obtain⟨k,rfl⟩:∃j,k=j+1:=⟨k-1,by omega⟩
    obtain⟨b,off,rfl,hc1⟩:=rd_at h hbl (k:=k) (by omega)
    have hlt:=h.sm.nth k
    have hcw:=hrow.cell k (by rw[HLEN.out];omega)
    have hfz:=hrow.frozen k
    have hor:=or_low32 q (nth l k) (by omega) hlt
    have hst:=over_step (by rw[HLEN.out];omega) hd0 HV.out
    obtain⟨T,hT⟩:∃T,T=q*4294967296+nth l k:=⟨_,rfl⟩
    have hT16:T<d*4294967296:=by
     have:=Nat.mul_le_mul_right 4294967296 (show q+1≤d from hq);omega
    have hT64:T<18446744073709551616:=by omega
    have hQ:T/d<4294967296:=(Nat.div_lt_iff_lt_mul hd0).2 (by rw[Nat.mul_comm];exact hT16)
    have hM:T%d<d:=Nat.mod_lt _ hd0
    rw[←hT] at hor hst
    obtain⟨qq,hqq⟩:∃z,z=T/d:=⟨_,rfl⟩
    obtain⟨rr,hrr⟩:∃z,z=T%d:=⟨_,rfl⟩
    rw[←hqq] at hQ hst
    rw[←hrr] at hM hst
    have HST:=Lib.hid hst
    have q1:(T:Int).tdiv (d:Int)=(qq:Int):=by rw[hqq];rfl
    have q2:(T:Int).tmod (d:Int)=(rr:Int):=by rw[hrr];rfl
    have q3:(T:Int)/(d:Int)=(qq:Int):=by rw[hqq];rfl
    have q4:(T:Int)%(d:Int)=(rr:Int):=by rw[hrr];rfl
    clear hst hqq hrr hT
    go_wp2
    go_roundw
    case rel=>
     exact⟨k,o.set k qq,rr,by omega,by go_num,rfl,hM,by simp[HLEN.out],hso.set _ _ hQ,HST.out,hrow.setE _ _ rfl,bbel⟩
    case measure=>first|(simp[intOf];done)|(simp[intOf];omega)
end Bg
namespace Bg

def tz (v:Nat):Nat:=if v=0 then 0 else Lib.ctzFrom v v
theorem odd_uniq {k j a b:Nat} (h:2^k*(2*a+1)=2^j*(2*b+1)):k=j:=by
 have key:∀{k j a b:Nat},k<j→2^k*(2*a+1)=2^j*(2*b+1)→False:=by
  intro k j a b hlt h
  obtain⟨d,rfl⟩:∃d,j=k+(d+1):=⟨j-k-1,by omega⟩
  rw[Nat.pow_add,Nat.mul_assoc] at h
  have h2:=Nat.mul_left_cancel (Nat.two_pow_pos k) h
  rw[Nat.pow_succ,Nat.mul_assoc,Nat.mul_left_comm] at h2
  omega
 rcases Nat.lt_trichotomy k j with hl|hl|hl
 · exact(key hl h).elim
 · exact hl
 · exact(key hl h.symm).elim
theorem tz_spec {v:Nat} (h0:v≠0):∃m,v=2^tz v*(2*m+1):=by
 unfold tz
 rw[if_neg h0]
 obtain⟨m,hm,_⟩:=Lib.ctzFrom_spec v v (Nat.pos_of_ne_zero h0) Nat.lt_two_pow_self
 exact⟨m,hm⟩
theorem tz_of {v k m:Nat} (h:v=2^k*(2*m+1)):tz v=k:=by
 have h0:v≠0:=by
  rw[h];exact Nat.pos_iff_ne_zero.1 (Nat.mul_pos (Nat.two_pow_pos k) (by omega))
 obtain⟨m',hm'⟩:=tz_spec h0
 exact odd_uniq (hm'.symm.trans h)
theorem bl_shift {x k:Nat} (h:x≠0):bitLen (x*2^k)=bitLen x+k:=by
 have h0:x*2^k≠0:=Nat.pos_iff_ne_zero.1 (Nat.mul_pos (Nat.pos_of_ne_zero h) (Nat.two_pow_pos k))
 unfold bitLen
 rw[if_neg h,if_neg h0]
 have h1:=Nat.log2_self_le h
 have h2:x<2^(x.log2+1):=Nat.lt_log2_self
 have:(x*2^k).log2=x.log2+k:=by
  rw[Nat.log2_eq_iff h0]
  refine⟨?_,?_⟩
  · rw[Nat.pow_add];exact Nat.mul_le_mul_right _ h1
  · rw[show x.log2+k+1=x.log2+1+k by omega,Nat.pow_add];exact(Nat.mul_lt_mul_right (Nat.two_pow_pos k)).2 h2
 omega
theorem pow2_iff {v:Nat} (h0:v≠0):tz v+1=bitLen v↔v=2^tz v:=by
 obtain⟨m,hm⟩:=tz_spec h0
 have hb:bitLen v=bitLen (2*m+1)+tz v:=by
  have e:=bl_shift (x:=2*m+1) (k:=tz v) (by omega)
  rw[Nat.mul_comm, ←hm] at e
  exact e
 constructor
 · intro h
   have h1:bitLen (2*m+1)=1:=by omega
   unfold bitLen at h1
   rw[if_neg (by omega)] at h1
   have h2:(2*m+1)<2^((2*m+1).log2+1):=Nat.lt_log2_self
   rw[show(2*m+1).log2=0 by omega] at h2
   have:m=0:=by omega
   subst this
   simpa using hm
 · intro h
   have h3:2*m+1=1:=by
    have:2^tz v*(2*m+1)=2^tz v*1:=by rw[←hm,Nat.mul_one];exact h
    exact Nat.mul_left_cancel (Nat.two_pow_pos _) this
   rw[hb,h3]
   have:bitLen 1=1:=by decide
   omega
theorem tz_two (k:Nat):tz (2^k)=k:=tz_of (m:=0) (by simp)
theorem odd_gcd (m d:Nat):Nat.gcd (2*m+1) (2^d)=1:=by
 have h1:Nat.Coprime (2*m+1) 2:=by
  show Nat.gcd (2*m+1) 2=1
  rw[Nat.gcd_comm,Nat.gcd_rec,show(2*m+1)%2=1 by omega]
  decide
 exact h1.pow_right d
theorem gcd_two {v u:Nat} (hu:u≠0) (h:v=2^tz v):Nat.gcd u v=2^min (tz u) (tz v):=by
 obtain⟨m,hm⟩:=tz_spec hu
 obtain⟨k,hk⟩:∃k,k=tz v:=⟨_,rfl⟩
 obtain⟨j,hj⟩:∃j,j=tz u:=⟨_,rfl⟩
 rw[←hk] at h ⊢
 rw[←hj] at hm ⊢
 rw[h,hm]
 clear h hm hk hj hu
 rcases Nat.le_total k j with hl|hl
 · rw[Nat.min_eq_right hl]
   exact Nat.gcd_eq_right (Nat.dvd_trans (Nat.pow_dvd_pow 2 hl) (Nat.dvd_mul_right _ _))
 · rw[Nat.min_eq_left hl]
   obtain⟨d,rfl⟩:∃d,k=j+d:=⟨k-j,by omega⟩
   rw[Nat.pow_add,Nat.gcd_mul_left,odd_gcd,Nat.mul_one]
end Bg
namespace Bg

theorem big_bitLen (A:Option Addr) (l:List Nat) (n c:Nat) (hn:n=l.length) (hl16:l.length≤1000000) (w:World) (h:Rd w A l) (hlast:l.getLast?≠some 0):
 Calls Tryz.prog 159 #[.slice A n c] w fun e w'=>e=.returned (.int .i64 ((bitLen (val l):Nat):Int))∧w=w':=by
 subst hn
 by_cases h0:0<l.length
 · obtain⟨b,off,rfl,hc⟩:=h.open_ h0
   have hc2:=hc (l.length-1) (by omega)
   have hne:nth l (l.length-1)≠0:=by
    rw[last_nth (by intro e;rw[e] at h0;simp at h0)] at hlast;simpa using hlast
   have E:=Lib.hid (bitLen_val h.sm h0 hne)
   have h2:((l.length:Int)==0)=false:=by rw[beq_eq_false_iff_ne];omega
   have hlt:=h.sm.nth (l.length-1)
   have hbl:bitLen (nth l (l.length-1))≤32:=bitLen_le hlt
   have i1:(0:Int)≤(l.length:Int)-1:=by omega
   have i2:(l.length:Int)-1<(l.length:Int):=by omega
   have ecell:w.cell? ⟨b,off+((l.length:Int)-1).toNat,none⟩=some (.int .u32 ((nth l (l.length-1):Nat):Int)):=by
    rw[show((l.length:Int)-1).toNat=l.length-1 by omega];exact hc2
   obtain⟨X,hX⟩:∃X,X=nth l (l.length-1):=⟨_,rfl⟩
   rw[←hX] at hc2 hlt hbl E ecell
   clear hlast hne hc hX
   go_enter Tryz.func159,Tryz.ntmps159
   go_wp2_with fail
   refine(bits_Len32 (X:Int) _ (by omega) (by omega)).mono ?_
   rintro e w1 ⟨rfl,rfl⟩
   rw[Int.toNat_natCast]
   go_wp2
   go_ret
   exact⟨ret_int (by rw[E.out];omega),rfl⟩
 · obtain rfl:l=[]:=List.eq_nil_of_length_eq_zero (by omega)
   go_enter Tryz.func159,Tryz.ntmps159
   go_wp2
   go_ret
   exact⟨rfl,rfl⟩

def Tz (w:World):Prop:=∀j,j<Lib.deBruijn32tab.length→w.cell? ⟨5,j,none⟩=some (.int .u8 ((Lib.deBruijn32tab.getD j 0:Nat):Int))
theorem Tz.below {w w':World} (h:Tz w) (hb:Below w.heap.size w w'):Tz w':=fun j hj=>(hb.cell (cell_lt (h j hj))).trans (h j hj)
theorem tz_key (x a:Nat) (hx:x<4294967296) (hx0:x≠0) (hlow:x &&& (4294967296-x)=a):
 bits BinOp.and IntKind.u32 (x:Int) (-(x:Int)%4294967296)*125613361%4294967296/134217728=((a*125613361%4294967296/134217728:Nat):Int):=by
 have e1: -(x:Int)%4294967296=((4294967296-x:Nat):Int):=by omega
 rw[e1,u32_and_nat x _ hx (by omega),hlow]
 omega
theorem tz_core (x k idx:Nat) (w:World) (hx0:((x:Int)==0)=false)
 (key:bits BinOp.and IntKind.u32 (x:Int) (-(x:Int)%4294967296)*125613361%4294967296/134217728=(idx:Int))
 (hi:idx<32) (hk:k<32) (hcell:w.cell? ⟨5,idx,none⟩=some (.int .u8 (k:Int))):
 Calls Tryz.prog 229 #[.int .u32 (x:Int)] w fun e w'=>e=.returned (.int .i64 (k:Int))∧w'=w:=by
 go_enter Tryz.func229,Tryz.ntmps229
 go_wp2_with (simp only[key])
 go_ret
 exact⟨rfl,rfl⟩
theorem bits_tz (x:Nat) (hx:x<4294967296) (hx0:x≠0) (w:World) (hT:Tz w):
 Calls Tryz.prog 229 #[.int .u32 (x:Int)] w fun e w'=>e=.returned (.int .i64 ((Lib.ctz 32 x:Nat):Int))∧w'=w:=by
 obtain⟨hlow,hk⟩:=Lib.lowest_bit 32 x hx0 hx
 obtain⟨hi,htab⟩:=Lib.deBruijn32_at _ hk
 have hcell:=hT _ hi
 rw[htab] at hcell
 exact tz_core x _ _ w (by simp;omega) (tz_key x _ hx hx0 hlow) hi hk hcell
theorem take_zeros (l:List Nat) (k:Nat) (hz:∀j,j<k→nth l j=0):val (l.take k)=0:=by
 induction k with
 |zero=>simp[val]
 |succ k ih=>rw[val_take_succ',ih (fun j hj=>hz j (by omega)),hz k (by omega),Nat.mul_zero]
theorem tz_words {l:List Nat} (k:Nat) (hk:k<l.length) (hs:Sm l) (hz:∀j,j<k→nth l j=0) (h:nth l k≠0):tz (val l)=32*k+Lib.ctz 32 (nth l k):=by
 have hlt:=hs.nth k
 have e1:val l=4294967296^k*val (l.drop k):=by
  rw[val_split l k (by omega),take_zeros l k hz,Nat.zero_add]
 rw[val_drop_nth] at e1
 obtain⟨m,hm,hc⟩:=Lib.ctzFrom_spec 32 (nth l k) (by omega) hlt
 have hctz:Lib.ctz 32 (nth l k)=Lib.ctzFrom 32 (nth l k):=by unfold Lib.ctz;rw[if_neg h]
 rw[hctz]
 generalize Lib.ctzFrom 32 (nth l k)=j at*
 obtain⟨d,hd⟩:∃d,31=j+d:=⟨31-j,by omega⟩
 refine tz_of (m:=m+2^d*val (l.drop (k+1))) ?_
 rw[e1,show(4294967296:Nat)^k=2^(32*k) by rw[Nat.pow_mul],Nat.pow_add,Nat.mul_assoc]
 congr 1
 have e2:(4294967296:Nat)=2^j*(2*2^d):=by
  rw[Nat.mul_left_comm, ←Nat.pow_add, ←hd]
 conv=>lhs;rw[hm,e2]
 rw[Nat.mul_assoc (2^j), ←Nat.mul_add]
 congr 1
 rw[Nat.mul_add,Nat.mul_assoc]
 omega
theorem big_zeros (A:Option Addr) (l:List Nat) (n c:Nat) (hn:n=l.length) (hl16:l.length≤1000000) (w:World) (h:Rd w A l) (hlast:l.getLast?≠some 0) (hT:Tz w):
 Calls Tryz.prog 198 #[.slice A n c] w fun e w'=>e=.returned (.int .i64 ((tz (val l):Nat):Int))∧w=w':=by
 subst hn
 by_cases h0:l.length=0
 · obtain rfl:l=[]:=List.eq_nil_of_length_eq_zero h0
   go_enter Tryz.func198,Tryz.ntmps198
   go_wp2
   go_loop [3] (fun i=>i=.int .i64 0) (fun i=>0)
   case atStart=>rfl
   case round=>
    subst hrel
    go_wp2
    go_ret
    exact⟨rfl,rfl⟩
 · have HLAST:Hid (nth l (l.length-1)≠0):=by
    show _≠_
    rw[last_nth (by intro e;rw[e] at h0;simp at h0)] at hlast;simpa using hlast
   clear hlast h0
   have HT:=Lib.hid hT
   clear hT
   go_enter Tryz.func198,Tryz.ntmps198
   go_wp2
   go_loop [3] (fun i=>∃k:Nat,k<l.length∧i=.int .i64 (k:Int)∧(∀j,j<k→nth l j=0)) (fun i=>l.length-(intOf i).toNat)
   case atStart=>
    refine⟨0,?_,rfl,fun j hj=>by omega⟩
    rcases Nat.eq_zero_or_pos l.length with h1|h1
    · exfalso;exact HLAST.out (nth_ge _ (by omega))
    · exact h1
   case round=>
    obtain⟨k,hk,rfl,hz⟩:=hrel
    have HZ:=Lib.hid hz
    clear hz
    obtain⟨b,o,rfl,hc1⟩:=h.open_ (by omega)
    have hc2:=hc1 k hk
    clear hc1
    by_cases h3:nth l k=0
    · have hkl:k+1<l.length:=by
       apply Nat.lt_of_not_le
       intro hc
       exact HLAST.out (by rw[show l.length-1=k by omega];exact h3)
      rw[h3] at hc2
      have E:Hid (∀j,j<k+1→nth l j=0):=fun j hj=>by
       rcases Nat.lt_or_ge j k with h4|h4
       · exact HZ.out j h4
       · have:j=k:=by omega
         rw[this];exact h3
      clear h3
      go_wp2
      go_round
      case rel=>exact⟨k+1,hkl,by go_num,E.out⟩
      case measure=>first|(simp[intOf];done)|(simp[intOf];omega)
    · have E:=Lib.hid (tz_words k hk h.sm HZ.out h3)
      have hlt:=h.sm.nth k
      have hct:Lib.ctz 32 (nth l k)<32:=(Lib.lowest_bit 32 _ h3 hlt).2
      have h3':(((nth l k:Nat):Int)==0)=false:=by simp;exact h3
      have hkl2:((k:Int)==(l.length:Int))=false:=by simp;omega
      have HB:=fun W hT=>bits_tz (nth l k) hlt h3 W hT
      clear h3
      go_wp2_with fail
      refine(HB _ HT.out).mono ?_
      rintro e w1 ⟨rfl,rfl⟩
      clear HB
      go_wp2
      go_ret
      exact⟨ret_int (by rw[E.out];omega),rfl⟩
theorem big_one (A:Option Addr) (l:List Nat) (n c:Nat) (hn:n=l.length) (w:World) (h:Rd w A l):
 Calls Tryz.prog 202 #[.slice A n c] w fun e w'=>e=.returned (.bool (decide (l=[1])))∧w=w':=by
 subst hn
 have hl:=h.len
 by_cases h1:l.length=1
 · obtain⟨b,o,rfl,hc⟩:=h.open_ (by omega)
   have hc0:=hc 0 (by omega)
   rw[Nat.add_zero] at hc0
   clear hc
   obtain⟨x,rfl⟩:∃x,l=[x]:=by
    match l,h1 with
    |[x],_=>exact⟨x,rfl⟩
   rw[show nth [x] 0=x from rfl] at hc0
   by_cases hx:x=1
   · subst hx
     go_enter Tryz.func202,Tryz.ntmps202
     go_wp2
     go_ret
     exact⟨rfl,rfl⟩
   · have hx2:((x:Int)==1)=false:=by simp;omega
     have e:decide ([x]=[1])=false:=by simp;exact hx
     rw[e]
     clear hx
     go_enter Tryz.func202,Tryz.ntmps202
     go_wp2
     go_ret
     exact⟨rfl,rfl⟩
 · have e:decide (l=[1])=false:=by
    rw[decide_eq_false_iff_not];rintro rfl;exact h1 rfl
   have hg:((l.length:Int)==1)=false:=by simp;omega
   rw[e]
   clear h1
   go_enter Tryz.func202,Tryz.ntmps202
   go_wp2
   go_ret
   exact⟨rfl,rfl⟩
end Bg

theorem limbs_mono {x y:Nat} (h:x≤y):(limbs x).length≤(limbs y).length:=by
 rw[length_limbs_le]
 have:=val_lt (sm_limbs y)
 rw[val_limbs] at this
 omega
theorem limbs_low {x:Nat} (h:x≠0):4294967296^((limbs x).length-1)≤x:=by
 have:=val_pos_of_last (l:=limbs x) (by rw[ne_eq,limbs_eq_nil];exact h) (last_limbs x)
 rw[val_limbs] at this;exact this
theorem limbs_pos {x:Nat} (h:x≠0):0<(limbs x).length:=List.length_pos_iff.2 (by rw[ne_eq,limbs_eq_nil];exact h)
theorem limbs_mul_len {x y:Nat} (hx:x≠0) (hy:y≠0):(limbs x).length+(limbs y).length≤(limbs (x*y)).length+1:=by
 have h1:=limbs_low hx
 have h2:=limbs_low hy
 have p1:=limbs_pos hx
 have p2:=limbs_pos hy
 have h3:=Nat.mul_le_mul h1 h2
 rw[←Nat.pow_add] at h3
 rcases Nat.lt_or_ge ((limbs (x*y)).length+1) ((limbs x).length+(limbs y).length) with h|h
 · exfalso
   have h4:(limbs (x*y)).length≤(limbs x).length-1+((limbs y).length-1):=by omega
   rw[length_limbs_le] at h4
   omega
 · exact h
theorem limbs_mul_le (x y:Nat):(limbs (x*y)).length≤(limbs x).length+(limbs y).length:=by
 rw[length_limbs_le,Nat.pow_add]
 have h1:=val_lt (sm_limbs x)
 have h2:=val_lt (sm_limbs y)
 rw[val_limbs] at h1 h2
 exact Nat.mul_lt_mul'' h1 h2
theorem mulS_limbs {x y:Nat} (hx:(limbs x).length≤16384) (hy:(limbs y).length≤16384):mulS (limbs x) (limbs y)=fitS (x*y):=by
 unfold mulS
 have h1:chk2 (limbs x) (limbs y)=0:=by unfold chk2;rw[if_pos (chk_limbs_of hx)];exact chk_limbs_of hy
 rw[if_pos h1,val_limbs,val_limbs]
 by_cases h2:16385<(limbs x).length+(limbs y).length
 · rw[if_pos h2]
   have hx0:x≠0:=by rintro rfl;simp[limbs_zero] at h2;omega
   have hy0:y≠0:=by rintro rfl;simp[limbs_zero] at h2;omega
   have:=limbs_mul_len hx0 hy0
   unfold fitS
   rw[if_pos (by omega)]
 · rw[if_neg h2]
theorem fitS_ok {x:Nat} (h:(limbs x).length≤16384):fitS x=(limbs x,0):=by unfold fitS;rw[if_neg (by omega)]
end Go.Proofs.YtenekbfnlbipiaaGreatDoor
