/- Walks of numeralbig: sums, differences, products. -/
import Derived.Test.YtenekbfnlbipiaaGreatDoorBgA
namespace Go.Proofs.YtenekbfnlbipiaaGreatDoor
open Go.RowKit
set_option linter.unusedVariables false
set_option linter.unusedSimpArgs false
set_option maxHeartbeats 4000000
set_option maxRecDepth 100000
namespace Bg

theorem big_plain (A B:Option Addr) (a b:List Nat) (n m c d:Nat) (hn:n=a.length) (hm:m=b.length) (ha16:a.length+b.length≤1000000) (w:World) (ha:Rd w A a) (hb:Rd w B b):
 Calls Tryz.prog 150 #[.slice A n c,.slice B m d] w (LimbsOne w (val a*val b)):=by
 subst hn hm
 have hmk:=fun W=>mk32 (a.length+b.length) ((a.length:Int)+(b.length:Int)) (by omega) (by omega) W
 go_enter Tryz.func150,Tryz.ntmps150
 go_wp2
 go_loopw [6] (fun i wr=>∃(k:Nat) (o:List Nat),k≤a.length∧i=.int .i64 (k:Int)∧o.length=a.length+b.length∧Sm o∧(∀j,k+b.length≤j→nth o j=0)∧val o=val (a.take k)*val b∧Row wr 153 w.heap.size o∧Below w.heap.size w wr) (fun i _=>a.length-(intOf i).toNat)
 case atStart=>
  exact⟨0,List.replicate (a.length+b.length) 0,Nat.zero_le _,rfl,by simp,Sm.replicate _,fun j _=>nth_replicate _ _,by rw[val_replicate];simp[val],row_new rfl rfl,bbel⟩
 case round=>
  obtain⟨wo,rfl⟩:∃wo:World,wo=wr:=⟨_,rfl⟩
  obtain⟨i,o,hi,rfl,hol,hos,hoz,hov,hrow,hbl⟩:=hrel
  have HOL:=Lib.hid hol
  have HOZ:=Lib.hid hoz
  have HOV:=Lib.hid hov
  clear hol hoz hov
  by_cases hi1:i<a.length
  · obtain⟨ba,oa,rfl,hca⟩:=rd_at ha hbl (k:=i) (by omega)
    have hx:=ha.sm.nth i
    go_wp2
    go_loopw [7,9] (fun v7 v9 wr=>RowRel w w.heap.size a b i (a.length+b.length) (val o) v7 v9 wr) (fun _ v9 _=>b.length-(intOf v9).toNat)
    case atStart=>
     exact⟨0,0,o,Nat.zero_le _,rfl,rfl,by decide,HOL.out,hos,HOZ.out,by simp[val],hrow,hbl⟩
    case round=>
     obtain⟨k,cy,o2,hk,rfl,rfl,hcy,hol2,hos2,hoz2,hov2,hrow2,hbl2⟩:=hrel
     have HOL2:=Lib.hid hol2
     have HOZ2:=Lib.hid hoz2
     have HOV2:=Lib.hid hov2
     clear hol2 hoz2 hov2
     by_cases hk1:k<b.length
     · obtain⟨bb,ob,rfl,hcb⟩:=rd_at hb hbl2 (k:=k) (by omega)
       have hco:=hrow2.cell (i+k) (by rw[HOL2.out];omega)
       have hfz:=hrow2.frozen (i+k)
       have hy:=hb.sm.nth k
       have ho:=hos2.nth (i+k)
       have hPb:=prod_le hx hy
       obtain⟨P,hP⟩:∃P:Nat,P=nth a i*nth b k:=⟨_,rfl⟩
       rw[←hP] at hPb
       have hPe:((nth a i:Nat):Int)*((nth b k:Nat):Int)=(P:Int):=by rw[hP,Int.natCast_mul]
       have HP:=Lib.hid hP
       have i1:(0:Int)≤(i:Int)+(k:Int):=by omega
       have i2:(i:Int)+(k:Int)<((a.length+b.length:Nat):Int):=by omega
       clear hP
       go_wp2
       go_quiet (fail)
       go_wp2
       go_roundw
       case rel=>
        have st:=row_step (P:=nth a i*nth b k) (by rw[HOL2.out];omega) HOV2.out
        rw[←HP.out] at st
        refine⟨k+1,(P+nth o2 (i+k)+cy)/4294967296,o2.set (i+k) ((P+nth o2 (i+k)+cy)%4294967296),by omega,by go_num,vi (by omega),by omega,by simp[HOL2.out],hos2.set _ _ (by omega),?_,?_,(Row.drewN hrow2 _).setE _ _ (by omega),bbel⟩
        · intro j hj
          rw[nth_set_ne _ _ _ _ (by omega)]
          exact HOZ2.out j hj
        · rw[←Nat.add_assoc,st,val_take_succ',HP.out]
          congr 1
          rw[Nat.pow_add,Nat.mul_add,Nat.mul_add]
          congr 1
          simp only[Nat.mul_assoc,Nat.mul_left_comm]
       case measure=>first|(simp[intOf];done)|(simp[intOf];omega)
     · have hkb:k=b.length:=by omega
       have hco:=hrow2.cell (i+b.length) (by rw[HOL2.out];omega)
       have hfz:=hrow2.frozen (i+b.length)
       have HKB:=Lib.hid hkb
       clear hkb
       go_wp2
       go_roundw
       case rel=>
        have hv:=HOV2.out
        rw[HKB.out,List.take_length] at hv
        have hz0:=HOZ2.out (i+b.length) nrf
        have hs:=val_set o2 (i+b.length) cy (by rw[HOL2.out];omega)
        refine⟨i+1,o2.set (i+b.length) cy,by omega,by go_num,by simp[HOL2.out],hos2.set _ _ hcy,?_,?_,hrow2.setE _ _ (by omega),bbel⟩
        · intro j hj
          rw[nth_set_ne _ _ _ _ (by omega)]
          exact HOZ2.out j (by omega)
        · rw[hz0,Nat.mul_zero,Nat.add_zero] at hs
          rw[hs,hv,HOV.out,val_take_succ',Nat.add_mul,Nat.mul_assoc]
       case measure=>first|(simp[intOf];done)|(simp[intOf];omega)
  · have hia:i=a.length:=by omega
    have hfin:val o=val a*val b:=by rw[HOV.out,hia,List.take_length]
    have HF:=Lib.hid hfin
    clear hfin hia
    go_wp2_with fail
    refine(big_trim _ o _ (a.length+b.length) HOL.out.symm nrf _ (hrow.rd0 hos (by rw[HOL.out];omega))).mono ?_
    rintro e w1 ⟨rfl,rfl⟩
    go_wp2
    go_ret
    have ho:=(hrow.own hos (by rw[HOL.out];omega) nrf o.length nrf nrf).trim
    have hle:=limbs_length_le hos
    rw[HOL.out] at ho hle
    rw[List.take_of_length_le (by rw[HOL.out];omega),HF.out] at ho
    rw[HF.out] at hle
    exact⟨_,_,by rw[HF.out];rfl,hle,ho,hbl⟩

theorem add_step {o:List Nat} {k cy x y u v:Nat} (hk:k<o.length) (hz:nth o k=0) (h:val o+4294967296^k*cy=u+v):
 val (o.set k ((x+cy+y)%4294967296))+4294967296^(k+1)*((x+cy+y)/4294967296)=u+4294967296^k*x+(v+4294967296^k*y):=by
 have h1:=val_set o k ((x+cy+y)%4294967296) hk
 rw[hz,Nat.mul_zero,Nat.add_zero] at h1
 have h2:=Nat.mod_add_div (x+cy+y) 4294967296
 rw[h1,Nat.pow_succ,Nat.mul_assoc,Nat.add_assoc, ←Nat.mul_add,h2,Nat.mul_add,Nat.mul_add]
 omega
theorem big_add (A B:Option Addr) (a b:List Nat) (n m c d:Nat) (hn:n=a.length) (hm:m=b.length) (hl:a.length+b.length≤1000000) (w:World) (ha:Rd w A a) (hb:Rd w B b):
 Calls Tryz.prog 152 #[.slice A n c,.slice B m d] w (LimbsOne w (val a+val b)):=by
 subst hn hm
 by_cases hab:a.length<b.length
 · rw[Nat.add_comm (val a)]
   have hmk:=fun W=>mk32 (b.length+1) ((b.length:Int)+1) (by omega) (by omega) W
   go_enter Tryz.func152,Tryz.ntmps152
   go_wp2
   go_loopw [6,7] (fun v6 v7 wr=>∃(k cy:Nat) (o:List Nat),k≤b.length∧v7=.int .i64 (k:Int)∧v6=.int .u64 (cy:Int)∧cy≤1∧o.length=b.length+1∧Sm o∧(∀j,k≤j→nth o j=0)∧val o+4294967296^k*cy=val (b.take k)+val (a.take k)∧Row wr 153 w.heap.size o∧Below w.heap.size w wr) (fun _ v7 _=>b.length-(intOf v7).toNat)
   case atStart=>
    exact⟨0,0,List.replicate (b.length+1) 0,Nat.zero_le _,rfl,rfl,by decide,by simp,Sm.replicate _,fun j _=>nth_replicate _ _,by rw[val_replicate];simp[val],row_new rfl rfl,bbel⟩
   case round=>
    obtain⟨k,cy,o,hk,rfl,rfl,hcy,hol,hos,hoz,hov,hrow,hbl⟩:=hrel
    have HOL:=Lib.hid hol
    have HOZ:=Lib.hid hoz
    have HOV:=Lib.hid hov
    clear hol hoz hov
    by_cases hk1:k<b.length
    · obtain⟨ba,oa,rfl,hca⟩:=rd_at hb hbl (k:=k) hk1
      have hx:=hb.sm.nth k
      have hco:=hrow.cell k (by rw[HOL.out];omega)
      have hfz:=hrow.frozen k
      by_cases hkb:k<a.length
      · obtain⟨bb,ob,rfl,hcb⟩:=rd_at ha hbl (k:=k) hkb
        have hy:=ha.sm.nth k
        go_wp2
        go_roundw
        case rel=>
         have st:=add_step (x:=nth b k) (y:=nth a k) (cy:=cy) (by rw[HOL.out];omega) (HOZ.out k nrf) HOV.out
         refine⟨k+1,(nth b k+cy+nth a k)/4294967296,o.set k ((nth b k+cy+nth a k)%4294967296),by omega,by go_num,vi (by omega),by omega,by simp[HOL.out],hos.set _ _ (by omega),?_,?_,hrow.setE _ _ (by omega),bbel⟩
         · intro j hj
           rw[nth_set_ne _ _ _ _ (by omega)]
           exact HOZ.out j (by omega)
         · rw[val_take_succ',val_take_succ'];exact st
        case measure=>first|(simp[intOf];done)|(simp[intOf];omega)
      · have hy0:nth a k=0:=nth_ge _ (by omega)
        have HY:=Lib.hid hy0
        clear hy0
        go_wp2
        go_roundw
        case rel=>
         have st:=add_step (x:=nth b k) (y:=nth a k) (cy:=cy) (by rw[HOL.out];omega) (HOZ.out k nrf) HOV.out
         refine⟨k+1,(nth b k+cy+nth a k)/4294967296,o.set k ((nth b k+cy+nth a k)%4294967296),by omega,by go_num,vi (by rw[HY.out];omega),by rw[HY.out];omega,by simp[HOL.out],hos.set _ _ (by omega),?_,?_,hrow.setE _ _ (by rw[HY.out];omega),bbel⟩
         · intro j hj
           rw[nth_set_ne _ _ _ _ (by omega)]
           exact HOZ.out j (by omega)
         · rw[val_take_succ',val_take_succ'];exact st
        case measure=>first|(simp[intOf];done)|(simp[intOf];omega)
    · have hka:k=b.length:=by omega
      have hco:=hrow.cell b.length (by rw[HOL.out];omega)
      have hfz:=hrow.frozen b.length
      have hfin:val (o.set b.length cy)=val b+val a:=by
       have h1:=val_set o b.length cy (by rw[HOL.out];omega)
       have h2:=HOV.out
       rw[HOZ.out _ (by omega),Nat.mul_zero,Nat.add_zero] at h1
       rw[hka,List.take_length,List.take_of_length_le (by omega)] at h2
       omega
      have hos2:Sm (o.set b.length cy):=hos.set _ _ (by omega)
      have hol2:(o.set b.length cy).length=b.length+1:=by simp[HOL.out]
      have HF:=Lib.hid hfin
      have HL2:=Lib.hid hol2
      have hrow2:=hrow.set_ b.length cy
      have hbl2:Below w.heap.size w (wr.setCell ⟨w.heap.size,b.length,none⟩ (.int .u32 (cy:Int))):=hbl.setCell nrf _
      subst hka
      clear hfin hol2
      go_wp2_with fail
      refine(big_trim _ (o.set b.length cy) _ (b.length+1) HL2.out.symm nrf _ (hrow2.rd0 hos2 (by rw[HL2.out];omega))).mono ?_
      rintro e w1 ⟨rfl,rfl⟩
      go_wp2
      go_ret
      have ho:=(hrow2.own hos2 (by rw[HL2.out];omega) nrf (o.set b.length cy).length nrf nrf).trim
      have hle:=limbs_length_le hos2
      rw[HL2.out] at ho hle
      rw[List.take_of_length_le (by rw[HL2.out];omega),HF.out] at ho
      rw[HF.out] at hle
      exact⟨_,_,by rw[HF.out];rfl,hle,ho,hbl2⟩
 · have hmk:=fun W=>mk32 (a.length+1) ((a.length:Int)+1) (by omega) (by omega) W
   go_enter Tryz.func152,Tryz.ntmps152
   go_wp2
   go_loopw [6,7] (fun v6 v7 wr=>∃(k cy:Nat) (o:List Nat),k≤a.length∧v7=.int .i64 (k:Int)∧v6=.int .u64 (cy:Int)∧cy≤1∧o.length=a.length+1∧Sm o∧(∀j,k≤j→nth o j=0)∧val o+4294967296^k*cy=val (a.take k)+val (b.take k)∧Row wr 153 w.heap.size o∧Below w.heap.size w wr) (fun _ v7 _=>a.length-(intOf v7).toNat)
   case atStart=>
    exact⟨0,0,List.replicate (a.length+1) 0,Nat.zero_le _,rfl,rfl,by decide,by simp,Sm.replicate _,fun j _=>nth_replicate _ _,by rw[val_replicate];simp[val],row_new rfl rfl,bbel⟩
   case round=>
    obtain⟨k,cy,o,hk,rfl,rfl,hcy,hol,hos,hoz,hov,hrow,hbl⟩:=hrel
    have HOL:=Lib.hid hol
    have HOZ:=Lib.hid hoz
    have HOV:=Lib.hid hov
    clear hol hoz hov
    by_cases hk1:k<a.length
    · obtain⟨ba,oa,rfl,hca⟩:=rd_at ha hbl (k:=k) hk1
      have hx:=ha.sm.nth k
      have hco:=hrow.cell k (by rw[HOL.out];omega)
      have hfz:=hrow.frozen k
      by_cases hkb:k<b.length
      · obtain⟨bb,ob,rfl,hcb⟩:=rd_at hb hbl (k:=k) hkb
        have hy:=hb.sm.nth k
        go_wp2
        go_roundw
        case rel=>
         have st:=add_step (x:=nth a k) (y:=nth b k) (cy:=cy) (by rw[HOL.out];omega) (HOZ.out k nrf) HOV.out
         refine⟨k+1,(nth a k+cy+nth b k)/4294967296,o.set k ((nth a k+cy+nth b k)%4294967296),by omega,by go_num,vi (by omega),by omega,by simp[HOL.out],hos.set _ _ (by omega),?_,?_,hrow.setE _ _ (by omega),bbel⟩
         · intro j hj
           rw[nth_set_ne _ _ _ _ (by omega)]
           exact HOZ.out j (by omega)
         · rw[val_take_succ',val_take_succ'];exact st
        case measure=>first|(simp[intOf];done)|(simp[intOf];omega)
      · have hy0:nth b k=0:=nth_ge _ (by omega)
        have HY:=Lib.hid hy0
        clear hy0
        go_wp2
        go_roundw
        case rel=>
         have st:=add_step (x:=nth a k) (y:=nth b k) (cy:=cy) (by rw[HOL.out];omega) (HOZ.out k nrf) HOV.out
         refine⟨k+1,(nth a k+cy+nth b k)/4294967296,o.set k ((nth a k+cy+nth b k)%4294967296),by omega,by go_num,vi (by rw[HY.out];omega),by rw[HY.out];omega,by simp[HOL.out],hos.set _ _ (by omega),?_,?_,hrow.setE _ _ (by rw[HY.out];omega),bbel⟩
         · intro j hj
           rw[nth_set_ne _ _ _ _ (by omega)]
           exact HOZ.out j (by omega)
         · rw[val_take_succ',val_take_succ'];exact st
        case measure=>first|(simp[intOf];done)|(simp[intOf];omega)
    · have hka:k=a.length:=by omega
      have hco:=hrow.cell a.length (by rw[HOL.out];omega)
      have hfz:=hrow.frozen a.length
      have hfin:val (o.set a.length cy)=val a+val b:=by
       have h1:=val_set o a.length cy (by rw[HOL.out];omega)
       have h2:=HOV.out
       rw[HOZ.out _ (by omega),Nat.mul_zero,Nat.add_zero] at h1
       rw[hka,List.take_length,List.take_of_length_le (by omega)] at h2
       omega
      have hos2:Sm (o.set a.length cy):=hos.set _ _ (by omega)
      have hol2:(o.set a.length cy).length=a.length+1:=by simp[HOL.out]
      have HF:=Lib.hid hfin
      have HL2:=Lib.hid hol2
      have hrow2:=hrow.set_ a.length cy
      have hbl2:Below w.heap.size w (wr.setCell ⟨w.heap.size,a.length,none⟩ (.int .u32 (cy:Int))):=hbl.setCell nrf _
      subst hka
      clear hfin hol2
      go_wp2_with fail
      refine(big_trim _ (o.set a.length cy) _ (a.length+1) HL2.out.symm nrf _ (hrow2.rd0 hos2 (by rw[HL2.out];omega))).mono ?_
      rintro e w1 ⟨rfl,rfl⟩
      go_wp2
      go_ret
      have ho:=(hrow2.own hos2 (by rw[HL2.out];omega) nrf (o.set a.length cy).length nrf nrf).trim
      have hle:=limbs_length_le hos2
      rw[HL2.out] at ho hle
      rw[List.take_of_length_le (by rw[HL2.out];omega),HF.out] at ho
      rw[HF.out] at hle
      exact⟨_,_,by rw[HF.out];rfl,hle,ho,hbl2⟩
end Bg

theorem shl_low (v r x:Nat) (hr:r<32) (hx:x<2^r):bits BinOp.or IntKind.u32 (x:Int) (((v*2^r:Nat):Int)%4294967296)=((x+v*2^r%4294967296:Nat):Int)∧x+v*2^r%4294967296<4294967296:=by
 have e:(4294967296:Nat)=2^r*2^(32-r):=by rw[←Nat.pow_add,show r+(32-r)=32 from by omega]
 have h1:v*2^r%4294967296=2^r*(v%2^(32-r)):=by
  rw[e,Nat.mul_comm v,Nat.mul_mod_mul_left]
 have h2:v%2^(32-r)+1≤2^(32-r):=Nat.mod_lt _ (Nat.two_pow_pos _)
 have h3:2^r*(v%2^(32-r))+2^r≤4294967296:=by
  rw[e, ←Nat.mul_succ];exact Nat.mul_le_mul_left _ h2
 have hlt:v*2^r%4294967296<4294967296:=Nat.mod_lt _ (by decide)
 have e2:(((v*2^r:Nat):Int)%4294967296)=((v*2^r%4294967296:Nat):Int):=by omega
 refine⟨?_,by omega⟩
 rw[e2,u32_or_nat _ _ (by omega) hlt,h1,Nat.or_comm]
 have:=Nat.two_pow_add_eq_or_of_lt (i:=r) (b:=x) hx (v%2^(32-r))
 rw[←this,Nat.add_comm]
theorem shl_high (v r:Nat) (hv:v<4294967296):v*2^r/4294967296<2^r:=by
 rw[Nat.div_lt_iff_lt_mul (by decide),Nat.mul_comm (2^r)]
 exact Nat.mul_lt_mul_of_pos_right hv (Nat.two_pow_pos _)
theorem shf_step {l o:List Nat} {k r:Nat} (hk:k+1<o.length) (hz:nth o (k+1)=0) (h:val o=val (l.take k)*2^r):
 val ((o.set k (nth o k+nth l k*2^r%4294967296)).set (k+1) (nth l k*2^r/4294967296))=val (l.take (k+1))*2^r:=by
 have e:=Nat.mod_add_div (nth l k*2^r) 4294967296
 have h1:=val_set o k (nth o k+nth l k*2^r%4294967296) (by omega)
 have h2:=val_set (o.set k (nth o k+nth l k*2^r%4294967296)) (k+1) (nth l k*2^r/4294967296) (by simp;omega)
 rw[nth_set_ne _ _ _ _ (by omega),hz,Nat.mul_zero,Nat.add_zero] at h2
 rw[h2,val_take_succ',Nat.add_mul, ←h]
 generalize nth l k*2^r%4294967296=s at*
 have h3:val (o.set k (nth o k+s))=val o+4294967296^k*s:=by
  rw[Nat.mul_add] at h1;omega
 rw[h3,Nat.pow_succ,Nat.add_assoc]
 congr 1
 rw[Nat.mul_assoc,Nat.mul_assoc, ←Nat.mul_add,e]

theorem nat_shifted (A:Option Addr) (l:List Nat) (n c:Nat) (hn:n=l.length) (R:Int) (r:Nat) (hR:R=(r:Int)) (hr:r<32) (hl16:l.length≤1000000) (w:World) (h:Rd w A l):
 Calls Tryz.prog 183 #[.slice A n c,.int .i64 R] w (RowSome 153 w fun o=>o.length=l.length+1∧val o=val l*2^r):=by
 subst hn hR
 have hmk:=fun W=>mk32 (l.length+1) ((l.length:Int)+1) (by omega) (by omega) W
 go_enter Tryz.func183,Tryz.ntmps183
 go_wp2
 go_loopw [15] (fun i wr=>∃(k:Nat) (o:List Nat),k≤l.length∧i=.int .i64 (k:Int)∧o.length=l.length+1∧Sm o∧(∀j,k<j→nth o j=0)∧nth o k<2^r∧val o=val (l.take k)*2^r∧Row wr 153 w.heap.size o∧Below w.heap.size w wr) (fun i _=>l.length-(intOf i).toNat)
 case atStart=>
  exact⟨0,List.replicate (l.length+1) 0,Nat.zero_le _,rfl,by simp,Sm.replicate _,fun j _=>nth_replicate _ _,by rw[nth_replicate];exact Nat.two_pow_pos _,by rw[val_replicate];simp[val],row_new rfl rfl,bbel⟩
 case round=>
  obtain⟨k,o,hk,rfl,hol,hos,hoz,hor,hov,hrow,hbl⟩:=hrel
  have HOL:=Lib.hid hol
  have HOZ:=Lib.hid hoz
  have HOV:=Lib.hid hov
  have HOR:=Lib.hid hor
  clear hol hoz hov hor
  by_cases hk1:k<l.length
  · obtain⟨ba,oa,rfl,hca⟩:=rd_at h hbl (k:=k) hk1
    have hx:=h.sm.nth k
    have hco:=hrow.cell k (by rw[HOL.out];omega)
    have hco1:=hrow.cell (k+1) (by rw[HOL.out];omega)
    have hfz:=hrow.frozen k
    have hfz1:=hrow.frozen (k+1)
    obtain⟨P,hP⟩:∃P:Nat,P=nth l k*2^r:=⟨_,rfl⟩
    have hPe:((nth l k:Nat):Int)*2^r=(P:Int):=by rw[hP];push_cast;rfl
    have hPb:P<9223372036854775808:=by
     have h1:2^r≤2^31:=Nat.pow_le_pow_right (by decide) (by omega)
     have h2:=Nat.mul_le_mul (show nth l k≤4294967295 by omega) h1
     rw[hP];omega
    have hor:=shl_low (nth l k) r (nth o k) hr HOR.out
    rw[←hP] at hor
    obtain⟨hor1,hor2⟩:=hor
    have HOR2:=Lib.hid hor2
    have HP:=Lib.hid hP
    clear hP hor2
    go_wp2
    go_roundw
    case rel=>
     have h2:=shl_high (nth l k) r hx
     have h3:=HOR2.out
     have hlt:nth l k*2^r/4294967296<4294967296:=by rw[←HP.out];omega
     refine⟨k+1,(o.set k (nth o k+nth l k*2^r%4294967296)).set (k+1) (nth l k*2^r/4294967296),by omega,by go_num,by simp[HOL.out],(hos.set _ _ (by rw[←HP.out];exact h3)).set _ _ hlt,?_,?_,shf_step (by rw[HOL.out];omega) (HOZ.out _ (by omega)) HOV.out,?_,bbel⟩
     · intro j hj
       rw[nth_set_ne _ _ _ _ (by omega),nth_set_ne _ _ _ _ (by omega)]
       exact HOZ.out j (by omega)
     · rw[nth_set_eq _ _ _ (by simp[HOL.out];omega)];exact h2
     · rw[←HP.out]
       exact(hrow.setE k (nth o k+P%4294967296) (by omega)).setE (k+1) (P/4294967296) (by omega)
    case measure=>first|(simp[intOf];done)|(simp[intOf];omega)
  · have hkl:k=l.length:=by omega
    have hfin:val o=val l*2^r:=by rw[HOV.out,hkl,List.take_length]
    have HF:=Lib.hid hfin
    clear hfin hkl
    go_wp2
    go_ret
    exact⟨o,_,⟨HOL.out,HF.out⟩,hos,Nat.le_refl _,hrow,by rw[HOL.out];rfl,hbl⟩

theorem low_or (a x:Nat) (hx:x<4294967296) (ha:a<4294967296):bits BinOp.or IntKind.u64 ((a:Int)*4294967296) (x:Int)=((a*4294967296+x:Nat):Int):=or_low32 a x ha hx
theorem low_step {l:List Nat} (h:Sm l) (k r:Nat) (hr:r<32):
 (nth l (k+1)*4294967296+nth l k)/2^r%4294967296=val l/2^r/4294967296^k%4294967296:=by
 have e1:val l/2^r/4294967296^k=val (l.drop k)/2^r:=by
  rw[Nat.div_div_eq_div_mul,Nat.mul_comm, ←Nat.div_div_eq_div_mul,val_drop l h]
 have e2:val (l.drop k)=nth l k+4294967296*nth l (k+1)+4294967296*4294967296*val (l.drop (k+2)):=by
  rw[val_drop_nth,val_drop_nth l (k+1),Nat.mul_add, ←Nat.mul_assoc, ←Nat.add_assoc]
 rw[e1,e2]
 have e3:(4294967296:Nat)=2^r*2^(32-r):=by rw[←Nat.pow_add,show r+(32-r)=32 from by omega]
 have e4:nth l k+4294967296*nth l (k+1)+4294967296*4294967296*val (l.drop (k+2))=(nth l (k+1)*4294967296+nth l k)+2^r*(4294967296*(2^(32-r)*val (l.drop (k+2)))):=by
  have:4294967296*4294967296*val (l.drop (k+2))=2^r*(4294967296*(2^(32-r)*val (l.drop (k+2)))):=by
   conv=>lhs;rw[Nat.mul_assoc];arg 1;rw[e3]
   simp only[Nat.mul_assoc,Nat.mul_left_comm]
  omega
 rw[e4,Nat.add_mul_div_left _ _ (Nat.two_pow_pos r),Nat.add_mul_mod_self_left]
theorem val_of_nth {o:List Nat} {v:Nat} (hs:Sm o) (hv:v<4294967296^o.length) (h:∀j,j<o.length→nth o j=v/4294967296^j%4294967296):val o=v:=by
 have key:∀k,k≤o.length→val (o.take k)=v%4294967296^k:=by
  intro k
  induction k with
  |zero=>intro _;simp[val,Nat.mod_one]
  |succ k ih=>
   intro hk
   rw[val_take_succ',ih (by omega),h k (by omega),Nat.pow_succ,Nat.mod_mul]
 have:=key o.length nrf
 rw[List.take_length,Nat.mod_eq_of_lt hv] at this
 exact this

theorem cast_shr (P r:Nat):((P:Int)/2^r)%4294967296=((P/2^r%4294967296:Nat):Int):=by
 rw[Int.natCast_emod,Int.natCast_ediv,Int.natCast_pow];rfl
theorem nat_lowered (A:Option Addr) (l:List Nat) (n c:Nat) (hn:n=l.length) (R:Int) (r:Nat) (hR:R=(r:Int)) (hr:r<32) (hl16:l.length≤1000000) (w:World) (h:Rd w A l):
 Calls Tryz.prog 189 #[.slice A n c,.int .i64 R] w (RowSome 153 w fun o=>o.length=l.length∧val o=val l/2^r):=by
 subst hn hR
 have hmk:=fun W=>mk32 l.length (l.length:Int) (by omega) (by omega) W
 go_enter Tryz.func189,Tryz.ntmps189
 go_wp2
 go_loopw [6,7] (fun ab i wr=>∃(k:Nat) (o:List Nat),k≤l.length∧i=.int .i64 ((k:Int)-1)∧ab=.int .u64 ((nth l k:Nat):Int)∧o.length=l.length∧Sm o∧(∀j,k≤j→j<l.length→nth o j=val l/2^r/4294967296^j%4294967296)∧Row wr 153 w.heap.size o∧Below w.heap.size w wr) (fun _ i _=>(intOf i+1).toNat)
 case atStart=>
  exact⟨l.length,List.replicate l.length 0,Nat.le_refl _,rfl,by rw[nth_ge l nrf];rfl,by simp,Sm.replicate _,fun j h1 h2=>by omega,row_new rfl rfl,bbel⟩
 case round=>
  obtain⟨k,o,hk,rfl,rfl,hol,hos,hoj,hrow,hbl⟩:=hrel
  have HOL:=Lib.hid hol
  have HOJ:=Lib.hid hoj
  clear hol hoj
  by_cases hk0:k=0
  · subst hk0
    have hv:val o=val l/2^r:=by
     refine val_of_nth hos ?_ fun j hj=>HOJ.out j (Nat.zero_le _) (by rw[←HOL.out];exact hj)
     rw[HOL.out]
     exact Nat.lt_of_le_of_lt (Nat.div_le_self _ _) (val_lt h.sm)
    have HV:=Lib.hid hv
    clear hv
    go_wp2
    go_ret
    exact⟨o,_,⟨HOL.out,HV.out⟩,hos,Nat.le_refl _,hrow,by rw[HOL.out];rfl,hbl⟩
  · obtain⟨k,rfl⟩:∃j,k=j+1:=⟨k-1,by omega⟩
    obtain⟨ba,oa,rfl,hca⟩:=rd_at h hbl (k:=k) (by omega)
    have hx:=h.sm.nth k
    have ha:=h.sm.nth (k+1)
    have hco:=hrow.cell k (by rw[HOL.out];omega)
    have hfz:=hrow.frozen k
    have hor:=or_low32 (nth l (k+1)) (nth l k) ha hx
    obtain⟨P,hP⟩:∃P:Nat,P=nth l (k+1)*4294967296+nth l k:=⟨_,rfl⟩
    rw[←hP] at hor
    have hPb:P<18446744073709551616:=by omega
    have HP:=Lib.hid hP
    clear hP
    go_wp2
    go_roundw
    case rel=>
     have st:=low_step h.sm k r hr
     rw[←HP.out] at st
     refine⟨k,o.set k (P/2^r%4294967296),by omega,by go_num,rfl,by simp[HOL.out],hos.set _ _ (Nat.mod_lt _ (by decide)),?_,hrow.setE _ _ (cast_shr P r),bbel⟩
     intro j h1 h2
     by_cases hjk:j=k
     · subst hjk
       rw[nth_set_eq _ _ _ (by rw[HOL.out];exact h2),st]
     · rw[nth_set_ne _ _ _ _ (by omega)]
       exact HOJ.out j (by omega) h2
    case measure=>first|(simp[intOf];done)|(simp[intOf];omega)
namespace Bg

theorem sub_step {o:List Nat} {k bo x y u v:Nat} (hk:k<o.length) (hz:nth o k=0) (hx:x<4294967296) (hy:y<4294967296) (hbo:bo≤1) (h:val o+u=v+4294967296^k*bo):
 ∃r b2,r<4294967296∧b2≤1∧(x<bo+y→b2=1∧r=4294967296+x-bo-y)∧(bo+y≤x→b2=0∧r=x-bo-y)∧val (o.set k r)+(u+4294967296^k*y)=v+4294967296^k*x+4294967296^(k+1)*b2:=by
 have key:∀r b2,bo+y+r=x+4294967296*b2→val (o.set k r)+(u+4294967296^k*y)=v+4294967296^k*x+4294967296^(k+1)*b2:=by
  intro r b2 e
  have h1:=val_set o k r hk
  rw[hz,Nat.mul_zero,Nat.add_zero] at h1
  have e2:=congrArg (4294967296^k* ·) e
  simp only[Nat.mul_add] at e2
  rw[h1,Nat.pow_succ,Nat.mul_assoc]
  omega
 rcases Nat.lt_or_ge x (bo+y) with h1|h1
 · exact⟨4294967296+x-bo-y,1,by omega,Nat.le_refl _,fun _=>⟨rfl,rfl⟩,fun _=>by omega,key _ _ (by omega)⟩
 · exact⟨x-bo-y,0,by omega,by decide,fun _=>by omega,fun _=>⟨rfl,rfl⟩,key _ _ (by omega)⟩
theorem big_sub (A B:Option Addr) (a b:List Nat) (n m c d:Nat) (hn:n=a.length) (hm:m=b.length) (hl:a.length≤1000000) (hlb:b.length≤a.length) (hle:val b≤val a) (w:World) (ha:Rd w A a) (hb:Rd w B b):
 Calls Tryz.prog 153 #[.slice A n c,.slice B m d] w (LimbsOne w (val a-val b)):=by
 subst hn hm
 have hmk:=fun W=>mk32 a.length a.length rfl (by omega) W
 go_enter Tryz.func153,Tryz.ntmps153
 go_wp2
 go_loopw [6,7] (fun v6 v7 wr=>∃(k bo:Nat) (o:List Nat),k≤a.length∧v7=.int .i64 (k:Int)∧v6=.int .u64 (bo:Int)∧bo≤1∧o.length=a.length∧Sm o∧(∀j,k≤j→nth o j=0)∧val o+val (b.take k)=val (a.take k)+4294967296^k*bo∧Row wr 153 w.heap.size o∧Below w.heap.size w wr) (fun _ v7 _=>a.length-(intOf v7).toNat)
 case atStart=>
  exact⟨0,0,List.replicate a.length 0,Nat.zero_le _,rfl,rfl,by decide,by simp,Sm.replicate _,fun j _=>nth_replicate _ _,by rw[val_replicate];simp[val],row_new rfl rfl,bbel⟩
 case round=>
  obtain⟨k,bo,o,hk,rfl,rfl,hbo,hol,hos,hoz,hov,hrow,hbl⟩:=hrel
  have HOL:=Lib.hid hol
  have HOZ:=Lib.hid hoz
  have HOV:=Lib.hid hov
  clear hol hoz hov
  by_cases hk1:k<a.length
  · obtain⟨ba,oa,rfl,hca⟩:=rd_at ha hbl (k:=k) hk1
    have hx:=ha.sm.nth k
    have hco:=hrow.cell k (by rw[HOL.out];omega)
    have hfz:=hrow.frozen k
    by_cases hkb:k<b.length
    · obtain⟨bb,ob,rfl,hcb⟩:=rd_at hb hbl (k:=k) hkb
      have hy:=hb.sm.nth k
      go_wp2
      go_roundw
      case rel=>
       have st:=sub_step (x:=nth a k) (y:=nth b k) (by rw[HOL.out];omega) (HOZ.out k nrf) hx hy hbo HOV.out
       obtain⟨r,b2,h1,h2,h3,h4,h5⟩:=st
       refine⟨k+1,b2,o.set k r,by omega,by go_num,vi ?_,h2,by simp[HOL.out],hos.set _ _ h1,?_,?_,hrow.setE _ _ ?_,bbel⟩
       · clear h5;simp only[IntKind.wrap_u64];omega
       · intro j hj
         rw[nth_set_ne _ _ _ _ (by omega)]
         exact HOZ.out j (by omega)
       · rw[val_take_succ',val_take_succ'];exact h5
       · clear h5;simp only[IntKind.wrap_u64,IntKind.wrap_u32];omega
      case measure=>first|(simp[intOf];done)|(simp[intOf];omega)
    · have hy0:nth b k=0:=nth_ge _ (by omega)
      have HY:=Lib.hid hy0
      clear hy0
      go_wp2
      go_roundw
      case rel=>
       have st:=sub_step (x:=nth a k) (y:=nth b k) (by rw[HOL.out];omega) (HOZ.out k nrf) hx (by rw[HY.out];decide) hbo HOV.out
       obtain⟨r,b2,h1,h2,h3,h4,h5⟩:=st
       have hy0:=HY.out
       refine⟨k+1,b2,o.set k r,by omega,by go_num,vi ?_,h2,by simp[HOL.out],hos.set _ _ h1,?_,?_,hrow.setE _ _ ?_,bbel⟩
       · clear h5;simp only[IntKind.wrap_u64];omega
       · intro j hj
         rw[nth_set_ne _ _ _ _ (by omega)]
         exact HOZ.out j (by omega)
       · rw[val_take_succ',val_take_succ'];exact h5
       · clear h5;simp only[IntKind.wrap_u64,IntKind.wrap_u32];omega
      case measure=>first|(simp[intOf];done)|(simp[intOf];omega)
  · have hka:k=a.length:=by omega
    have hfin:val o=val a-val b:=by
     have h2:=HOV.out
     rw[hka,List.take_length,List.take_of_length_le hlb] at h2
     have h3:=val_lt hos
     rw[HOL.out] at h3
     rcases Nat.lt_or_ge 0 bo with h4|h4
     · have:bo=1:=by omega
       subst this
       rw[Nat.mul_one] at h2
       omega
     · have:bo=0:=by omega
       subst this
       rw[Nat.mul_zero] at h2
       omega
    have HF:=Lib.hid hfin
    clear hfin
    subst hka
    go_wp2_with fail
    refine(big_trim _ o _ a.length HOL.out.symm nrf _ (hrow.rd0 hos (by rw[HOL.out];omega))).mono ?_
    rintro e w1 ⟨rfl,rfl⟩
    go_wp2
    go_ret
    have ho:=(hrow.own hos (by rw[HOL.out];omega) nrf o.length nrf nrf).trim
    have hle:=limbs_length_le hos
    rw[HOL.out] at ho hle
    rw[List.take_of_length_le (by rw[HOL.out];omega),HF.out] at ho
    rw[HF.out] at hle
    exact⟨_,_,by rw[HF.out];rfl,hle,ho,hbl⟩
theorem big_mul (A B:Option Addr) (a b:List Nat) (n m c d:Nat) (hn:n=a.length) (hm:m=b.length) (hl:a.length+b.length≤1000000) (hs:a.length<40∨b.length<40) (w:World) (ha:Rd w A a) (hb:Rd w B b):
 Calls Tryz.prog 103 #[.slice A n c,.slice B m d] w (LimbsOne w (val a*val b)):=by
 subst hn hm
 by_cases hab:a.length<b.length
 · rw[Nat.mul_comm (val a)]
   have hg:decide ((a.length:Int)<40)=true:=by simp;omega
   go_enter Tryz.func103,Tryz.ntmps103
   go_wp2_with fail
   refine(big_plain B A b a _ _ d c rfl rfl (by omega) _ hb ha).mono ?_
   rintro e w1 ⟨A1,c1,rfl,r1,r2,hb1⟩
   go_wp2
   go_ret
   exact⟨_,_,rfl,r1,r2,hb1⟩
 · have hg:decide ((b.length:Int)<40)=true:=by simp;omega
   go_enter Tryz.func103,Tryz.ntmps103
   go_wp2_with fail
   refine(big_plain A B a b _ _ c d rfl rfl (by omega) _ ha hb).mono ?_
   rintro e w1 ⟨A1,c1,rfl,r1,r2,hb1⟩
   go_wp2
   go_ret
   exact⟨_,_,rfl,r1,r2,hb1⟩
end Bg
end Go.Proofs.YtenekbfnlbipiaaGreatDoor
