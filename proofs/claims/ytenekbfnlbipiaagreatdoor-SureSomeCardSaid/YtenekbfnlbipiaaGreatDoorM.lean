/- Walks: nat.Mul. -/
import Derived.Test.YtenekbfnlbipiaaGreatDoorBgAB
import Derived.Test.YtenekbfnlbipiaaGreatDoorBgD
import Derived.Test.YtenekbfnlbipiaaGreatDoorBgB
import Derived.Test.YtenekbfnlbipiaaGreatDoorBgA
import Derived.Deep.RegionHeld3
namespace Go.Proofs.YtenekbfnlbipiaaGreatDoor
open Go.RowKit
set_option linter.unusedVariables false
set_option linter.unusedSimpArgs false
set_option maxHeartbeats 4000000
set_option maxRecDepth 100000

theorem nat_Mul (A B:Option Addr) (a b:List Nat) (n m c d:Nat) (hn:n=a.length) (hm:m=b.length) (w:World) (ha:Rd w A a) (hb:Rd w B b):
 Calls Tryz.prog 179 #[.agg #[.slice A n c],.agg #[.slice B m d]] w (NatAns 153 w (mulS a b)):=by
 subst hn hm
 have hla:=ha.len
 have hlb:=hb.len
 have ha2:=(((ha.alloc (Obj.cells #[Value.slice A a.length c] 67)).alloc (Obj.cells #[Value.slice B b.length d] 67)).alloc (Obj.cells #[Value.slice none 0 0] 67)).alloc (Obj.cells #[Value.slice A a.length c,Value.slice B b.length d] 67)
 have hb2:=(((hb.alloc (Obj.cells #[Value.slice A a.length c] 67)).alloc (Obj.cells #[Value.slice B b.length d] 67)).alloc (Obj.cells #[Value.slice none 0 0] 67)).alloc (Obj.cells #[Value.slice A a.length c,Value.slice B b.length d] 67)
 by_cases hz:chk2 a b=0
 · have hl1:=(chk_zero (chk2_zero hz).1).1
   have hl2:=(chk_zero (chk2_zero hz).2).1
   have HZ:=Lib.hid hz
   by_cases hbig:16385<a.length+b.length
   · have e:mulS a b=([],4):=by unfold mulS;rw[if_pos hz,if_pos hbig]
     rw[e]
     clear hz
     go_enter Tryz.func179,Tryz.ntmps179
     go_wp2_with fail
     refine(nat_checks _ A B a b _ _ c d rfl rfl _ ha2 hb2 (by simp[go_sem]) (by simp[go_sem])).mono ?_
     rintro e w1 ⟨rfl,hb1⟩
     rw[HZ.out]
     obtain⟨hc1,hf1⟩:=bcell hb1
     have hbw1:Below w.heap.size w w1:=Below.trans (b:=_) bbel (hb1.mono (by go_size))
     have hz1_0:w.heap.size<w1.heap.size:=by have:=hb1.size;simp at this;omega
     have hz1_1:w.heap.size+1<w1.heap.size:=by have:=hb1.size;simp at this;omega
     have hz1_2:w.heap.size+2<w1.heap.size:=by have:=hb1.size;simp at this;omega
     have hz1_3:w.heap.size+3<w1.heap.size:=by have:=hb1.size;simp at this;omega
     go_wp2
     go_quiet (fail)
     go_wp2
     (try simp only[Exit.inBlock,Exit.then]);refine bodyPost_ret (by simp (maxDischargeDepth:=9) [results,Tryz.results179,go_sem,hc1,hz1_0,hz1_1,hz1_2,hz1_3];try rfl) rfl ?_
     exact⟨none,0,rfl,Own.nil _ _ _,bbel⟩
   · have e:mulS a b=fitS (val a*val b):=by unfold mulS;rw[if_pos hz,if_neg hbig]
     have hmk:=fun W=>mk32 (a.length+b.length) ((a.length:Int)+(b.length:Int)) (by omega) (by omega) W
     rw[e]
     clear hz
     go_enter Tryz.func179,Tryz.ntmps179
     go_wp2_with fail
     refine(nat_checks _ A B a b _ _ c d rfl rfl _ ha2 hb2 (by simp[go_sem]) (by simp[go_sem])).mono ?_
     rintro e w1 ⟨rfl,hb1⟩
     rw[HZ.out]
     obtain⟨hc1,hf1⟩:=bcell hb1
     have hbw1:Below w.heap.size w w1:=Below.trans (b:=_) bbel (hb1.mono (by go_size))
     have hz1_0:w.heap.size<w1.heap.size:=by have:=hb1.size;simp at this;omega
     have hz1_1:w.heap.size+1<w1.heap.size:=by have:=hb1.size;simp at this;omega
     have hz1_2:w.heap.size+2<w1.heap.size:=by have:=hb1.size;simp at this;omega
     have hz1_3:w.heap.size+3<w1.heap.size:=by have:=hb1.size;simp at this;omega
     go_wp2
     go_quiet (fail)
     go_wp2
     clear ha2 hb2
     have hb1':=hb1.size
     simp at hb1'
     have ha1:=ha.below hbw1
     have hb1b:=hb.below hbw1
     have hcr:w1.cell? ⟨w.heap.size+2,0,none⟩=some (Value.slice none 0 0):=by
      rw[hc1 _ _ (by simp)];simp[go_sem]
     have hfr:w1.frozen? ⟨w.heap.size+2,0,none⟩=false:=by
      rw[hf1 _ _ (by simp)];simp[go_sem]
     have hbase:=w1.heap.size
     clear hc1 hf1 hb1
     go_loopw [43] (fun i wr=>∃(k:Nat) (o:List Nat),k≤a.length∧i=.int .i64 (k:Int)∧o.length=a.length+b.length∧Sm o∧(∀j,k+b.length≤j→nth o j=0)∧val o=val (a.take k)*val b∧Row wr 153 w1.heap.size o∧Below w1.heap.size w1 wr) (fun i _=>a.length-(intOf i).toNat)
     case atStart=>
      exact⟨0,List.replicate (a.length+b.length) 0,Nat.zero_le _,rfl,by simp,Sm.replicate _,fun j _=>nth_replicate _ _,by rw[val_replicate];simp[val],row_new rfl (by simp),bbel⟩
     case round=>
      obtain⟨wo,rfl⟩:∃wo:World,wo=wr:=⟨_,rfl⟩
      obtain⟨i,o,hi,rfl,hol,hos,hoz,hov,hrow,hbl⟩:=hrel
      have HOL:=Lib.hid hol
      have HOZ:=Lib.hid hoz
      have HOV:=Lib.hid hov
      clear hol hoz hov
      by_cases hi1:i<a.length
      · obtain⟨ba,oa,rfl,hca⟩:=rd_at ha1 hbl (k:=i) hi1
        go_wp2
        go_loopw [12,63] (fun v7 v8 wr=>RowRel w1 w1.heap.size a b i (a.length+b.length) (val o) v7 v8 wr) (fun _ v8 _=>b.length-(intOf v8).toNat)
        case atStart=>
         exact⟨0,0,o,Nat.zero_le _,rfl,rfl,by decide,HOL.out,hos,HOZ.out,by simp[val],hrow,hbl⟩
        case round=>
         obtain⟨k,cy,o2,hk,rfl,rfl,hcy,hol2,hos2,hoz2,hov2,hrow2,hbl2⟩:=hrel
         have HOL2:=Lib.hid hol2
         have HOZ2:=Lib.hid hoz2
         have HOV2:=Lib.hid hov2
         clear hol2 hoz2 hov2 hca
         by_cases hk1:k<b.length
         · obtain⟨bb,ob,rfl,hcb⟩:=rd_at hb1b hbl2 (k:=k) (by omega)
           have hco:=hrow2.cell (i+k) (by rw[HOL2.out];omega)
           have hfz:=hrow2.frozen (i+k)
           have hx:=ha.sm.nth i
           have hy:=hb.sm.nth k
           have ho:=hos2.nth (i+k)
           have hPb:=prod_le hx hy
           obtain⟨P,hP⟩:∃P:Nat,P=nth a i*nth b k:=⟨_,rfl⟩
           rw[←hP] at hPb
           have hPe:((nth a i:Nat):Int)*((nth b k:Nat):Int)=(P:Int):=by rw[hP,Int.natCast_mul]
           have HP:=Lib.hid hP
           clear hP
           go_wp2
           go_roundw
           case rel=>
            have st:=row_step (P:=nth a i*nth b k) (by rw[HOL2.out];omega) HOV2.out
            rw[←HP.out] at st
            refine⟨k+1,(P+nth o2 (i+k)+cy)/4294967296,o2.set (i+k) ((P+nth o2 (i+k)+cy)%4294967296),by omega,by go_num,vi (by omega),by omega,by simp[HOL2.out],hos2.set _ _ (by omega),?_,?_,hrow2.setE _ _ (by omega),bbel⟩
            · intro j hj
              rw[nth_set_ne _ _ _ _ (by omega)]
              exact HOZ2.out j hj
            · rw[←Nat.add_assoc,st,val_take_succ',HP.out]
              congr 1
              rw[Nat.pow_add,Nat.mul_add,Nat.mul_add]
              congr 1
              simp only[Nat.mul_assoc,Nat.mul_left_comm]
           case measure=>first|(simp[intOf];done)|(simp[intOf];omega)
         · have hkb:k=b.length:=by omega
           have hco:=hrow2.cell (i+b.length) (by rw[HOL2.out];omega)
           have hfz:=hrow2.frozen (i+b.length)
           have HKB:=Lib.hid hkb
           clear hkb
           go_wp2
           go_roundw
           case rel=>
            have hv:=HOV2.out
            rw[HKB.out,List.take_length] at hv
            have hz0:=HOZ2.out (i+b.length) nrf
            have hs:=val_set o2 (i+b.length) cy (by rw[HOL2.out];omega)
            refine⟨i+1,o2.set (i+b.length) cy,by omega,by go_num,by simp[HOL2.out],hos2.set _ _ hcy,?_,?_,hrow2.setE _ _ (by omega),bbel⟩
            · intro j hj
              rw[nth_set_ne _ _ _ _ (by omega)]
              exact HOZ2.out j (by omega)
            · rw[hz0,Nat.mul_zero,Nat.add_zero] at hs
              rw[hs,hv,HOV.out,val_take_succ',Nat.add_mul,Nat.mul_assoc]
           case measure=>first|(simp[intOf];done)|(simp[intOf];omega)
      · have hia:i=a.length:=by omega
        have hfin:val o=val a*val b:=by rw[HOV.out,hia,List.take_length]
        have HF:=Lib.hid hfin
        clear hfin hia
        go_wp2_with fail
        refine(nat_fits w1.heap.size o _ (a.length+b.length) w1.heap.size HOL.out.symm nrf _ hrow hos (by rw[HOL.out];omega) nrf hbl.size).mono ?_
        rw[HF.out]
        rintro e w3 ⟨A3,c3,rfl,ho3,hb3⟩
        have hz3:w.heap.size+2<w3.heap.size:=by have:=hb3.size;have:=hbl.size;omega
        have hc3:w3.cell? ⟨w.heap.size+2,0,none⟩=some (Value.slice none 0 0):=by
         rw[below_cell hb3 (by have:=hbl.size;omega),below_cell hbl (by omega)];exact hcr
        have hf3:w3.frozen? ⟨w.heap.size+2,0,none⟩=false:=by
         rw[below_frozen hb3 (by have:=hbl.size;omega),below_frozen hbl (by omega)];exact hfr
        have hbw3:Below w.heap.size w w3:=(hbw1.trans (hbl.mono (by omega))).trans (hb3.mono (by have:=hbl.size;omega))
        clear hcr hfr
        go_wp2
        (try simp only[Exit.inBlock,Exit.then]);refine bodyPost_ret (by simp (maxDischargeDepth:=9) [results,Tryz.results179,go_sem,hc3];try rfl) rfl ?_
        exact⟨_,_,rfl,(ho3.setCell (by simp;omega) _).mono (by omega),bbel⟩
 · have e:mulS a b=([],chk2 a b):=by unfold mulS;rw[if_neg hz]
   have hne:(chk2 a b !=0)=true:=by rw[bne_iff_ne];exact hz
   rw[e]
   clear hz
   go_enter Tryz.func179,Tryz.ntmps179
   go_wp2_with fail
   refine(nat_checks _ A B a b _ _ c d rfl rfl _ ha2 hb2 (by simp[go_sem]) (by simp[go_sem])).mono ?_
   rintro e w1 ⟨rfl,hb1⟩
   obtain⟨hc1,hf1⟩:=bcell hb1
   have hbw1:Below w.heap.size w w1:=Below.trans (b:=_) bbel (hb1.mono (by go_size))
   have hz1_0:w.heap.size<w1.heap.size:=by have:=hb1.size;simp at this;omega
   have hz1_1:w.heap.size+1<w1.heap.size:=by have:=hb1.size;simp at this;omega
   have hz1_2:w.heap.size+2<w1.heap.size:=by have:=hb1.size;simp at this;omega
   have hz1_3:w.heap.size+3<w1.heap.size:=by have:=hb1.size;simp at this;omega
   go_wp2
   (try simp only[Exit.inBlock,Exit.then]);refine bodyPost_ret (by simp (maxDischargeDepth:=9) [results,Tryz.results179,go_sem,hc1,hz1_0,hz1_1,hz1_2,hz1_3];try rfl) rfl ?_
   exact⟨none,0,rfl,Own.nil _ _ _,bbel⟩

theorem Own.setT {w:World} {B c:Nat} {t t':TypeId} {A:Option Addr} {l:List Nat} {cs:Array Value} (h:Own w t B A c l) {p:Addr} (hb:Blk w p.block t' cs) (hne:t≠t') (u:Value):Own (w.setCell p u) t B A c l:=by
 refine⟨h.1,h.2.1,?_⟩
 rcases h.2.2 with h|⟨g',cur,e,hg,hk,r⟩
 · exact .inl h
 · refine .inr ⟨g',cur,e,hg,hk.far ?_ u,r⟩
   intro e'
   unfold Blk at hk hb
   rw[e',hb] at hk
   injection hk with hk;injection hk with _ hk
   exact hne hk.symm


def downS (l:List Nat) (n:Int):List Nat × Int:=if chk l=0 then if n<0 then ([],2) else (limbs (val l/2^n.toNat),0) else ([],chk l)
theorem down_split (v m j:Nat):v/2^(m%32)/4294967296^(m/32+j)=v/2^m/4294967296^j:=by
 rw[Nat.pow_add, ←Nat.div_div_eq_div_mul]
 congr 1
 rw[Nat.div_div_eq_div_mul]
 congr 1
 have:4294967296^(m/32)=2^(32*(m/32)):=by rw[Nat.pow_mul]
 rw[this, ←Nat.pow_add]
 congr 1
 omega
theorem down_zero {l:List Nat} (h:Sm l) {m:Nat} (hm:l.length≤m/32):val l/2^m=0:=by
 refine Nat.div_eq_of_lt (Nat.lt_of_lt_of_le (val_lt h) ?_)
 rw[show 4294967296=2^32 from rfl, ←Nat.pow_mul]
 exact Nat.pow_le_pow_right (by decide) (by omega)
theorem down_lt {l:List Nat} (h:Sm l) {m:Nat} (hm:m/32≤l.length):val l/2^m<4294967296^(l.length-m/32):=by
 rw[Nat.div_lt_iff_lt_mul (Nat.two_pow_pos m)]
 refine Nat.lt_of_lt_of_le (val_lt h) ?_
 rw[show 4294967296=2^32 from rfl, ←Nat.pow_mul, ←Nat.pow_mul, ←Nat.pow_add]
 exact Nat.pow_le_pow_right (by decide) (by omega)

theorem ref_down (A:Option Addr) (l:List Nat) (n c:Nat) (hn:n=l.length) (m:Nat) (hm:m≤9223372036854775807) (hl16:l.length≤1000000) (w:World) (h:Rd w A l):
 Calls Tryz.prog 232 #[.slice A n c,.int .i64 (m:Int)] w (LimbsOne w (val l/2^m)):=by
 subst hn
 go_enter Tryz.func232,Tryz.ntmps232
 go_wp2
 go_loopw [5,6] (fun v i wr=>∃(k:Nat) (o:List Nat),(m/32+k≤l.length∨k=0)∧i=.int .i64 (((m/32+k:Nat)):Int)∧o.length=k∧Sm o∧(∀j,j<k→nth o j=val l/2^m/4294967296^j%4294967296)∧OwnR wr w.heap.size 153 .u32 v o∧Below w.heap.size w wr) (fun _ i _=>l.length-(intOf i).toNat)
 case atStart=>
  exact⟨0,[],.inr rfl,vi (by omega),rfl,Sm.nil,fun j hj=>by omega,OwnR.nil _ _ _ _,Below.refl _ _⟩
 case round=>
  obtain⟨k,o,hk,rfl,hol,hos,hoj,hown,hbl⟩:=hrel
  have HOL:=Lib.hid hol
  have HOJ:=Lib.hid hoj
  have HK:=Lib.hid hk
  clear hol hoj hk
  by_cases hlt:m/32+k<l.length
  · have hrd:=h.below hbl
    have ha:=h.sm.nth (m/32+k+1)
    have hx:=h.sm.nth (m/32+k)
    have hor:bits BinOp.or IntKind.u64 ((nth l (m/32+k):Nat):Int) (((nth l (m/32+k+1):Nat):Int)*4294967296)=((nth l (m/32+k+1)*4294967296+nth l (m/32+k):Nat):Int):=by
     have e:(((nth l (m/32+k+1):Nat):Int)*4294967296)=((nth l (m/32+k+1)*4294967296:Nat):Int):=by omega
     rw[e,u64_or_nat _ _ (by omega) (by omega),Nat.or_comm]
     have:=Nat.two_pow_add_eq_or_of_lt (i:=32) (b:=nth l (m/32+k)) hx (nth l (m/32+k+1))
     rw[show nth l (m/32+k+1)*4294967296=2^32*nth l (m/32+k+1) from by omega, ←this]
    obtain⟨P,hP⟩:∃P:Nat,P=nth l (m/32+k+1)*4294967296+nth l (m/32+k):=⟨_,rfl⟩
    rw[←hP] at hor
    have hPb:P<18446744073709551616:=by omega
    have HP:=Lib.hid hP
    clear hP
    obtain⟨q,hq⟩:∃q:Nat,q=m/32+k:=⟨_,rfl⟩
    rw[←hq] at hor ha hx hlt ⊢
    have HQ:=Lib.hid hq
    clear hq
    go_wp2_with fail
    refine(ref_limb A l _ c rfl (q:Int) (by omega) _ hrd).mono ?_
    rintro e w1 ⟨rfl,rfl⟩
    rw[Int.toNat_natCast]
    go_wp2_with fail
    refine(ref_limb A l _ c rfl ((q:Int)+1) (by omega) _ hrd).mono ?_
    rintro e w1 ⟨rfl,rfl⟩
    rw[show((q:Int)+1).toNat=q+1 from by omega]
    go_wp2_with (at_builtin;refine wpList_app elem32 rfl _ _ rfl (hown.alloc _) rfl ⟨_,0,none⟩ rfl (P/2^(m%32)%4294967296) ?c1 ?c2 ?c3 (fun v' w' hown' hgr hbb=>?_))
    case c1=>
     rw[←cast_shr]
     simp[go_sem]
    case c2=>have:=HOL.out;have:=HQ.out;omega
    case c3=>have:=hbl.size;simp;omega
    go_roundw
    case rel=>
     have st:=low_step h.sm q (m%32) (by omega)
     have hP:=HP.out
     rw[←HQ.out] at hP
     rw[←hP,HQ.out,down_split] at st
     refine⟨k+1,o++[P/2^(m%32)%4294967296],.inl (by have:=HQ.out;omega),vi (by have:=HQ.out;omega),by simp[HOL.out],hos.append (Sm.cons (Nat.mod_lt _ (by decide)) Sm.nil),?_,hown',(hbl.alloc hbl.size _).trans hbb⟩
     intro j hj
     by_cases hjk:j=k
     · subst hjk
       rw[nth_lt _ (by simp[HOL.out])]
       rw[List.getElem_append_right (by rw[HOL.out];omega)]
       simp only[HOL.out,Nat.sub_self,List.getElem_cons_zero]
       exact st
     · rw[nth_lt _ (by simp[HOL.out];omega),List.getElem_append_left (by rw[HOL.out];omega), ←nth_lt]
       exact HOJ.out j (by omega)
    case measure=>have:=HQ.out;first|(simp[intOf];done)|(simp[intOf];omega)
  · have hv:val o=val l/2^m:=by
     rcases HK.out with h1|h1
     · refine val_of_nth hos ?_ fun j hj=>HOJ.out j (by rw[←HOL.out];exact hj)
       rw[HOL.out]
       have:=down_lt h.sm (m:=m) (by omega)
       rw[show k=l.length-m/32 from by omega];exact this
     · have:o=[]:=List.eq_nil_of_length_eq_zero (by rw[HOL.out,h1])
       rw[this,down_zero h.sm (by omega)];rfl
    have HV:=Lib.hid hv
    clear hv
    obtain⟨A',c',rfl,hnc,ho⟩:=hown.own hos (by rw[HOL.out];have:=HK.out;omega)
    go_wp2_with fail
    refine(ref_Trim _ _ _ _ rfl hnc _ ho.rd).mono ?_
    rintro e w1 ⟨rfl,rfl⟩
    go_wp2
    go_ret
    have ho2:=ho.trim
    have hle:=limbs_length_le hos
    rw[HV.out] at ho2 hle
    exact⟨_,_,by rw[←HV.out];rfl,by omega,ho2,hbl⟩



theorem nth_valS {l:List Nat} (h:Sm l) (k:Nat):nth l k=val l/4294967296^k%4294967296:=getD_val l h k


def bitsS (l:List Nat):Int × Int:=if chk l=0 then (((bitLen (val l):Nat):Int),0) else (0,chk l)

theorem nat_Bits (A:Option Addr) (l:List Nat) (n c:Nat) (hn:n=l.length) (w:World) (h:Rd w A l):
 Calls Tryz.prog 130 #[.agg #[.slice A n c]] w (Says w (.tuple #[.int .i64 (bitsS l).1,.int .i64 (bitsS l).2])):=by
 subst hn
 have hl:=h.len
 have h1:=h.alloc (Obj.cells #[Value.slice A l.length c] 67)
 by_cases hc0:chk l=0
 · have hlen:=(chk_zero hc0).1
   have hlast:=(chk_zero hc0).2
   have Hchk:Hid (chk l=0):=hc0
   have e:bitsS l=(((bitLen (val l):Nat):Int),0):=by unfold bitsS;rw[if_pos hc0]
   rw[e]
   clear hc0
   by_cases h0:0<l.length
   · obtain⟨b,off,rfl,hb,hc⟩:=chk_facts l A w h h0
     have hne:nth l (l.length-1)≠0:=by
      rw[last_nth (by intro e;rw[e] at h0;simp at h0)] at hlast;simpa using hlast
     have E:=Lib.hid (bitLen_val h.sm h0 hne)
     have hlt:=h.sm.nth (l.length-1)
     have hbl:bitLen (nth l (l.length-1))≤32:=bitLen_le hlt
     have h2:((l.length:Int)==0)=false:=by rw[beq_eq_false_iff_ne];omega
     clear hlast hne
     go_enter Tryz.func130,Tryz.ntmps130
     go_wp2_with fail
     refine(nat_Check _ l _ c rfl _ h1).mono ?_
     rintro e w1 ⟨rfl,hb1⟩
     rw[Hchk.out]
     obtain⟨hc1,hf1⟩:=bcell hb1
     have hbw1:Below w.heap.size w w1:=Below.trans (b:=_) bbel (hb1.mono (by go_size))
     have hz1_0:w.heap.size<w1.heap.size:=by have:=hb1.size;simp at this;omega
     have hcc:=cell_keep hbw1 hc
     go_wp2_with fail
     refine(bits_LeadingZeros32 _ _ (by omega) (by omega)).mono ?_
     rintro e w2 ⟨rfl,rfl⟩
     rw[Int.toNat_natCast]
     go_wp2
     go_ret2
     exact⟨ret_pair (by rw[E.out];omega) rfl,hbw1⟩
   · have hl0:l=[]:=List.eq_nil_of_length_eq_zero (by omega)
     subst hl0
     go_enter Tryz.func130,Tryz.ntmps130
     go_wp2_with fail
     refine(nat_Check _ [] _ c rfl _ h1).mono ?_
     rintro e w1 ⟨rfl,hb1⟩
     rw[Hchk.out]
     obtain⟨hc1,hf1⟩:=bcell hb1
     have hbw1:Below w.heap.size w w1:=Below.trans (b:=_) bbel (hb1.mono (by go_size))
     have hz1_0:w.heap.size<w1.heap.size:=by have:=hb1.size;simp at this;omega
     go_wp2
     go_ret2
     exact⟨rfl,hbw1⟩
 · have e:bitsS l=(0,chk l):=by unfold bitsS;rw[if_neg hc0]
   have hne:(chk l !=0)=true:=by rw[bne_iff_ne];exact hc0
   rw[e]
   clear hc0
   go_enter Tryz.func130,Tryz.ntmps130
   go_wp2_with fail
   refine(nat_Check A l _ c rfl _ h1).mono ?_
   rintro e w1 ⟨rfl,hb1⟩
   obtain⟨hc1,hf1⟩:=bcell hb1
   have hbw1:Below w.heap.size w w1:=Below.trans (b:=_) bbel (hb1.mono (by go_size))
   have hz1_0:w.heap.size<w1.heap.size:=by have:=hb1.size;simp at this;omega
   go_wp2
   go_ret2
   exact⟨rfl,hbw1⟩

def bitS (l:List Nat) (i:Int):Bool × Int:=if chk l=0 then if i<0 then (false,2) else ((val l).testBit i.toNat,0) else (false,chk l)
theorem testBit_nth {l:List Nat} (h:Sm l) (i:Nat):(val l).testBit i=(nth l (i/32)).testBit (i%32):=by
 have e:nth l (i/32)=val l/2^(32*(i/32))%2^32:=by
  rw[Nat.pow_mul];exact getD_val l h (i/32)
 rw[e,Nat.testBit_mod_two_pow, ←Nat.shiftRight_eq_div_pow,Nat.testBit_shiftRight]
 have h1:i%32<32:=Nat.mod_lt _ (by decide)
 simp only[h1,decide_true,Bool.true_and]
 congr 1
 omega
theorem bit_u64 (x r:Nat) (hx:x<4294967296):(bits BinOp.and IntKind.u64 ((x:Int)/2^r) 1==1)=x.testBit r:=by
 have e:(x:Int)/2^r=((x/2^r:Nat):Int):=by rw[Int.natCast_ediv,Int.natCast_pow];rfl
 have hle:x/2^r≤x:=Nat.div_le_self _ _
 rw[e,show(1:Int)=((1:Nat):Int) from rfl,u64_and_nat _ _ (by omega) (by decide),Nat.and_one_is_mod,Nat.testBit_eq_decide_div_mod_eq]
 rcases Nat.mod_two_eq_zero_or_one (x/2^r) with h|h <;> rw[h] <;> rfl

theorem ref_Bit (A:Option Addr) (l:List Nat) (n c:Nat) (hn:n=l.length) (i:Int) (hm1: -9223372036854775808≤i) (hm2:i≤9223372036854775807) (w:World) (h:Rd w A l):
 Calls Tryz.prog 231 #[.agg #[.slice A n c],.int .i64 i] w (Says w (.tuple #[.bool (bitS l i).1,.int .i64 (bitS l i).2])):=by
 subst hn
 have hl:=h.len
 have h1:=h.alloc (Obj.cells #[Value.slice A l.length c] 67)
 by_cases hc0:chk l=0
 · have hlen:=(chk_zero hc0).1
   have Hchk:Hid (chk l=0):=hc0
   have e0:Hid (bitS l i=if i<0 then (false,2) else ((val l).testBit i.toNat,0)):=by
    show bitS l i=_
    unfold bitS;rw[if_pos hc0]
   clear hc0
   by_cases hi0:i<0
   · rw[e0.out,if_pos hi0]
     go_enter Tryz.func231,Tryz.ntmps231
     go_wp2_with fail
     refine(ref_Check _ l _ c rfl _ h1).mono ?_
     rintro e w1 ⟨rfl,hb1⟩
     rw[Hchk.out]
     obtain⟨hc1,hf1⟩:=bcell hb1
     have hbw1:Below w.heap.size w w1:=Below.trans (b:=_) bbel (hb1.mono (by go_size))
     have hz1_0:w.heap.size<w1.heap.size:=by have:=hb1.size;simp at this;omega
     go_wp2
     go_ret2
     exact⟨rfl,hbw1⟩
   · rw[e0.out,if_neg hi0]
     obtain⟨i,rfl⟩:∃k:Nat,i=(k:Int):=⟨i.toNat,by omega⟩
     rw[Int.toNat_natCast,testBit_nth h.sm]
     have hsm:=h.sm.nth (i/32)
     have HB:=Lib.hid (bit_u64 (nth l (i/32)) (i%32) hsm)
     go_enter Tryz.func231,Tryz.ntmps231
     go_wp2_with fail
     refine(ref_Check _ l _ c rfl _ h1).mono ?_
     rintro e w1 ⟨rfl,hb1⟩
     rw[Hchk.out]
     obtain⟨hc1,hf1⟩:=bcell hb1
     have hbw1:Below w.heap.size w w1:=Below.trans (b:=_) bbel (hb1.mono (by go_size))
     have hz1_0:w.heap.size<w1.heap.size:=by have:=hb1.size;simp at this;omega
     go_wp2_with fail
     refine(ref_limb A l _ c rfl ((i:Int)/32) (by omega) _ (h1.below hb1)).mono ?_
     rintro e w2 ⟨rfl,rfl⟩
     rw[show((i:Int)/32).toNat=i/32 from by omega]
     go_wp2
     go_ret2
     exact⟨by rw[←HB.out];rfl,hbw1⟩
 · have e:bitS l i=(false,chk l):=by unfold bitS;rw[if_neg hc0]
   have hne:(chk l !=0)=true:=by rw[bne_iff_ne];exact hc0
   rw[e]
   clear hc0
   go_enter Tryz.func231,Tryz.ntmps231
   go_wp2_with fail
   refine(ref_Check A l _ c rfl _ h1).mono ?_
   rintro e w1 ⟨rfl,hb1⟩
   obtain⟨hc1,hf1⟩:=bcell hb1
   have hbw1:Below w.heap.size w w1:=Below.trans (b:=_) bbel (hb1.mono (by go_size))
   have hz1_0:w.heap.size<w1.heap.size:=by have:=hb1.size;simp at this;omega
   go_wp2
   go_ret2
   exact⟨rfl,hbw1⟩
end Go.Proofs.YtenekbfnlbipiaaGreatDoor
