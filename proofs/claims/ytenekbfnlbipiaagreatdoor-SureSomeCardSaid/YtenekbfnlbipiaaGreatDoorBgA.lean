/- Walks of numeralbig: words of 32 bits, the small functions. -/
import Derived.Test.YtenekbfnlbipiaaGreatDoorA
import Derived.Deep.RegionHeld3
import Derived.Deep.Cut
import Derived.Laws.CopyOwn
namespace Go.Proofs.YtenekbfnlbipiaaGreatDoor
open Go.RowKit
set_option linter.unusedVariables false
set_option linter.unusedSimpArgs false
set_option maxHeartbeats 4000000
set_option maxRecDepth 100000
namespace Bg

theorem rd_take {w:World} {A:Option Addr} {l:List Nat} (h:Rd w A l) (n:Nat):Rd w A (l.take n):=by
 refine⟨h.sm.take n,by have:=h.len;simp;omega,fun hn=>?_⟩
 have hl:0<l.length:=by simp at hn;omega
 obtain⟨b,off,e,hc⟩:=h.open_ hl
 refine⟨b,off,e,fun j hj=>?_⟩
 simp only[List.length_take] at hj
 rw[hc j (by omega)]
 have:nth (l.take n) j=nth l j:=by
  rw[nth_lt _ (by simp;omega),nth_lt _ (by omega)];simp
 rw[this]
theorem rd_trim {w:World} {A:Option Addr} {l:List Nat} (h:Rd w A l):Rd w A (limbs (val l)):=by
 rw[limbs_prefix h.sm];exact rd_take h _
theorem one_cells (l:List Nat) (v:Value) (hv:v ∈ ints .u32 l):v.oneCell'=true:=by
 unfold ints at hv
 obtain⟨x,_,rfl⟩:=List.mem_map.1 hv
 rfl
theorem src32 {w:World} {b off:Nat} {l:List Nat} (hc:∀j,j<l.length→w.cell? ⟨b,off+j,none⟩=some (.int .u32 ((nth l j:Nat):Int))) (j:Nat) (v:Value) (hv:(ints .u32 l)[j]?=some v):w.cell? (Addr.add ⟨b,off,none⟩ j)=some v:=by
 have hj:j<l.length:=by
  have:=(List.getElem?_eq_some_iff.1 hv).1
  simpa using this
 rw[ints_get .u32 l j hj] at hv
 cases hv
 have e:Addr.add ⟨b,off,none⟩ j=⟨b,off+j,none⟩:=by
  unfold Addr.add
  split
  · subst_vars;rfl
  · rfl
 rw[e]
 exact hc j hj
theorem run_copy32 (w:World) (g:Nat) (d l:List Nat) (A:Option Addr) (c dc:Nat) (hg:Row w 153 g d) (h:Rd w A l) (hlen:l.length≤d.length):
 ∃W',(Builtin.copy_ #[65,65] 3 #[.slice (some ⟨g,0,none⟩) d.length dc,.slice A l.length c]).run Tryz.prog w=.ok (goInt l.length) W'∧
  Row W' 153 g (l++d.drop l.length)∧W'.heap.size=w.heap.size∧(∀B,B≤g→Below B w W')∧∀k,k≠g→W'.heap[k]?=w.heap[k]?:=by
 by_cases h0:l.length=0
 · obtain rfl:l=[]:=List.eq_nil_of_length_eq_zero h0
   refine⟨w,run_copy_none w _ _ _ 153 _ A _ _ _ _ Tryz.underlying65 (by kernel_rfl) (by simp),by simpa using hg,rfl,fun B _=>Below.refl _ _,fun _ _=>rfl⟩
 · obtain⟨b,off,rfl,hc⟩:=h.open_ (by omega)
   have hr:=run_copy_row (P:=Tryz.prog) w 65 65 3 153 g 0 d.length dc ⟨b,off,none⟩ l.length c (c32 d) 153 (ints .u32 l) Tryz.underlying65 (by kernel_rfl) hg (by simp[Nat.min_eq_left hlen]) (src32 hc) (by rw[c32_size];simp;omega) (one_cells l)
   rw[ints_length] at hr
   refine⟨_,hr,?_,by simp[World.setRow],fun B hB=>below_setRow (Below.refl _ _) hB _,fun k hk=>setRow_other w g k _ hk⟩
   have:=setRow_heap w g (c32 d) ((c32 d).toList.take 0++ints .u32 l++(c32 d).toList.drop (0+l.length)).toArray 153 (0,0) hg
   unfold Row Blk
   rw[this]
   congr 2
   simp[c32,ints]
theorem big_trim (A:Option Addr) (l:List Nat) (n c:Nat) (hn:n=l.length) (hc:n≤c) (w:World) (h:Rd w A l):
 Calls Tryz.prog 146 #[.slice A n c] w fun e w'=>e=.returned (.slice A (limbs (val l)).length c)∧w=w':=by
 subst hn
 have hl:=h.len
 go_enter Tryz.func146,Tryz.ntmps146
 go_wp2
 go_loop [3] (fun i=>∃k:Nat,k≤l.length∧i=.int .i64 (k:Int)∧(∀j,k≤j→nth l j=0)) (fun i=>(intOf i).toNat)
 case atStart=>exact⟨l.length,Nat.le_refl _,rfl,fun j hj=>nth_ge l hj⟩
 case round=>
  obtain⟨k,hk,rfl,hz⟩:=hrel
  have HZ:=Lib.hid hz
  clear hz
  by_cases hk0:k=0
  · subst hk0
    have E:=Lib.hid (trim_end h.sm 0 hk HZ.out (.inl rfl))
    go_wp2
    go_ret
    rw[E.out.2]
    exact⟨rfl,rfl⟩
  · obtain⟨k,rfl⟩:∃j,k=j+1:=⟨k-1,by omega⟩
    obtain⟨b,o,rfl,hc1⟩:=h.open_ (by omega)
    have hc2:=hc1 k (by omega)
    have hbs:b<w.heap.size:=cell_lt hc2
    clear hc1
    by_cases h3:nth l k=0
    · rw[h3] at hc2
      have E:Hid (∀j,k≤j→nth l j=0):=fun j hj=>by
       rcases Nat.lt_or_ge k j with h4|h4
       · exact HZ.out j h4
       · have:j=k:=by omega
         rw[this];exact h3
      clear h3
      go_wp2
      go_round
      case rel=>exact⟨k,by omega,by go_num,E.out⟩
      case measure=>first|(simp[intOf];done)|(simp[intOf];omega)
    · have E:=Lib.hid (trim_end h.sm (k+1) hk HZ.out (.inr h3))
      have h3':(((nth l k:Nat):Int)==0)=false:=by simp;exact h3
      clear h3
      go_wp2
      go_ret
      rw[E.out.2]
      exact⟨rfl,rfl⟩

theorem big_cmp (A B:Option Addr) (a b:List Nat) (n m c d:Nat) (hn:n=a.length) (hm:m=b.length) (w:World) (ha:Rd w A a) (hb:Rd w B b):
 Calls Tryz.prog 63 #[.slice A n c,.slice B m d] w (Says w (.int .i64 (cmpL a b))):=by
 subst hn hm
 have hla:=ha.len
 have hlb:=hb.len
 by_cases h1:a.length<b.length
 · have e:cmpL a b= -1:=by unfold cmpL;rw[if_pos h1]
   rw[e]
   go_enter Tryz.func63,Tryz.ntmps63
   go_wp2
   go_ret
   exact⟨rfl,Below.refl _ _⟩
 by_cases h2:b.length<a.length
 · have e:cmpL a b=1:=by unfold cmpL;rw[if_neg h1,if_pos h2]
   rw[e]
   go_enter Tryz.func63,Tryz.ntmps63
   go_wp2
   go_ret
   exact⟨rfl,Below.refl _ _⟩
 have hl:a.length=b.length:=by omega
 have HL:=Lib.hid hl
 clear hl
 go_enter Tryz.func63,Tryz.ntmps63
 go_wp2
 go_loopw [5] (fun i wr=>∃k:Nat,k≤a.length∧i=.int .i64 ((k:Int)-1)∧a.drop k=b.drop k∧Below w.heap.size w wr) (fun i _=>(intOf i+1).toNat)
 case atStart=>exact⟨a.length,Nat.le_refl _,rfl,by rw[List.drop_length,HL.out,List.drop_length],Below.refl _ _⟩
 case round=>
  obtain⟨k,hk,rfl,hd,hbl⟩:=hrel
  have HD:=Lib.hid hd
  clear hd
  by_cases hk0:k=0
  · subst hk0
    have e:cmpL a b=0:=(cmpL_zero ha.sm hb.sm).2 (by simpa using HD.out)
    have E:=Lib.hid e
    clear e
    go_wp2
    go_ret
    rw[E.out]
    exact⟨rfl,hbl⟩
  · obtain⟨k,rfl⟩:∃j,k=j+1:=⟨k-1,by omega⟩
    obtain⟨ba,oa,rfl,hca⟩:=rd_at ha hbl (k:=k) (by omega)
    obtain⟨bb,ob,rfl,hcb⟩:=rd_at hb hbl (k:=k) (by omega)
    rcases Nat.lt_trichotomy (nth a k) (nth b k) with h3|h3|h3
    · have E:=Lib.hid (cmpL_top_lt HL.out ha.sm k (by omega) HD.out h3)
      go_wp2
      go_quiet (fail)
      go_wp2
      go_ret
      rw[E.out]
      exact⟨rfl,(by repeat (first|assumption|exact Below.refl _ _|refine bdn ?_ _|refine Below.drew ?_))⟩
    · have E:=Lib.hid (drop_step HL.out k (by omega) HD.out h3)
      rw[h3] at hca
      clear h3
      go_wp2
      go_quiet (fail)
      go_wp2
      go_quiet (fail)
      go_wp2
      go_roundw
      case rel=>exact⟨k,by omega,by go_num,E.out,(by repeat (first|assumption|exact Below.refl _ _|refine bdn ?_ _|refine Below.drew ?_))⟩
      case measure=>first|(simp[intOf];done)|(simp[intOf];omega)
    · have E:=Lib.hid (cmpL_top_gt HL.out hb.sm k (by omega) HD.out h3)
      have h4:¬(nth a k<nth b k):=by omega
      go_wp2
      go_quiet (fail)
      go_wp2
      go_quiet (fail)
      go_wp2
      go_ret
      rw[E.out]
      exact⟨rfl,(by repeat (first|assumption|exact Below.refl _ _|refine bdn ?_ _|refine Below.drew ?_))⟩

theorem big_copied (A:Option Addr) (l:List Nat) (n c:Nat) (hn:n=l.length) (w:World) (h:Rd w A l):
 Calls Tryz.prog 109 #[.slice A n c] w fun e w'=>∃g,e=.returned (.slice (some ⟨g,0,none⟩) l.length l.length)∧w.heap.size≤g∧Row w' 153 g l∧Below w.heap.size w w':=by
 subst hn
 have hl:=h.len
 have hmk:=fun W=>mk32 l.length l.length rfl (by omega) W
 have hR:=h.alloc (.cells (c32 (List.replicate l.length 0)) 153)
 have hK:(w.alloc (.cells (c32 (List.replicate l.length 0)) 153)).heap[w.heap.size]?=some (.cells (ints .u32 (List.replicate l.length 0)).toArray 153 (0,0)):=Blk.new w _ _
 have hB:=(Below.refl w.heap.size w).alloc nrf (.cells (c32 (List.replicate l.length 0)) 153)
 obtain⟨W',hcp,hrow,hsz,hbW,_⟩:=run_copy32 (w.alloc (.cells (c32 (List.replicate l.length 0)) 153)) w.heap.size (List.replicate l.length 0) l A c l.length (Blk.new w _ _) hR (by simp)
 rw[List.length_replicate] at hcp
 rw[List.drop_of_length_le (by simp),List.append_nil] at hrow
 have hb2:=hB.trans (hbW w.heap.size nrf)
 clear hB hK hR hbW hsz
 go_enter Tryz.func109,Tryz.ntmps109
 go_wp2_with (first|(simp only[hmk])|(simp only[hcp]))
 go_ret
 exact⟨_,rfl,Nat.le_refl _,hrow,hb2⟩
end Bg

theorem elem32:ElemOf Tryz.prog 65 153 .u32:=by
 obtain⟨i,hi,hz,hs,hb⟩:=info_parts info_u32
 exact⟨under_u32s,i,4,hi,hz,hs,hb,by decide⟩

theorem over_div {l o:List Nat} {d r:Nat} (h:val (l.drop 0)=d*val (o.drop 0)+r) (hr:r<d):val o=val l/d∧r=val l%d:=by
 rw[List.drop_zero,List.drop_zero] at h
 rw[h]
 exact⟨by rw[Nat.mul_add_div (by omega),Nat.div_eq_of_lt hr,Nat.add_zero],by rw[Nat.mul_add_mod,Nat.mod_eq_of_lt hr]⟩

theorem bitLen_half {n:Nat} (h:n≠0):bitLen n=1+bitLen (n/2):=by
 by_cases h1:n/2=0
 · have:n=1:=by omega
   subst this;decide
 · have:=bitLen_shift n 1 (by simpa using h1)
   simpa using this
theorem bitLen_val {l:List Nat} (h:Sm l) (h0:0<l.length) (hl:nth l (l.length-1)≠0):bitLen (val l)=32*(l.length-1)+bitLen (nth l (l.length-1)):=by
 have h1:=val_drop l h (l.length-1)
 rw[val_drop_nth,List.drop_of_length_le (by omega)] at h1
 have h2:val []=0:=rfl
 rw[h2,Nat.mul_zero,Nat.add_zero] at h1
 have e:4294967296^(l.length-1)=2^(32*(l.length-1)):=by rw[Nat.pow_mul]
 rw[e] at h1
 rw[h1]
 exact bitLen_shift _ _ (by rw[←h1];exact hl)

theorem ref_size (A:Option Addr) (l:List Nat) (n c:Nat) (hn:n=l.length) (hl16:l.length≤1000000) (w:World) (h:Rd w A l) (hlast:l.getLast?≠some 0):
 Calls Tryz.prog 216 #[.slice A n c] w fun e w'=>e=.returned (.int .i64 (bitLen (val l):Nat))∧w=w':=by
 subst hn
 by_cases h0:0<l.length
 · obtain⟨b,off,rfl,hb,hc⟩:=chk_facts l A w h h0
   have hne:nth l (l.length-1)≠0:=by
    rw[last_nth (by intro e;rw[e] at h0;simp at h0)] at hlast;simpa using hlast
   have E:=Lib.hid (bitLen_val h.sm h0 hne)
   have h2:((l.length:Int)==0)=false:=by rw[beq_eq_false_iff_ne];omega
   have hlt:=h.sm.nth (l.length-1)
   have hbl:bitLen (nth l (l.length-1))≤32:=bitLen_le hlt
   clear hlast hne
   go_enter Tryz.func216,Tryz.ntmps216
   go_wp2
   go_loop [3,4] (fun n v=>∃(x m:Nat),x<4294967296∧v=.int .u32 (x:Int)∧n=.int .i64 (m:Int)∧m+bitLen x=32*(l.length-1)+bitLen (nth l (l.length-1))) (fun _ v=>(intOf v).toNat)
   case atStart=>exact⟨nth l (l.length-1),32*(l.length-1),hlt,rfl,vi (by omega),rfl⟩
   case round=>
    obtain⟨x,m,hx,rfl,rfl,hm⟩:=hrel
    have HM:=Lib.hid hm
    by_cases hx0:x=0
    · subst hx0
      clear hm
      go_wp2
      go_ret
      refine⟨ret_int ?_,rfl⟩
      rw[E.out, ←HM.out]
      rfl
    · have hmb:m≤32*(l.length-1)+32:=by omega
      have H2:=Lib.hid (bitLen_half hx0)
      clear hm
      go_wp2
      go_round
      case rel=>exact⟨x/2,m+1,by omega,vi (by omega),by go_num,by have:=HM.out;have:=H2.out;omega⟩
      case measure=>first|(simp[intOf];done)|(simp[intOf];omega)
 · have hl0:l=[]:=List.eq_nil_of_length_eq_zero (by omega)
   subst hl0
   go_enter Tryz.func216,Tryz.ntmps216
   go_wp2
   go_ret
   exact⟨rfl,rfl⟩


theorem shl_or (x q r:Nat) (hx:x<4294967296) (hr:r<32) (hq:q<2^r):bits BinOp.or IntKind.u64 (IntKind.u64.wrap ((x:Int)*2^r)) (q:Int)=((x*2^r+q:Nat):Int):=by
 have h1:2^r≤2^31:=Nat.pow_le_pow_right (by decide) (by omega)
 have h2:x*2^r≤4294967295*2^31:=Nat.mul_le_mul (by omega) h1
 have h3:((x:Int)*2^r)=((x*2^r:Nat):Int):=by push_cast;rfl
 have h4:IntKind.u64.wrap ((x*2^r:Nat):Int)=((x*2^r:Nat):Int):=by rw[IntKind.wrap_u64];omega
 rw[h3,h4,u64_or_nat _ _ (by omega) (by omega)]
 have:=Nat.two_pow_add_eq_or_of_lt (i:=r) (b:=q) hq x
 rw[Nat.mul_comm x, ←this]
theorem ref_up (A:Option Addr) (l:List Nat) (n c:Nat) (hn:n=l.length) (m:Nat) (hm:m≤524288) (hl16:l.length≤1000000) (w:World) (h:Rd w A l):
 Calls Tryz.prog 217 #[.slice A n c,.int .i64 (m:Int)] w fun e w'=>∃A c,e=.returned (.slice A (limbs (val l*2^m)).length c)∧Own w' 153 w.heap.size A c (limbs (val l*2^m))∧Below w.heap.size w w':=by
 subst hn
 by_cases h0:0<l.length
 · have hmk:=fun W=>mk32 (m/32) ((m:Int)/32) (by omega) (by omega) W
   have h2:((l.length:Int)==0)=false:=by rw[beq_eq_false_iff_ne];omega
   go_enter Tryz.func217,Tryz.ntmps217
   go_wp2
   go_loopw [5,6,7] (fun v cy i wr=>∃(k:Nat) (o:List Nat) (q:Nat),k≤l.length∧i=.int .i64 (k:Int)∧cy=.int .u64 (q:Int)∧q<2^(m%32)∧o.length=m/32+k∧Sm o∧val o+4294967296^(m/32+k)*q=4294967296^(m/32)*(val (l.take k)*2^(m%32))∧OwnR wr w.heap.size 153 .u32 v o∧Below w.heap.size w wr) (fun _ _ i _=>l.length-(intOf i).toNat)
   case atStart=>
    refine⟨0,List.replicate (m/32) 0,0,Nat.zero_le _,rfl,rfl,Nat.two_pow_pos _,by simp,Sm.replicate _,?_,OwnR.made nrf (by omega),bbel⟩
    rw[val_replicate];simp[val]
   case round=>
    obtain⟨k,o,q,hk,rfl,rfl,hq,hlen,hso,hv,hown,hbl⟩:=hrel
    have HV:=Lib.hid hv
    have HLEN:=Lib.hid hlen
    clear hv hlen
    by_cases hk1:k<l.length
    · obtain⟨b,off,rfl,hc1⟩:=rd_at h hbl hk1
      have hlt:=h.sm.nth k
      have hY:(nth l k*2^(m%32)+q)%4294967296<4294967296:=Nat.mod_lt _ (by decide)
      go_wp2_with (at_builtin;refine wpList_app elem32 rfl _ _ rfl (hown.alloc _) rfl ⟨wr.heap.size,0,none⟩ rfl ((nth l k*2^(m%32)+q)%4294967296) ?c1 ?c2 ?c3 (fun v' w' hown' hgr hbb=>?_))
      case c1=>
       rw[shl_or _ _ _ hlt (by omega) hq]
       simp[go_sem]
      case c2=>have:=HLEN.out;omega
      case c3=>have:=hbl.size;simp;omega
      go_roundw
      case rel=>
       exact⟨k+1,_,_,by omega,by go_num,vi (by rw[shl_or _ _ _ hlt (by omega) hq];rfl),up_bound hlt hq,by rw[List.length_append,HLEN.out];rfl,hso.append (Sm.cons (Nat.mod_lt _ (by decide)) Sm.nil),up_step HLEN.out HV.out,hown',(hbl.alloc hbl.size _).trans hbb⟩
      case measure=>first|(simp[intOf];done)|(simp[intOf];omega)
    · have hkl:k=l.length:=by omega
      have hq31:2^(m%32)≤2^31:=Nat.pow_le_pow_right (by decide) (by omega)
      have hq32:q<4294967296:=by omega
      have hfin:val (o++[q])=val l*2^m:=by
       have:=HV.out
       rw[hkl,List.take_length,up_end] at this
       rw[val_append,HLEN.out, ←this,hkl];rfl
      have hs2:Sm (o++[q]):=hso.append (Sm.cons hq32 Sm.nil)
      have HF:=Lib.hid hfin
      have HKL:=Lib.hid hkl
      clear hfin hkl
      go_wp2_with (at_builtin;refine wpList_app elem32 rfl _ _ rfl (hown.alloc _) rfl ⟨wr.heap.size,0,none⟩ rfl q ?c1 ?c2 ?c3 (fun v' w' hown' hgr hbb=>?_))
      case c1=>simp[go_sem]
      case c2=>have:=HLEN.out;omega
      case c3=>have:=hbl.size;simp;omega
      obtain⟨A',c',rfl,hnc,ho⟩:=hown'.own hs2 (by have:=HLEN.out;simp;omega)
      refine(ref_Trim _ _ _ _ rfl hnc _ ho.rd).mono ?_
      rintro e w1 ⟨rfl,rfl⟩
      go_wp2
      go_ret
      have ho2:=ho.trim
      rw[HF.out] at ho2
      exact⟨_,_,by rw[←HF.out];rfl,ho2,(hbl.alloc hbl.size _).trans hbb⟩
 · have hl0:l=[]:=List.eq_nil_of_length_eq_zero (by omega)
   subst hl0
   have e:limbs (val []*2^m)=[]:=by rw[show val []=0 from rfl,Nat.zero_mul];rfl
   rw[e]
   go_enter Tryz.func217,Tryz.ntmps217
   go_wp2
   go_ret
   exact⟨_,_,rfl,Own.nil _ _ _,Below.refl _ _⟩

theorem ref_Up (A:Option Addr) (l:List Nat) (n c:Nat) (hn:n=l.length) (m:Int) (hm1: -9223372036854775808≤m) (hm2:m≤9223372036854775807) (w:World) (h:Rd w A l):
 Calls Tryz.prog 172 #[.agg #[.slice A n c],.int .i64 m] w (NatAns 153 w (upS l m)):=by
 subst hn
 have hl:=h.len
 have h1:=(h.alloc (Obj.cells #[Value.slice A l.length c] 67)).alloc (Obj.cells #[Value.slice none 0 0] 67)
 by_cases hc0:chk l=0
 · have hlen:=(chk_zero hc0).1
   have hlast:=(chk_zero hc0).2
   have hbits:=chk_bits h.sm hc0
   have Hchk:Hid (chk l=0):=hc0
   have e0:Hid (upS l m=if m<0 then ([],2) else if l=[] then ([],0) else if 524288-(bitLen (val l):Int)<m then ([],4) else (limbs (val l*2^m.toNat),0)):=by
    show upS l m=_
    unfold upS;rw[if_pos hc0]
   clear hc0
   by_cases hm0:m<0
   · rw[e0.out,if_pos hm0]
     go_enter Tryz.func172,Tryz.ntmps172
     go_wp2_with fail
     refine(ref_Check A l _ c rfl _ h1).mono ?_
     rintro e w1 ⟨rfl,hb1⟩
     rw[Hchk.out]
     obtain⟨hc1,hf1⟩:=bcell hb1
     have hbw1:Below w.heap.size w w1:=Below.trans (b:=_) bbel (hb1.mono (by go_size))
     have hz1_0:w.heap.size<w1.heap.size:=by have:=hb1.size;simp at this;omega
     have hz1_1:w.heap.size+1<w1.heap.size:=by have:=hb1.size;simp at this;omega
     go_wp2
     (try simp only[Exit.inBlock,Exit.then]);refine bodyPost_ret (by simp (maxDischargeDepth:=9) [results,Tryz.results172,go_sem,hc1,hz1_0,hz1_1];try rfl) rfl ?_
     exact⟨none,0,rfl,Own.nil _ _ _,bbel⟩
   · by_cases hl0:l.length=0
     · have hl1:l=[]:=List.eq_nil_of_length_eq_zero hl0
       rw[e0.out,if_neg hm0,if_pos hl1]
       have h3:((l.length:Int)==0)=true:=by rw[beq_iff_eq];omega
       clear hl0 hl1
       go_enter Tryz.func172,Tryz.ntmps172
       go_wp2_with fail
       refine(ref_Check A l _ c rfl _ h1).mono ?_
       rintro e w1 ⟨rfl,hb1⟩
       rw[Hchk.out]
       obtain⟨hc1,hf1⟩:=bcell hb1
       have hbw1:Below w.heap.size w w1:=Below.trans (b:=_) bbel (hb1.mono (by go_size))
       have hz1_0:w.heap.size<w1.heap.size:=by have:=hb1.size;simp at this;omega
       have hz1_1:w.heap.size+1<w1.heap.size:=by have:=hb1.size;simp at this;omega
       go_wp2
       (try simp only[Exit.inBlock,Exit.then]);refine bodyPost_ret (by simp (maxDischargeDepth:=9) [results,Tryz.results172,go_sem,hc1,hz1_0,hz1_1];try rfl) rfl ?_
       exact⟨none,0,rfl,Own.nil _ _ _,bbel⟩
     · have hl1:¬l=[]:=fun e=>hl0 (by rw[e];rfl)
       have h3:((l.length:Int)==0)=false:=by rw[beq_eq_false_iff_ne];omega
       by_cases hbig:524288-(bitLen (val l):Int)<m
       · rw[e0.out,if_neg hm0,if_neg hl1,if_pos hbig]
         clear hl1 hl0
         go_enter Tryz.func172,Tryz.ntmps172
         go_wp2_with fail
         refine(ref_Check A l _ c rfl _ h1).mono ?_
         rintro e w1 ⟨rfl,hb1⟩
         rw[Hchk.out]
         obtain⟨hc1,hf1⟩:=bcell hb1
         have hbw1:Below w.heap.size w w1:=Below.trans (b:=_) bbel (hb1.mono (by go_size))
         have hz1_0:w.heap.size<w1.heap.size:=by have:=hb1.size;simp at this;omega
         have hz1_1:w.heap.size+1<w1.heap.size:=by have:=hb1.size;simp at this;omega
         go_wp2_with fail
         refine(ref_size A l _ c rfl (by omega) _ (h1.below hb1) hlast).mono ?_
         rintro e w2 ⟨rfl,rfl⟩
         go_wp2
         (try simp only[Exit.inBlock,Exit.then]);refine bodyPost_ret (by simp (maxDischargeDepth:=9) [results,Tryz.results172,go_sem,hc1,hz1_0,hz1_1];try rfl) rfl ?_
         exact⟨none,0,rfl,Own.nil _ _ _,bbel⟩
       · rw[e0.out,if_neg hm0,if_neg hl1,if_neg hbig]
         obtain⟨m,rfl⟩:∃k:Nat,m=(k:Int):=⟨m.toNat,by omega⟩
         rw[Int.toNat_natCast]
         clear hl1 hl0
         go_enter Tryz.func172,Tryz.ntmps172
         go_wp2_with fail
         refine(ref_Check A l _ c rfl _ h1).mono ?_
         rintro e w1 ⟨rfl,hb1⟩
         rw[Hchk.out]
         obtain⟨hc1,hf1⟩:=bcell hb1
         have hbw1:Below w.heap.size w w1:=Below.trans (b:=_) bbel (hb1.mono (by go_size))
         have hz1_0:w.heap.size<w1.heap.size:=by have:=hb1.size;simp at this;omega
         have hz1_1:w.heap.size+1<w1.heap.size:=by have:=hb1.size;simp at this;omega
         go_wp2_with fail
         refine(ref_size A l _ c rfl (by omega) _ (h1.below hb1) hlast).mono ?_
         rintro e w2 ⟨rfl,rfl⟩
         go_wp2_with fail
         refine(ref_up A l _ c rfl m (by omega) (by omega) _ (h1.below hb1)).mono ?_
         rintro e w2 ⟨A',c',rfl,ho,hb2⟩
         obtain⟨hc2,hf2⟩:=bcell hb2
         have hz2:w.heap.size+1<w2.heap.size:=by have:=hb2.size;omega
         go_wp2_with fail
         refine(ref_nat _ _ _ _).mono ?_
         rintro e w3 ⟨rfl,hb3⟩
         obtain⟨hc3,hf3⟩:=bcell hb3
         have hz3:w.heap.size+1<w3.heap.size:=by have:=hb3.size;omega
         have hbw3:Below w.heap.size w w3:=(hbw1.trans (hb2.mono (by omega))).trans (hb3.mono (by omega))
         go_wp2
         (try simp only[Exit.inBlock,Exit.then]);refine bodyPost_ret (by simp (maxDischargeDepth:=9) [results,Tryz.results172,go_sem,hc3,hc2,hc1,hz1_0,hz1_1,hz2,hz3];try rfl) rfl ?_
         exact⟨_,_,rfl,((ho.below hb3 nrf).setCell (by simp;omega) _).mono (by omega),bbel⟩
 · have e0:upS l m=([],chk l):=by unfold upS;rw[if_neg hc0]
   have hne:(chk l !=0)=true:=by rw[bne_iff_ne];exact hc0
   rw[e0]
   clear hc0
   go_enter Tryz.func172,Tryz.ntmps172
   go_wp2_with fail
   refine(ref_Check A l _ c rfl _ h1).mono ?_
   rintro e w1 ⟨rfl,hb1⟩
   obtain⟨hc1,hf1⟩:=bcell hb1
   have hbw1:Below w.heap.size w w1:=Below.trans (b:=_) bbel (hb1.mono (by go_size))
   have hz1_0:w.heap.size<w1.heap.size:=by have:=hb1.size;simp at this;omega
   have hz1_1:w.heap.size+1<w1.heap.size:=by have:=hb1.size;simp at this;omega
   go_wp2
   (try simp only[Exit.inBlock,Exit.then]);refine bodyPost_ret (by simp (maxDischargeDepth:=9) [results,Tryz.results172,go_sem,hc1,hz1_0,hz1_1];try rfl) rfl ?_
   exact⟨none,0,rfl,Own.nil _ _ _,bbel⟩

theorem cell_keep {W w1:World} {a:Addr} {v:Value} (hb:Below W.heap.size W w1) (h:W.cell? a=some v):w1.cell? a=some v:=by
 rw[hb.cell (cell_lt h)];exact h

theorem Own.lt {w:World} {B c:Nat} {t:TypeId} {A:Option Addr} {l:List Nat} (h:Own w t B A c l) (a:Addr) (ha:A=some a):a.block<w.heap.size:=by
 rcases h.2.2 with ⟨rfl,_⟩|⟨g',cur,rfl,hB,hk,_⟩
 · cases ha
 · injection ha with ha;subst ha;exact hk.lt
theorem Own.setFar {w:World} {B c:Nat} {t:TypeId} {A:Option Addr} {l:List Nat} (h:Own w t B A c l) {p:Addr} (hp:∀a,A=some a→a.block≠p.block) (u:Value):Own (w.setCell p u) t B A c l:=by
 refine⟨h.1,h.2.1,?_⟩
 rcases h.2.2 with h|⟨g',cur,e,hg,hk,r⟩
 · exact .inl h
 · exact .inr ⟨g',cur,e,hg,hk.far (hp _ e) u,r⟩
theorem nat_checks (g:Nat) (A B:Option Addr) (a b:List Nat) (n m c d:Nat) (hn:n=a.length) (hm:m=b.length) (w:World) (ha:Rd w A a) (hb:Rd w B b)
 (h0:w.cell? ⟨g,0,none⟩=some (.slice A n c)) (h1:w.cell? ⟨g,1,none⟩=some (.slice B m d)):
 Calls Tryz.prog 184 #[.slice (some ⟨g,0,none⟩) 2 2] w (Says w (.int .i64 (chk2 a b))):=by
 subst hn hm
 have hg:=cell_lt h0
 simp only at hg
 go_enter Tryz.func184,Tryz.ntmps184
 go_wp2
 go_loopw [8] (fun i wr=>∃k:Nat,k≤2∧i=.int .i64 (k:Int)∧(1≤k→chk a=0)∧(2≤k→chk b=0)∧Below w.heap.size w wr) (fun i _=>2-(intOf i).toNat)
 case atStart=>exact⟨0,by omega,rfl,fun h=>by omega,fun h=>by omega,Below.refl _ _⟩
 case round=>
  obtain⟨k,hk,rfl,hka,hkb,hbl⟩:=hrel
  have HA:=Lib.hid hka
  have HB:=Lib.hid hkb
  have hsz:=hbl.size
  have hc0:=cell_keep hbl h0
  have hc1:=cell_keep hbl h1
  clear hka hkb h0 h1
  have hcases:k=0∨k=1∨k=2:=by omega
  rcases hcases with rfl|rfl|rfl
  · go_wp2_with fail
    refine(nat_Check A a _ c rfl _ ((ha.below hbl).alloc _)).mono ?_
    rintro e w1 ⟨rfl,hb1⟩
    have hbw:Below w.heap.size w w1:=(hbl.alloc hsz _).trans (hb1.mono (by simp;omega))
    by_cases hz:chk a=0
    · rw[hz]
      have HZ:=Lib.hid hz
      clear hz
      go_wp2
      go_roundw
      case rel=>exact⟨1,by omega,by go_num,fun _=>HZ.out,fun h=>by omega,hbw⟩
      case measure=>first|(simp[intOf];done)|(simp[intOf];omega)
    · have hne:(chk a !=0)=true:=by rw[bne_iff_ne];exact hz
      have e2:chk2 a b=chk a:=by unfold chk2;rw[if_neg hz]
      have E2:=Lib.hid e2
      clear hz e2
      go_wp2
      go_ret
      rw[E2.out]
      exact⟨rfl,hbw⟩
  · go_wp2_with fail
    refine(nat_Check B b _ d rfl _ ((hb.below hbl).alloc _)).mono ?_
    rintro e w1 ⟨rfl,hb1⟩
    have hbw:Below w.heap.size w w1:=(hbl.alloc hsz _).trans (hb1.mono (by simp;omega))
    by_cases hz:chk b=0
    · rw[hz]
      have HZ:=Lib.hid hz
      clear hz
      go_wp2
      go_roundw
      case rel=>exact⟨2,by omega,by go_num,fun _=>HA.out (by omega),fun _=>HZ.out,hbw⟩
      case measure=>first|(simp[intOf];done)|(simp[intOf];omega)
    · have hne:(chk b !=0)=true:=by rw[bne_iff_ne];exact hz
      have e2:chk2 a b=chk b:=by unfold chk2;rw[if_pos (HA.out (by omega))]
      have E2:=Lib.hid e2
      clear hz e2
      go_wp2
      go_ret
      rw[E2.out]
      exact⟨rfl,hbw⟩
  · have e2:chk2 a b=0:=by unfold chk2;rw[if_pos (HA.out (by omega))];exact HB.out (by omega)
    have E2:=Lib.hid e2
    clear e2
    go_wp2
    go_ret
    rw[E2.out]
    exact⟨rfl,hbl⟩

theorem ref_two (A B:Option Addr) (a b:List Nat) (n m c d:Nat) (hn:n=a.length) (hm:m=b.length) (w:World) (ha:Rd w A a) (hb:Rd w B b):
 Calls Tryz.prog 218 #[.agg #[.slice A n c],.agg #[.slice B m d]] w (Says w (.int .i64 (chk2 a b))):=by
 subst hn hm
 have ha2:=(ha.alloc (Obj.cells #[Value.slice A a.length c] 67)).alloc (Obj.cells #[Value.slice B b.length d] 67)
 have hb2:=(hb.alloc (Obj.cells #[Value.slice A a.length c] 67)).alloc (Obj.cells #[Value.slice B b.length d] 67)
 by_cases hz:chk a=0
 · have e2:chk2 a b=chk b:=by unfold chk2;rw[if_pos hz]
   have HZ:=Lib.hid hz
   clear hz
   rw[e2]
   go_enter Tryz.func218,Tryz.ntmps218
   go_wp2_with fail
   refine(ref_Check A a _ c rfl _ ha2).mono ?_
   rintro e w1 ⟨rfl,hb1⟩
   rw[HZ.out]
   obtain⟨hc1,hf1⟩:=bcell hb1
   have hbw1:Below w.heap.size w w1:=Below.trans (b:=_) bbel (hb1.mono (by go_size))
   have hz1_0:w.heap.size<w1.heap.size:=by have:=hb1.size;simp at this;omega
   have hz1_1:w.heap.size+1<w1.heap.size:=by have:=hb1.size;simp at this;omega
   go_wp2_with fail
   refine(ref_Check B b _ d rfl _ (hb2.below hb1)).mono ?_
   rintro e w2 ⟨rfl,hbb2⟩
   go_wp2
   go_ret
   exact⟨rfl,hbw1.trans (hbb2.mono (by omega))⟩
 · have e2:chk2 a b=chk a:=by unfold chk2;rw[if_neg hz]
   have hne:(chk a !=0)=true:=by rw[bne_iff_ne];exact hz
   clear hz
   rw[e2]
   go_enter Tryz.func218,Tryz.ntmps218
   go_wp2_with fail
   refine(ref_Check A a _ c rfl _ ha2).mono ?_
   rintro e w1 ⟨rfl,hb1⟩
   obtain⟨hc1,hf1⟩:=bcell hb1
   have hbw1:Below w.heap.size w w1:=Below.trans (b:=_) bbel (hb1.mono (by go_size))
   have hz1_0:w.heap.size<w1.heap.size:=by have:=hb1.size;simp at this;omega
   have hz1_1:w.heap.size+1<w1.heap.size:=by have:=hb1.size;simp at this;omega
   go_wp2
   go_ret
   exact⟨rfl,bbel⟩

def LimbsOne (w:World) (v:Nat) (e:Ending) (w':World):Prop:=
 ∃A c,e=.returned (.slice A (limbs v).length c)∧(limbs v).length≤c∧Own w' 153 w.heap.size A c (limbs v)∧Below w.heap.size w w'

theorem Row.drewN {w:World} {t:TypeId} {g:Nat} {l:List Nat} (h:Row w t g l) (n:Nat):Row (w.drewN n) t g l:=h
def RowRel (w:World) (g:Nat) (x y:List Nat) (i n:Nat) (v0:Nat) (v7 v8:Value) (wr:World):Prop:=
 ∃(k c:Nat) (o:List Nat),k≤y.length∧v8=.int .i64 (k:Int)∧v7=.int .u64 (c:Int)∧c<4294967296∧o.length=n∧Sm o∧(∀j,i+y.length≤j→nth o j=0)∧
  val o+4294967296^(i+k)*c=v0+4294967296^i*(nth x i*val (y.take k))∧Row wr 153 g o∧Below w.heap.size w wr

theorem ref_times (A B:Option Addr) (a b:List Nat) (n m c d:Nat) (hn:n=a.length) (hm:m=b.length) (ha16:a.length+b.length≤1000000) (w:World) (ha:Rd w A a) (hb:Rd w B b):
 Calls Tryz.prog 223 #[.slice A n c,.slice B m d] w (LimbsOne w (val a*val b)):=by
 subst hn hm
 have hmk:=fun W=>mk32 (a.length+b.length) ((a.length:Int)+(b.length:Int)) (by omega) (by omega) W
 go_enter Tryz.func223,Tryz.ntmps223
 go_wp2
 go_loopw [6] (fun i wr=>∃(k:Nat) (o:List Nat),k≤a.length∧i=.int .i64 (k:Int)∧o.length=a.length+b.length∧Sm o∧(∀j,k+b.length≤j→nth o j=0)∧val o=val (a.take k)*val b∧Row wr 153 w.heap.size o∧Below w.heap.size w wr) (fun i _=>a.length-(intOf i).toNat)
 case atStart=>
  exact⟨0,List.replicate (a.length+b.length) 0,Nat.zero_le _,rfl,by simp,Sm.replicate _,fun j _=>nth_replicate _ _,by rw[val_replicate];simp[val],row_new rfl rfl,bbel⟩
 case round=>
  obtain⟨wo,rfl⟩:∃wo:World,wo=wr:=⟨_,rfl⟩
  obtain⟨i,o,hi,rfl,hol,hos,hoz,hov,hrow,hbl⟩:=hrel
  have HOL:=Lib.hid hol
  have HOZ:=Lib.hid hoz
  have HOV:=Lib.hid hov
  clear hol hoz hov
  by_cases hi1:i<a.length
  · go_wp2
    go_loopw [7,8] (fun v7 v8 wr=>RowRel w w.heap.size a b i (a.length+b.length) (val o) v7 v8 wr) (fun _ v8 _=>b.length-(intOf v8).toNat)
    case atStart=>
     exact⟨0,0,o,Nat.zero_le _,rfl,rfl,by decide,HOL.out,hos,HOZ.out,by simp[val],hrow,hbl⟩
    case round=>
     obtain⟨k,cy,o2,hk,rfl,rfl,hcy,hol2,hos2,hoz2,hov2,hrow2,hbl2⟩:=hrel
     have HOL2:=Lib.hid hol2
     have HOZ2:=Lib.hid hoz2
     have HOV2:=Lib.hid hov2
     clear hol2 hoz2 hov2
     by_cases hk1:k<b.length
     · obtain⟨ba,oa,rfl,hca⟩:=rd_at ha hbl2 (k:=i) (by omega)
       obtain⟨bb,ob,rfl,hcb⟩:=rd_at hb hbl2 (k:=k) (by omega)
       have hco:=hrow2.cell (i+k) (by rw[HOL2.out];omega)
       have hfz:=hrow2.frozen (i+k)
       have hx:=ha.sm.nth i
       have hy:=hb.sm.nth k
       have ho:=hos2.nth (i+k)
       have hPb:=prod_le hx hy
       obtain⟨P,hP⟩:∃P:Nat,P=nth a i*nth b k:=⟨_,rfl⟩
       rw[←hP] at hPb
       have hPe:((nth a i:Nat):Int)*((nth b k:Nat):Int)=(P:Int):=by rw[hP,Int.natCast_mul]
       have HP:=Lib.hid hP
       have i1:(0:Int)≤(i:Int)+(k:Int):=by omega
       have i2:(i:Int)+(k:Int)<((a.length+b.length:Nat):Int):=by omega
       clear hP
       go_wp2
       go_quiet (fail)
       go_wp2
       go_roundw
       case rel=>
        have st:=row_step (P:=nth a i*nth b k) (by rw[HOL2.out];omega) HOV2.out
        rw[←HP.out] at st
        refine⟨k+1,(P+nth o2 (i+k)+cy)/4294967296,o2.set (i+k) ((P+nth o2 (i+k)+cy)%4294967296),by omega,by go_num,vi (by omega),by omega,by simp[HOL2.out],hos2.set _ _ (by omega),?_,?_,(Row.drewN hrow2 _).setE _ _ (by omega),bbel⟩
        · intro j hj
          rw[nth_set_ne _ _ _ _ (by omega)]
          exact HOZ2.out j hj
        · rw[←Nat.add_assoc,st,val_take_succ',HP.out]
          congr 1
          rw[Nat.pow_add,Nat.mul_add,Nat.mul_add]
          congr 1
          simp only[Nat.mul_assoc,Nat.mul_left_comm]
       case measure=>first|(simp[intOf];done)|(simp[intOf];omega)
     · have hkb:k=b.length:=by omega
       have hco:=hrow2.cell (i+b.length) (by rw[HOL2.out];omega)
       have hfz:=hrow2.frozen (i+b.length)
       have HKB:=Lib.hid hkb
       clear hkb
       go_wp2
       go_roundw
       case rel=>
        have hv:=HOV2.out
        rw[HKB.out,List.take_length] at hv
        have hz0:=HOZ2.out (i+b.length) nrf
        have hs:=val_set o2 (i+b.length) cy (by rw[HOL2.out];omega)
        refine⟨i+1,o2.set (i+b.length) cy,by omega,by go_num,by simp[HOL2.out],hos2.set _ _ hcy,?_,?_,hrow2.setE _ _ (by omega),bbel⟩
        · intro j hj
          rw[nth_set_ne _ _ _ _ (by omega)]
          exact HOZ2.out j (by omega)
        · rw[hz0,Nat.mul_zero,Nat.add_zero] at hs
          rw[hs,hv,HOV.out,val_take_succ',Nat.add_mul,Nat.mul_assoc]
       case measure=>first|(simp[intOf];done)|(simp[intOf];omega)
  · have hia:i=a.length:=by omega
    have hfin:val o=val a*val b:=by rw[HOV.out,hia,List.take_length]
    have HF:=Lib.hid hfin
    clear hfin hia
    go_wp2_with fail
    refine(ref_Trim _ o _ (a.length+b.length) HOL.out.symm nrf _ (hrow.rd0 hos (by rw[HOL.out];omega))).mono ?_
    rintro e w1 ⟨rfl,rfl⟩
    go_wp2
    go_ret
    have ho:=(hrow.own hos (by rw[HOL.out];omega) nrf o.length nrf nrf).trim
    have hle:=limbs_length_le hos
    rw[HOL.out] at ho hle
    rw[List.take_of_length_le (by rw[HOL.out];omega),HF.out] at ho
    rw[HF.out] at hle
    exact⟨_,_,by rw[HF.out];rfl,hle,ho,hbl⟩
end Go.Proofs.YtenekbfnlbipiaaGreatDoor
