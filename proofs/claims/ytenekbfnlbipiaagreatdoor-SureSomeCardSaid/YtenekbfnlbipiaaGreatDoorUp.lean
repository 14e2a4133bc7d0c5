/- Walks: nat.Up. -/
import Derived.Test.YtenekbfnlbipiaaGreatDoorM
import Derived.Test.YtenekbfnlbipiaaGreatDoorBgB
import Derived.Test.YtenekbfnlbipiaaGreatDoorBgA
import Derived.Deep.RegionHeld3
namespace Go.Proofs.YtenekbfnlbipiaaGreatDoor
open Go.RowKit
set_option linter.unusedVariables false
set_option linter.unusedSimpArgs false
set_option maxHeartbeats 4000000
set_option maxRecDepth 100000

theorem Own.cap {w:World} {t:TypeId} {B c c':Nat} {A:Option Addr} {l:List Nat} (h:Own w t B A c l) (h1:l.length≤c') (h2:c'≤c):Own w t B A c' l:=by
 refine⟨h.1,h.2.1,?_⟩
 rcases h.2.2 with ⟨a,b,e⟩|⟨g,cur,e,hg,hk,r1,r2,r3⟩
 · exact .inl ⟨a,b,by omega⟩
 · exact .inr ⟨g,cur,e,hg,hk,h1,by omega,r3⟩
theorem nat_trimmed_own2 (A:Option Addr) (l:List Nat) (n c B:Nat) (hn:n=l.length) (hc:n≤c) (w:World) (h:Own w 153 B A c l):
 Calls Tryz.prog 182 #[.slice A n c] w fun e w'=>∃A c,e=.returned (.agg #[.slice A (limbs (val l)).length c])∧Own w' 153 B A c (limbs (val l))∧Below w.heap.size w w':=by
 refine(nat_trimmed A l n c hn hc w h.rd).mono ?_
 rintro e w' ⟨A',hA,hz,rfl,hb⟩
 have hlen:=limbs_length_le h.1
 rcases hA with rfl|rfl
 · exact⟨_,_,rfl,(h.below hb nrf).trim.cap nrf (by omega),hb⟩
 · have e0:=hz rfl
   rw[e0]
   exact⟨none,0,rfl,Own.nil _ _ _,hb⟩
theorem ownsRow_bel {w w':World} {B:Nat} {e:TypeId} {s n:Nat} {v:Value} {xs:List Value} (h:w.ownsRow B e s v n xs) (hb:Below w.heap.size w w'):w'.ownsRow B e s v n xs:=
 h.kept ⟨hb.os,hb.tape,hb.output,hb.size,fun k hk _=>hb.block k hk⟩ (by cases h':v.ownBlock with|none=>exact .inl rfl|some _=>exact .inr (by simp)) (row:=none)
theorem made_row {w:World} {B n:Nat} {t:TypeId} (hB:B≤w.heap.size) (hn:n≤70368744177664):(w.alloc (.cells (c32 (List.replicate n 0)) t)).ownsRow B t 1 (.slice (some ⟨w.heap.size,0,none⟩) n n) n (ints .u32 (List.replicate n 0)):=by
 have:=OwnR.made (t:=t) (n:=n) hB hn
 unfold OwnR at this
 simpa using this
theorem row_news {w:World} {t:TypeId} {g:Nat} {o:List Nat} (h:Row w t g o):∀j u,(ints .u32 o)[j]?=some u→w.cell? ((⟨g,0,none⟩:Addr).add j)=some u:=by
 intro j u hu
 have hadd:(⟨g,0,none⟩:Addr).add j=⟨g,j,none⟩:=by unfold Addr.add;split <;> simp_all
 have hj:j<o.length:=by
  rcases Nat.lt_or_ge j o.length with h1|h1
  · exact h1
  · rw[List.getElem?_eq_none (by simpa using h1)] at hu;cases hu
 rw[ints_get .u32 o j hj] at hu
 injection hu with hu
 rw[hadd,h.cell j hj,hu]
theorem ints_one (o:List Nat):∀u ∈ ints .u32 o,u.oneCell'=true:=by
 intro u hu
 simp only[ints,List.mem_map] at hu
 obtain⟨z,_,rfl⟩:=hu
 rfl
theorem ownsRow_own {w:World} {B n g cap:Nat} {t:TypeId} {a b:List Nat} (h:w.ownsRow B t 1 (.slice (some ⟨g,0,none⟩) n cap) n (ints .u32 a++ints .u32 b)) (hn:n=(a++b).length) (hs:Sm (a++b)) (hl:(a++b).length≤35184372088960):n≤cap∧Own w t B (some ⟨g,0,none⟩) cap (a++b):=by
 subst hn
 have h':OwnR w B t .u32 (.slice (some ⟨g,0,none⟩) (a++b).length cap) (a++b):=by unfold OwnR;rw[ints_append];exact h
 obtain⟨A,c,e,h1,h2⟩:=h'.own hs hl
 injection e with e1 _ e3
 subst e1 e3
 exact⟨h1,h2⟩
theorem up_val (q r v m:Nat) (o:List Nat) (hq:q=m/32) (hr:r=m%32) (ho:val o=v*2^r):val (List.replicate q 0++o)=v*2^m:=by
 rw[val_append,val_replicate,ho,List.length_replicate,Nat.zero_add]
 have h1:4294967296^q=2^(32*q):=by rw[Nat.pow_mul]
 have h2:m=32*q+r:=by omega
 rw[h1,h2,Nat.pow_add]
 simp only[Nat.mul_left_comm]
theorem bitLen_pos {v:Nat} (h:0<v):0<bitLen v:=by unfold bitLen;split <;> omega

theorem nat_Up (A:Option Addr) (l:List Nat) (n c:Nat) (hn:n=l.length) (m:Int) (hm1: -9223372036854775808≤m) (hm2:m≤9223372036854775807) (w:World) (h:Rd w A l):
 Calls Tryz.prog 131 #[.agg #[.slice A n c],.int .i64 m] w (NatAns 153 w (upS l m)):=by
 subst hn
 have hl:=h.len
 have h1:=(h.alloc (Obj.cells #[Value.slice A l.length c] 67)).alloc (Obj.cells #[Value.slice none 0 0] 67)
 by_cases hc0:chk l=0
 · have hlen:=(chk_zero hc0).1
   have hlast:=(chk_zero hc0).2
   have hbits:=chk_bits h.sm hc0
   have eb:Hid (bitsS l=(((bitLen (val l):Nat):Int),0)):=by show bitsS l=_;unfold bitsS;rw[if_pos hc0]
   have e0:Hid (upS l m=if m<0 then ([],2) else if l=[] then ([],0) else if 524288-(bitLen (val l):Int)<m then ([],4) else (limbs (val l*2^m.toNat),0)):=by
    show upS l m=_
    unfold upS;rw[if_pos hc0]
   clear hc0
   by_cases hm0:m<0
   · rw[e0.out,if_pos hm0]
     go_enter Tryz.func131,Tryz.ntmps131
     go_wp2_with fail
     refine(nat_Bits A l _ c rfl _ h1).mono ?_
     rintro e w1 ⟨rfl,hb1⟩
     rw[eb.out]
     obtain⟨hc1,hf1⟩:=bcell hb1
     have hbw1:Below w.heap.size w w1:=Below.trans (b:=_) bbel (hb1.mono (by go_size))
     have hz1_0:w.heap.size<w1.heap.size:=by have:=hb1.size;simp at this;omega
     have hz1_1:w.heap.size+1<w1.heap.size:=by have:=hb1.size;simp at this;omega
     go_wp2
     (try simp only[Exit.inBlock,Exit.then]);refine bodyPost_ret (by simp (maxDischargeDepth:=9) [results,Tryz.results131,go_sem,hc1,hz1_0,hz1_1];try rfl) rfl ?_
     exact⟨none,0,rfl,Own.nil _ _ _,bbel⟩
   · by_cases hl0:l.length=0
     · have hl1:l=[]:=List.eq_nil_of_length_eq_zero hl0
       rw[e0.out,if_neg hm0,if_pos hl1]
       have eb0:bitLen (val l)=0:=by rw[hl1];rfl
       rw[eb0] at eb
       clear hl0 hl1 eb0
       go_enter Tryz.func131,Tryz.ntmps131
       go_wp2_with fail
       refine(nat_Bits A l _ c rfl _ h1).mono ?_
       rintro e w1 ⟨rfl,hb1⟩
       rw[eb.out]
       obtain⟨hc1,hf1⟩:=bcell hb1
       have hbw1:Below w.heap.size w w1:=Below.trans (b:=_) bbel (hb1.mono (by go_size))
       have hz1_0:w.heap.size<w1.heap.size:=by have:=hb1.size;simp at this;omega
       have hz1_1:w.heap.size+1<w1.heap.size:=by have:=hb1.size;simp at this;omega
       go_wp2
       (try simp only[Exit.inBlock,Exit.then]);refine bodyPost_ret (by simp (maxDischargeDepth:=9) [results,Tryz.results131,go_sem,hc1,hz1_0,hz1_1];try rfl) rfl ?_
       exact⟨none,0,rfl,Own.nil _ _ _,bbel⟩
     · have hl1:¬l=[]:=fun e=>hl0 (by rw[e];rfl)
       have hv0:0<bitLen (val l):=by
        refine bitLen_pos (Nat.pos_of_ne_zero fun e=>?_)
        have:=limbs_of h.sm hlast
        rw[e] at this
        exact absurd this.symm hl1
       obtain⟨bl,hbl⟩:∃bl,bl=bitLen (val l):=⟨_,rfl⟩
       rw[←hbl] at eb e0 hv0 hbits
       by_cases hbig:524288-(bl:Int)<m
       · rw[e0.out,if_neg hm0,if_neg hl1,if_pos hbig]
         clear hl1 hl0 hbl
         go_enter Tryz.func131,Tryz.ntmps131
         go_wp2_with fail
         refine(nat_Bits A l _ c rfl _ h1).mono ?_
         rintro e w1 ⟨rfl,hb1⟩
         rw[eb.out]
         obtain⟨hc1,hf1⟩:=bcell hb1
         have hbw1:Below w.heap.size w w1:=Below.trans (b:=_) bbel (hb1.mono (by go_size))
         have hz1_0:w.heap.size<w1.heap.size:=by have:=hb1.size;simp at this;omega
         have hz1_1:w.heap.size+1<w1.heap.size:=by have:=hb1.size;simp at this;omega
         go_wp2
         (try simp only[Exit.inBlock,Exit.then]);refine bodyPost_ret (by simp (maxDischargeDepth:=9) [results,Tryz.results131,go_sem,hc1,hz1_0,hz1_1];try rfl) rfl ?_
         exact⟨none,0,rfl,Own.nil _ _ _,bbel⟩
       · rw[e0.out,if_neg hm0,if_neg hl1,if_neg hbig]
         obtain⟨m,rfl⟩:∃k:Nat,m=(k:Int):=⟨m.toNat,by omega⟩
         rw[Int.toNat_natCast]
         clear hl1 hl0 hbl
         have hmk:=fun W=>mk32 (m/32) ((m:Int)/32) (by omega) (by omega) W
         have hwr:IntKind.i64.wrap ((m:Int)/32)=(m:Int)/32:=by rw[IntKind.wrap_i64];omega
         have hwr2:IntKind.i64.wrap ((m:Int)%32)=(m:Int)%32:=by rw[IntKind.wrap_i64];omega
         obtain⟨i0,hi0,hz0,hz1,hz2⟩:=info_parts info_u32
         go_enter Tryz.func131,Tryz.ntmps131
         go_wp2_with fail
         refine(nat_Bits A l _ c rfl _ h1).mono ?_
         rintro e w1 ⟨rfl,hb1⟩
         rw[eb.out]
         obtain⟨hc1,hf1⟩:=bcell hb1
         have hbw1:Below w.heap.size w w1:=Below.trans (b:=_) bbel (hb1.mono (by go_size))
         have hz1_0:w.heap.size<w1.heap.size:=by have:=hb1.size;simp at this;omega
         have hz1_1:w.heap.size+1<w1.heap.size:=by have:=hb1.size;simp at this;omega
         have hrd:=h1.below hb1
         have c0:w1.cell? ⟨w.heap.size,0,none⟩=some (.slice A l.length c):=by rw[hc1 _ _ (by go_size)];simp
         go_wp2
         go_region_held3 (fun w'=>w'.cell? ⟨w.heap.size,0,none⟩=some (.slice A l.length c)) (first|go_keep|exact c2|exact(World.cell?_alloc_lt w2 _ _ hzz2).trans c2|exact(below_cell hb13 hz1_0).trans c0|exact hc5)
          (first
           |(go_at_call 183;refine(nat_shifted A l _ c rfl _ (m%32) (by first|omega|(rw[Int.tmod_eq_emod_of_nonneg (by omega)];omega)) (by omega) (by omega) _ (by first|exact hrd.drew|exact hrd.drew.alloc _)).mono ?_;rintro e w2 ⟨o,g,⟨hol,hov⟩,hos,hgB,hrow,rfl,hb2⟩;have HOL:=Lib.hid hol;have HOV:=Lib.hid hov;clear hol hov;have hb12:Below w1.heap.size w1 w2:=(by first|exact((Below.refl _ _).drew).trans hb2|exact(((Below.refl _ _).drew).alloc nrf _).trans (hb2.mono (by simp)));have hz12:w1.heap.size≤w2.heap.size:=hb12.size;have hzz2:w.heap.size<w2.heap.size:=(by have:=hb12.size;omega);have c2:w2.cell? ⟨w.heap.size,0,none⟩=some (.slice A l.length c):=(below_cell hb12 hz1_0).trans c0)
           |((refine step_append_lies _ (by rfl) _ _ _ (by rfl) w1.heap.size 153 i0 _ 1 4 Tryz.underlying65 hi0 hz0 hz1 hz2 rfl (by decide) (.slice (some ⟨w1.heap.size,0,none⟩) (m/32) (m/32)) (m/32) (ints .u32 (List.replicate (m/32) 0)) (by rfl) (ownsRow_bel (made_row (w:=w1.drew) nrf (by omega)) hb2) ⟨g,0,none⟩ o.length o.length (ints .u32 o) (by rfl) (by simp) (row_news hrow) (ints_one o) (by have:=HOL.out;omega) (by have:=HOL.out;unfold maxLen;omega) (by have:=HOL.out;omega) (by omega) _ rfl ?_;intro ga cap w3 hown3 hgrow hat hlt;have hb13:Below w1.heap.size w1 w3:=Below.grown hb12 hgrow hz12 (by simp[Value.ownBlock])))
           |((refine step_append_lies _ (by rfl) _ _ _ (by rfl) w1.heap.size 153 i0 _ 1 4 Tryz.underlying65 hi0 hz0 hz1 hz2 rfl (by decide) (.slice (some ⟨w2.heap.size,0,none⟩) (m/32) (m/32)) (m/32) (ints .u32 (List.replicate (m/32) 0)) (by rfl) (made_row (w:=w2) (by omega) (by omega)) ⟨g,0,none⟩ o.length o.length (ints .u32 o) (by rfl) (by simp) (row_news (hrow.alloc _)) (ints_one o) (by have:=HOL.out;omega) (by have:=HOL.out;unfold maxLen;omega) (by have:=HOL.out;omega) (by simp;omega) _ rfl ?_;intro ga cap w3 hown3 hgrow hat hlt;have hb13:Below w1.heap.size w1 w3:=Below.grown (Below.alloc hb12 hz12 _) hgrow (by simp;omega) (by simp[Value.ownBlock];omega)))
           |(go_at_call 182;have hso:Sm (List.replicate (m/32) 0++o):=(Sm.replicate _).append hos;have hlo:(List.replicate (m/32) 0++o).length≤35184372088960:=(by have:=HOL.out;simp;omega);refine(nat_trimmed_own2 _ (List.replicate (m/32) 0++o) _ cap w1.heap.size (by simp) (ownsRow_own hown3 (by simp) hso hlo).1 _ (ownsRow_own hown3 (by simp) hso hlo).2).mono ?_;rintro e w4 ⟨A',c',rfl,ho,hb4⟩;have hb14:Below w1.heap.size w1 w4:=hb13.trans (hb4.mono hb13.size);have hc4:w4.cell? ⟨w.heap.size+1,0,none⟩=some (Value.slice none 0 0):=(by rw[below_cell hb14 hz1_1,hc1 _ _ (by simp)];simp[go_sem]);have hf4:w4.frozen? ⟨w.heap.size+1,0,none⟩=false:=(by rw[below_frozen hb14 hz1_1,hf1 _ _ (by simp)];simp[go_sem]);have hc5:w4.cell? ⟨w.heap.size,0,none⟩=some (Value.slice A l.length c):=(by rw[below_cell hb14 hz1_0];exact c0)))
         all_goals (
          have hbw4:Below w.heap.size w w4:=hbw1.trans (hb14.mono (by omega))
          have hv:=up_val (m/32) (m%32) (val l) m o rfl rfl HOV.out
          rw[hv] at ho ⊢
          go_wp2
          (try simp only[Exit.inBlock,Exit.then]);refine bodyPost_ret (by simp (maxDischargeDepth:=9) [results,Tryz.results131,go_sem,hc4];try rfl) rfl ?_
          exact⟨_,_,rfl,Own.mono (Own.setCell (p:=⟨w.heap.size+1,0,none⟩) ho hz1_1 _) hbw1.size,bbel⟩)
 · have e0:upS l m=([],chk l):=by unfold upS;rw[if_neg hc0]
   have hne:(chk l !=0)=true:=by rw[bne_iff_ne];exact hc0
   have eb:Hid (bitsS l=(0,chk l)):=by show bitsS l=_;unfold bitsS;rw[if_neg hc0]
   rw[e0]
   clear hc0
   go_enter Tryz.func131,Tryz.ntmps131
   go_wp2_with fail
   refine(nat_Bits A l _ c rfl _ h1).mono ?_
   rintro e w1 ⟨rfl,hb1⟩
   rw[eb.out]
   obtain⟨hc1,hf1⟩:=bcell hb1
   have hbw1:Below w.heap.size w w1:=Below.trans (b:=_) bbel (hb1.mono (by go_size))
   have hz1_0:w.heap.size<w1.heap.size:=by have:=hb1.size;simp at this;omega
   have hz1_1:w.heap.size+1<w1.heap.size:=by have:=hb1.size;simp at this;omega
   go_wp2
   (try simp only[Exit.inBlock,Exit.then]);refine bodyPost_ret (by simp (maxDischargeDepth:=9) [results,Tryz.results131,go_sem,hc1,hz1_0,hz1_1];try rfl) rfl ?_
   exact⟨none,0,rfl,Own.nil _ _ _,bbel⟩
end Go.Proofs.YtenekbfnlbipiaaGreatDoor
