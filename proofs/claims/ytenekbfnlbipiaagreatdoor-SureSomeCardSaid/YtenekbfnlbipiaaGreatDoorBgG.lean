/- Walk of numeralbig: the greatest common divisor, where one of two is a power of two. -/
import Derived.Test.YtenekbfnlbipiaaGreatDoorBgD
import Derived.Test.YtenekbfnlbipiaaGreatDoorPlain
import Derived.Below
import Derived.Test.YtenekbfnlbipiaaGreatDoorA
namespace Go.Proofs.YtenekbfnlbipiaaGreatDoor
open Go.RowKit
set_option linter.unusedVariables false
set_option linter.unusedSimpArgs false
set_option maxHeartbeats 4000000
set_option maxRecDepth 100000
namespace Bg

theorem tz_le {x N:Nat} (h:(limbs x).length≤N):tz x≤32*N:=by
 by_cases h0:x=0
 · subst h0;exact Nat.zero_le _
 · obtain⟨m,hm⟩:=tz_spec h0
   have h1:x<4294967296^N:=(length_limbs_le x N).1 h
   have h2:2^tz x≤x:=by
    conv=>rhs;rw[hm]
    exact Nat.le_mul_of_pos_right _ (by omega)
   have h3:2^tz x<2^(32*N):=by
    rw[Nat.pow_mul]
    exact Nat.lt_of_le_of_lt h2 h1
   have:=(Nat.pow_lt_pow_iff_right (by decide)).1 h3
   omega
theorem bl_le {x N:Nat} (h:(limbs x).length≤N):bitLen x≤32*N:=by
 have h1:x<4294967296^N:=(length_limbs_le x N).1 h
 have e:4294967296^N=2^(32*N):=by rw[Nat.pow_mul]
 rw[e] at h1
 exact bitLen_le h1
theorem big_common (A B:Option Addr) (u v:Nat) (c d:Nat) (hu:u≠0) (hv:v≠0) (h2:u=2^tz u∨v=2^tz v) (hlu:(limbs u).length≤20000) (hlv:(limbs v).length≤20000) (w:World) (ha:Rd w A (limbs u)) (hb:Rd w B (limbs v)) (hT:Tz w):
 Calls Tryz.prog 147 #[.slice A (limbs u).length c,.slice B (limbs v).length d] w (LimbsOne w (Nat.gcd u v)):=by
 have hZu:=fun W h hT=>big_zeros A (limbs u) _ c rfl (by omega) W h (last_limbs u) hT
 have hZv:=fun W h hT=>big_zeros B (limbs v) _ d rfl (by omega) W h (last_limbs v) hT
 have hLu:=fun W h=>big_bitLen A (limbs u) _ c rfl (by omega) W h (last_limbs u)
 have hLv:=fun W h=>big_bitLen B (limbs v) _ d rfl (by omega) W h (last_limbs v)
 rw[val_limbs] at hZu hZv hLu hLv
 have tu:=tz_le hlu
 have tv:=tz_le hlv
 have bu:=bl_le hlu
 have bv:=bl_le hlv
 have lu:0<(limbs u).length:=limbs_pos hu
 have lv:0<(limbs v).length:=limbs_pos hv
 have pu:=pow2_iff hu
 have pv:=pow2_iff hv
 by_cases hlt:u<v
 · by_cases hp:u=2^tz u
   · have hg1:(((tz u:Nat):Int)+1==((bitLen u:Nat):Int))=true:=by have:=pu.2 hp;simp;omega
     rw[Nat.gcd_comm,gcd_two hv hp]
     clear pu pv hp h2
     have hcmp:cmpL (limbs u) (limbs v)= -1:=by rw[cmpL_canon (sm_limbs u) (sm_limbs v) (last_limbs u) (last_limbs v),val_limbs,val_limbs];unfold cmpV;rw[if_pos hlt]
     go_enter Tryz.func147,Tryz.ntmps147
     go_wp2_with fail
     refine(big_cmp A B (limbs u) (limbs v) _ _ c d rfl rfl _ ha hb).mono ?_
     rintro e w1 ⟨rfl,hb1⟩
     rw[hcmp]
     clear hcmp
     have ha1:=ha.below hb1
     have hb2:=hb.below hb1
     have hT1:=hT.below hb1
     go_wp2_with fail
     refine(hZu _ ha1 hT1).mono ?_
     rintro e w2 ⟨rfl,rfl⟩
     go_wp2_with fail
     refine(hLu _ ha1).mono ?_
     rintro e w2 ⟨rfl,rfl⟩
     go_wp2_with fail
     have hal:Below w1.heap.size w1 (w1.alloc (.cells #[.int .u32 1] 153)):=(Below.refl _ _).alloc nrf _
     have hR:Rd (w1.alloc (.cells #[.int .u32 1] 153)) (some ⟨w1.heap.size,0,none⟩) [1]:=(row_new (l:=[1]) rfl rfl:Row _ 153 w1.heap.size [1]).rd0 (by intro x hx;simp at hx;omega) (by simp)
     refine(hZv _ (hb2.below hal) (hT1.below hal)).mono ?_
     rintro e w2 ⟨rfl,rfl⟩
     go_wp2_with fail
     refine(hZu _ (ha1.below hal) (hT1.below hal)).mono ?_
     rintro e w2 ⟨rfl,rfl⟩
     have hal2:=hb1.trans (hal.mono hb1.size)
     go_wp2_with fail
     · have hm:min (tz v) (tz u)=tz u:=by omega
       have hU:=big_up (some ⟨w1.heap.size,0,none⟩) [1] 1 1 rfl (tz u) (by omega) (by simp) _ hR
       rw[show val [1]*2^tz u=2^tz u by simp[val]] at hU
       refine hU.mono ?_
       rintro e w3 ⟨A3,c3,rfl,r1,r2,hb3⟩
       go_wp2
       go_ret
       show LimbsOne w _ _ _
       first|rw[hm]|rw[Nat.min_comm,hm]
       exact⟨_,_,rfl,r1,r2.mono hal2.size,hal2.trans (hb3.mono hal2.size)⟩
     · have hm:min (tz v) (tz u)=tz v:=by omega
       have hU:=big_up (some ⟨w1.heap.size,0,none⟩) [1] 1 1 rfl (tz v) (by omega) (by simp) _ hR
       rw[show val [1]*2^tz v=2^tz v by simp[val]] at hU
       refine hU.mono ?_
       rintro e w3 ⟨A3,c3,rfl,r1,r2,hb3⟩
       go_wp2
       go_ret
       show LimbsOne w _ _ _
       first|rw[hm]|rw[Nat.min_comm,hm]
       exact⟨_,_,rfl,r1,r2.mono hal2.size,hal2.trans (hb3.mono hal2.size)⟩
   · have hp2:v=2^tz v:=h2.resolve_left hp
     have hg1:(((tz u:Nat):Int)+1==((bitLen u:Nat):Int))=false:=by
      have:¬tz u+1=bitLen u:=fun h=>hp (pu.1 h)
      simp;omega
     have hg2:(((tz v:Nat):Int)+1==((bitLen v:Nat):Int))=true:=by have:=pv.2 hp2;simp;omega
     rw[gcd_two hu hp2]
     clear pu pv hp h2 hp2
     have hcmp:cmpL (limbs u) (limbs v)= -1:=by rw[cmpL_canon (sm_limbs u) (sm_limbs v) (last_limbs u) (last_limbs v),val_limbs,val_limbs];unfold cmpV;rw[if_pos hlt]
     go_enter Tryz.func147,Tryz.ntmps147
     go_wp2_with fail
     refine(big_cmp A B (limbs u) (limbs v) _ _ c d rfl rfl _ ha hb).mono ?_
     rintro e w1 ⟨rfl,hb1⟩
     rw[hcmp]
     clear hcmp
     have ha1:=ha.below hb1
     have hb2:=hb.below hb1
     have hT1:=hT.below hb1
     go_wp2_with fail
     refine(hZu _ ha1 hT1).mono ?_
     rintro e w2 ⟨rfl,rfl⟩
     go_wp2_with fail
     refine(hLu _ ha1).mono ?_
     rintro e w2 ⟨rfl,rfl⟩
     go_wp2_with fail
     refine(hZv _ hb2 hT1).mono ?_
     rintro e w2 ⟨rfl,rfl⟩
     go_wp2_with fail
     refine(hLv _ hb2).mono ?_
     rintro e w2 ⟨rfl,rfl⟩
     go_wp2_with fail
     have hal:Below w1.heap.size w1 (w1.alloc (.cells #[.int .u32 1] 153)):=(Below.refl _ _).alloc nrf _
     have hR:Rd (w1.alloc (.cells #[.int .u32 1] 153)) (some ⟨w1.heap.size,0,none⟩) [1]:=(row_new (l:=[1]) rfl rfl:Row _ 153 w1.heap.size [1]).rd0 (by intro x hx;simp at hx;omega) (by simp)
     refine(hZv _ (hb2.below hal) (hT1.below hal)).mono ?_
     rintro e w2 ⟨rfl,rfl⟩
     go_wp2_with fail
     refine(hZu _ (ha1.below hal) (hT1.below hal)).mono ?_
     rintro e w2 ⟨rfl,rfl⟩
     have hal2:=hb1.trans (hal.mono hb1.size)
     go_wp2_with fail
     · have hm:min (tz v) (tz u)=tz u:=by omega
       have hU:=big_up (some ⟨w1.heap.size,0,none⟩) [1] 1 1 rfl (tz u) (by omega) (by simp) _ hR
       rw[show val [1]*2^tz u=2^tz u by simp[val]] at hU
       refine hU.mono ?_
       rintro e w3 ⟨A3,c3,rfl,r1,r2,hb3⟩
       go_wp2
       go_ret
       show LimbsOne w _ _ _
       first|rw[hm]|rw[Nat.min_comm,hm]
       exact⟨_,_,rfl,r1,r2.mono hal2.size,hal2.trans (hb3.mono hal2.size)⟩
     · have hm:min (tz v) (tz u)=tz v:=by omega
       have hU:=big_up (some ⟨w1.heap.size,0,none⟩) [1] 1 1 rfl (tz v) (by omega) (by simp) _ hR
       rw[show val [1]*2^tz v=2^tz v by simp[val]] at hU
       refine hU.mono ?_
       rintro e w3 ⟨A3,c3,rfl,r1,r2,hb3⟩
       go_wp2
       go_ret
       show LimbsOne w _ _ _
       first|rw[hm]|rw[Nat.min_comm,hm]
       exact⟨_,_,rfl,r1,r2.mono hal2.size,hal2.trans (hb3.mono hal2.size)⟩
 · have hcv:cmpL (limbs u) (limbs v)=cmpV u v:=by rw[cmpL_canon (sm_limbs u) (sm_limbs v) (last_limbs u) (last_limbs v),val_limbs,val_limbs]
   obtain⟨CV,hCV⟩:∃CV,CV=cmpV u v:=⟨_,rfl⟩
   have hcv0:0≤CV:=by rw[hCV];unfold cmpV;rw[if_neg hlt];split <;> decide
   have hcv1:CV≤1:=by rw[hCV];unfold cmpV;rw[if_neg hlt];split <;> decide
   rw[←hCV] at hcv
   clear hCV hlt
   by_cases hp:v=2^tz v
   · have hg1:(((tz v:Nat):Int)+1==((bitLen v:Nat):Int))=true:=by have:=pv.2 hp;simp;omega
     rw[gcd_two hu hp]
     clear pu pv hp h2
     have hcmp:cmpL (limbs u) (limbs v)=CV:=hcv
     go_enter Tryz.func147,Tryz.ntmps147
     go_wp2_with fail
     refine(big_cmp A B (limbs u) (limbs v) _ _ c d rfl rfl _ ha hb).mono ?_
     rintro e w1 ⟨rfl,hb1⟩
     rw[hcmp]
     clear hcmp
     have ha1:=ha.below hb1
     have hb2:=hb.below hb1
     have hT1:=hT.below hb1
     go_wp2_with fail
     refine(hZv _ hb2 hT1).mono ?_
     rintro e w2 ⟨rfl,rfl⟩
     go_wp2_with fail
     refine(hLv _ hb2).mono ?_
     rintro e w2 ⟨rfl,rfl⟩
     go_wp2_with fail
     have hal:Below w1.heap.size w1 (w1.alloc (.cells #[.int .u32 1] 153)):=(Below.refl _ _).alloc nrf _
     have hR:Rd (w1.alloc (.cells #[.int .u32 1] 153)) (some ⟨w1.heap.size,0,none⟩) [1]:=(row_new (l:=[1]) rfl rfl:Row _ 153 w1.heap.size [1]).rd0 (by intro x hx;simp at hx;omega) (by simp)
     refine(hZu _ (ha1.below hal) (hT1.below hal)).mono ?_
     rintro e w2 ⟨rfl,rfl⟩
     go_wp2_with fail
     refine(hZv _ (hb2.below hal) (hT1.below hal)).mono ?_
     rintro e w2 ⟨rfl,rfl⟩
     have hal2:=hb1.trans (hal.mono hb1.size)
     go_wp2_with fail
     · have hm:min (tz u) (tz v)=tz v:=by omega
       have hU:=big_up (some ⟨w1.heap.size,0,none⟩) [1] 1 1 rfl (tz v) (by omega) (by simp) _ hR
       rw[show val [1]*2^tz v=2^tz v by simp[val]] at hU
       refine hU.mono ?_
       rintro e w3 ⟨A3,c3,rfl,r1,r2,hb3⟩
       go_wp2
       go_ret
       show LimbsOne w _ _ _
       first|rw[hm]|rw[Nat.min_comm,hm]
       exact⟨_,_,rfl,r1,r2.mono hal2.size,hal2.trans (hb3.mono hal2.size)⟩
     · have hm:min (tz u) (tz v)=tz u:=by omega
       have hU:=big_up (some ⟨w1.heap.size,0,none⟩) [1] 1 1 rfl (tz u) (by omega) (by simp) _ hR
       rw[show val [1]*2^tz u=2^tz u by simp[val]] at hU
       refine hU.mono ?_
       rintro e w3 ⟨A3,c3,rfl,r1,r2,hb3⟩
       go_wp2
       go_ret
       show LimbsOne w _ _ _
       first|rw[hm]|rw[Nat.min_comm,hm]
       exact⟨_,_,rfl,r1,r2.mono hal2.size,hal2.trans (hb3.mono hal2.size)⟩
   · have hp2:u=2^tz u:=h2.resolve_right hp
     have hg1:(((tz v:Nat):Int)+1==((bitLen v:Nat):Int))=false:=by
      have:¬tz v+1=bitLen v:=fun h=>hp (pv.1 h)
      simp;omega
     have hg2:(((tz u:Nat):Int)+1==((bitLen u:Nat):Int))=true:=by have:=pu.2 hp2;simp;omega
     rw[Nat.gcd_comm,gcd_two hv hp2]
     clear pu pv hp h2 hp2
     have hcmp:cmpL (limbs u) (limbs v)=CV:=hcv
     go_enter Tryz.func147,Tryz.ntmps147
     go_wp2_with fail
     refine(big_cmp A B (limbs u) (limbs v) _ _ c d rfl rfl _ ha hb).mono ?_
     rintro e w1 ⟨rfl,hb1⟩
     rw[hcmp]
     clear hcmp
     have ha1:=ha.below hb1
     have hb2:=hb.below hb1
     have hT1:=hT.below hb1
     go_wp2_with fail
     refine(hZv _ hb2 hT1).mono ?_
     rintro e w2 ⟨rfl,rfl⟩
     go_wp2_with fail
     refine(hLv _ hb2).mono ?_
     rintro e w2 ⟨rfl,rfl⟩
     go_wp2_with fail
     refine(hZu _ ha1 hT1).mono ?_
     rintro e w2 ⟨rfl,rfl⟩
     go_wp2_with fail
     refine(hLu _ ha1).mono ?_
     rintro e w2 ⟨rfl,rfl⟩
     go_wp2_with fail
     have hal:Below w1.heap.size w1 (w1.alloc (.cells #[.int .u32 1] 153)):=(Below.refl _ _).alloc nrf _
     have hR:Rd (w1.alloc (.cells #[.int .u32 1] 153)) (some ⟨w1.heap.size,0,none⟩) [1]:=(row_new (l:=[1]) rfl rfl:Row _ 153 w1.heap.size [1]).rd0 (by intro x hx;simp at hx;omega) (by simp)
     refine(hZu _ (ha1.below hal) (hT1.below hal)).mono ?_
     rintro e w2 ⟨rfl,rfl⟩
     go_wp2_with fail
     refine(hZv _ (hb2.below hal) (hT1.below hal)).mono ?_
     rintro e w2 ⟨rfl,rfl⟩
     have hal2:=hb1.trans (hal.mono hb1.size)
     go_wp2_with fail
     · have hm:min (tz u) (tz v)=tz v:=by omega
       have hU:=big_up (some ⟨w1.heap.size,0,none⟩) [1] 1 1 rfl (tz v) (by omega) (by simp) _ hR
       rw[show val [1]*2^tz v=2^tz v by simp[val]] at hU
       refine hU.mono ?_
       rintro e w3 ⟨A3,c3,rfl,r1,r2,hb3⟩
       go_wp2
       go_ret
       show LimbsOne w _ _ _
       first|rw[hm]|rw[Nat.min_comm,hm]
       exact⟨_,_,rfl,r1,r2.mono hal2.size,hal2.trans (hb3.mono hal2.size)⟩
     · have hm:min (tz u) (tz v)=tz u:=by omega
       have hU:=big_up (some ⟨w1.heap.size,0,none⟩) [1] 1 1 rfl (tz u) (by omega) (by simp) _ hR
       rw[show val [1]*2^tz u=2^tz u by simp[val]] at hU
       refine hU.mono ?_
       rintro e w3 ⟨A3,c3,rfl,r1,r2,hb3⟩
       go_wp2
       go_ret
       show LimbsOne w _ _ _
       first|rw[hm]|rw[Nat.min_comm,hm]
       exact⟨_,_,rfl,r1,r2.mono hal2.size,hal2.trans (hb3.mono hal2.size)⟩
end Bg
end Go.Proofs.YtenekbfnlbipiaaGreatDoor
namespace Go.Proofs.YtenekbfnlbipiaaGreatDoor
open Go.RowKit
set_option linter.unusedVariables false
set_option linter.unusedSimpArgs false
structure Hole (z:Nat) (w w':World):Prop where
 os:w'.os=w.os
 tape:w'.tape=w.tape
 output:w'.output=w.output
 size:w.heap.size≤w'.heap.size
 block:∀k,k<w.heap.size→k≠z→w'.heap[k]?=w.heap[k]?
namespace Hole
variable {z:Nat} {w w' w'':World}
theorem refl (z:Nat) (w:World):Hole z w w:=⟨rfl,rfl,rfl,Nat.le_refl _,fun _ _ _=>rfl⟩
theorem trans (h:Hole z w w') (k:Hole z w' w''):Hole z w w'':=
 ⟨k.os.trans h.os,k.tape.trans h.tape,k.output.trans h.output,Nat.le_trans h.size k.size,fun i hi hz=>(k.block i (Nat.lt_of_lt_of_le hi h.size) hz).trans (h.block i hi hz)⟩
theorem of_below (z:Nat) (h:Below w.heap.size w w'):Hole z w w':=⟨h.os,h.tape,h.output,h.size,fun k hk _=>h.block k hk⟩
theorem then_ (h:Hole z w w') (k:Below w'.heap.size w' w''):Hole z w w'':=h.trans (of_below z k)
theorem drew (h:Hole z w w'):Hole z w w'.drew:=h.trans ⟨rfl,rfl,rfl,Nat.le_refl _,fun _ _ _=>rfl⟩
theorem drewN (h:Hole z w w') (n:Nat):Hole z w (w'.drewN n):=h.trans ⟨rfl,rfl,rfl,Nat.le_refl _,fun _ _ _=>rfl⟩
theorem setCell (h:Hole z w w') {p:Addr} (hp:p.block=z) (u:Value):Hole z w (w'.setCell p u):=
 h.trans ⟨rfl,rfl,rfl,by simp[World.setCell],fun k _ hk=>Below.heap_setCell w' p u k (by rw[hp];exact hk)⟩
theorem alloc (h:Hole z w w') (o:Obj):Hole z w (w'.alloc o):=h.then_ ((Below.refl _ _).alloc nrf o)
theorem cell (h:Hole z w w') {p:Addr} (hp:p.block<w.heap.size) (hz:p.block≠z):w'.cell? p=w.cell? p:=by
 unfold World.cell?
 rw[h.block _ hp hz]
theorem frozen (h:Hole z w w') {p:Addr} (hp:p.block<w.heap.size) (hz:p.block≠z):w'.frozen? p=w.frozen? p:=by
 unfold World.frozen?
 rw[h.block _ hp hz]
theorem keep (h:Hole z w w') {a:Addr} {v:Value} (hc:w.cell? a=some v) (hz:a.block≠z):w'.cell? a=some v:=(h.cell (cell_lt hc) hz).trans hc
theorem blk {g:Nat} {t:TypeId} {cs:Array Value} (h:Hole z w w') (hk:Blk w g t cs) (hz:g≠z):Blk w' g t cs:=(h.block g hk.lt hz).trans hk
theorem row {g:Nat} {t:TypeId} {l:List Nat} (h:Hole z w w') (hk:Row w t g l) (hz:g≠z):Row w' t g l:=h.blk hk hz
theorem below {B:Nat} {w0:World} (h0:Below B w0 w) (h:Hole z w w') (hz:B≤z) (hB:B≤w.heap.size):Below B w0 w':=
 h0.trans ⟨h.os,h.tape,h.output,h.size,fun k hk=>h.block k (by omega) (by omega)⟩
theorem rd {A:Option Addr} {l:List Nat} (h:Hole z w w') (hr:Rd w A l) (hz:∀a,A=some a→l≠[]→a.block≠z):Rd w' A l:=
 ⟨hr.1,hr.2.1,fun hn=>by
   obtain⟨b,off,e,hc⟩:=hr.2.2 hn
   exact⟨b,off,e,fun j hj=>h.keep (hc j hj) (show b≠z from hz ⟨b,off,none⟩ e (by intro h0;rw[h0] at hn;simp at hn))⟩⟩
end Hole
end Go.Proofs.YtenekbfnlbipiaaGreatDoor
namespace Go.Proofs.YtenekbfnlbipiaaGreatDoor
set_option linter.unusedVariables false
set_option linter.unusedSimpArgs false

theorem dv_high {vl M P3 g Y2 yl:Nat} (h1:vl<M) (h2:P3<g*Y2):vl+M*P3<g*(yl+M*Y2):=by
 have h3:M*(P3+1)≤M*(g*Y2):=Nat.mul_le_mul_left _ h2
 have e:g*(yl+M*Y2)=g*yl+M*(g*Y2):=by rw[Nat.mul_add,Nat.mul_left_comm]
 rw[e]
 rw[Nat.mul_add] at h3
 omega
theorem dv_low {vl M P3 g Y2 yl:Nat} (h1:g*Y2≤P3) (h2:yl<M) (h3:g≤Y2+1) (h0:0<g):(g-1)*(yl+M*Y2)≤vl+M*P3:=by
 obtain⟨k,rfl⟩:∃k,g=k+1:=⟨g-1,by omega⟩
 rw[Nat.add_sub_cancel]
 have e:k*(yl+M*Y2)=k*yl+M*(k*Y2):=by rw[Nat.mul_add,Nat.mul_left_comm]
 have h4:M*((k+1)*Y2)≤M*P3:=Nat.mul_le_mul_left _ h1
 have h5:k*yl≤Y2*M:=Nat.mul_le_mul (by omega) (by omega)
 rw[Nat.add_mul,Nat.one_mul,Nat.mul_add,Nat.mul_comm M Y2] at h4
 omega
theorem dv_test {g yt r top p2 y2:Nat} (h:g*yt+r=top):p2+4294967296*top<g*(y2+4294967296*yt)↔r*4294967296+p2<g*y2:=by
 have e:g*(y2+4294967296*yt)=g*y2+4294967296*(g*yt):=by rw[Nat.mul_add,Nat.mul_left_comm]
 rw[e]
 omega
theorem dv_top {vl M p2 top yl y2 yt:Nat} (h2:yl<M) (h:vl+M*(p2+4294967296*top)<4294967296*(yl+M*(y2+4294967296*yt))):top≤y2+4294967296*yt:=by
 rcases Nat.lt_or_ge (y2+4294967296*yt) top with hlt|hge
 · exfalso
   have h3:M*(4294967296*(y2+4294967296*yt+1))≤M*(p2+4294967296*top):=Nat.mul_le_mul_left _ (by omega)
   have e1:M*(4294967296*(y2+4294967296*yt+1))=4294967296*(M*(y2+4294967296*yt)+M):=by
    rw[Nat.mul_left_comm,Nat.mul_add,Nat.mul_one]
   rw[e1] at h3
   omega
 · exact hge

structure DvAt (P Y vl yl M p2 top y2 yt:Nat):Prop where
 hP:P=vl+M*(p2+4294967296*top)
 hY:Y=yl+M*(y2+4294967296*yt)
 hvl:vl<M
 hyl:yl<M
 hPY:P<4294967296*Y
 hyt:2147483648≤yt
 hyt2:yt<4294967296
 hy2:y2<4294967296
 hp2:p2<4294967296

theorem DvAt.topLe {P Y vl yl M p2 top y2 yt:Nat} (D:DvAt P Y vl yl M p2 top y2 yt):top≤y2+4294967296*yt:=by
 have h:=D.hPY
 rw[D.hP,D.hY] at h
 exact dv_top D.hyl h
theorem DvAt.start {P Y vl yl M p2 top y2 yt:Nat} (D:DvAt P Y vl yl M p2 top y2 yt):top/yt*yt+top%yt=top∧P<(top/yt+1)*Y∧top%yt<4294967296∧top/yt<8589934592:=by
 have h0:0<yt:=by have:=D.hyt;omega
 have hm:=Nat.div_add_mod top yt
 have hr:=Nat.mod_lt top h0
 have htop:=D.topLe
 have hyt:=D.hyt
 have hyt2:=D.hyt2
 have hy2:=D.hy2
 refine⟨by rw[Nat.mul_comm];exact hm,?_,by omega,?_⟩
 · rw[D.hP,D.hY]
   refine dv_high D.hvl ?_
   have e:(top/yt+1)*(y2+4294967296*yt)=(top/yt+1)*y2+4294967296*(yt*(top/yt)+yt):=by
    rw[Nat.mul_add,Nat.mul_left_comm,Nat.add_mul (top/yt) 1 yt,Nat.one_mul,Nat.mul_comm (top/yt) yt]
   rw[e]
   have:=D.hp2
   omega
 · rw[Nat.div_lt_iff_lt_mul h0]
   have:8589934592*2147483648≤8589934592*yt:=Nat.mul_le_mul_left _ hyt
   omega
theorem DvAt.more {P Y vl yl M p2 top y2 yt g r:Nat} (D:DvAt P Y vl yl M p2 top y2 yt) (hg:g*yt+r=top) (hb:4294967296≤g∨r*4294967296+p2<g*y2):P<g*Y∧0<g:=by
 have h1:P<g*Y:=by
  rcases hb with h|h
  · exact Nat.lt_of_lt_of_le D.hPY (Nat.mul_le_mul_right _ h)
  · rw[D.hP,D.hY]
    exact dv_high D.hvl ((dv_test hg).2 h)
 refine⟨h1,?_⟩
 rcases Nat.eq_zero_or_pos g with rfl|h
 · rw[Nat.zero_mul] at h1;omega
 · exact h
theorem DvAt.less {P Y vl yl M p2 top y2 yt g r:Nat} (D:DvAt P Y vl yl M p2 top y2 yt) (hg:g*yt+r=top) (hb:4294967296≤g∨r*4294967296+p2<g*y2):(g-1)*yt+(r+yt)=top∧P<(g-1+1)*Y∧0<g:=by
 obtain⟨h1,h0⟩:=D.more hg hb
 obtain⟨k,rfl⟩:∃k,g=k+1:=⟨g-1,by omega⟩
 rw[Nat.add_sub_cancel]
 refine⟨?_,h1,h0⟩
 rw[Nat.add_mul,Nat.one_mul] at hg
 omega
theorem DvAt.big {P Y vl yl M p2 top y2 yt:Nat} (D:DvAt P Y vl yl M p2 top y2 yt):4294967296≤y2+4294967296*yt:=by have:=D.hyt;omega
theorem DvAt.exit {P Y vl yl M p2 top y2 yt g r:Nat} (D:DvAt P Y vl yl M p2 top y2 yt) (hg:g*yt+r=top) (h1:g<4294967296) (h2:¬r*4294967296+p2<g*y2) (h0:0<g):(g-1)*Y≤P:=by
 have h3:g*(y2+4294967296*yt)≤p2+4294967296*top:=Nat.le_of_not_lt fun h=>h2 ((dv_test hg).1 h)
 rw[D.hP,D.hY]
 exact dv_low h3 D.hyl (by have:=D.big;omega) h0
theorem DvAt.broke {P Y vl yl M p2 top y2 yt g r:Nat} (D:DvAt P Y vl yl M p2 top y2 yt) (hg:g*yt+r=top) (hr:4294967296≤r):g<4294967296∧(0<g→(g-1)*Y≤P):=by
 have htop:=D.topLe
 have hy2:=D.hy2
 have hyt:=D.hyt
 have h1:g<4294967296:=by
  rcases Nat.lt_or_ge g 4294967296 with h|h
  · exact h
  · have:=Nat.mul_le_mul_right yt h
    omega
 refine⟨h1,fun h0=>?_⟩
 have h4:g*y2≤4294967295*4294967295:=Nat.mul_le_mul (by omega) (by omega)
 exact D.exit hg h1 (by omega) h0

theorem ms_step {x x0 y:List Nat} {g k i c l:Nat} (hk:k+i<x.length) (hx:nth x (k+i)<4294967296) (hl:l≤1)
 (hv:val x+4294967296^k*(g*val (y.take i))=val x0+4294967296^(k+i)*(c+l)):
 val (x.set (k+i) ((nth x (k+i)+4294967296-(c+g*nth y i)%4294967296-l)%4294967296))+4294967296^k*(g*val (y.take (i+1)))=
  val x0+4294967296^(k+(i+1))*((c+g*nth y i)/4294967296+(1-(nth x (k+i)+4294967296-(c+g*nth y i)%4294967296-l)/4294967296)):=by
 obtain⟨t,ht⟩:∃t,t=(nth x (k+i)+4294967296-(c+g*nth y i)%4294967296-l)%4294967296:=⟨_,rfl⟩
 obtain⟨l',hl'⟩:∃l',l'=1-(nth x (k+i)+4294967296-(c+g*nth y i)%4294967296-l)/4294967296:=⟨_,rfl⟩
 obtain⟨hi,hhi⟩:∃hi,hi=(c+g*nth y i)/4294967296:=⟨_,rfl⟩
 rw[←ht, ←hl', ←hhi,val_take_succ']
 have hs:=val_set x (k+i) t hk
 have e:t+(c+g*nth y i)+l=nth x (k+i)+4294967296*(hi+l'):=by omega
 obtain⟨M,hM⟩:∃M,M=4294967296^(k+i):=⟨_,rfl⟩
 have hM2:4294967296^(k+(i+1))=4294967296*M:=by rw[hM, ←Nat.add_assoc,Nat.pow_succ,Nat.mul_comm]
 have hM3:4294967296^k*(g*(val (y.take i)+4294967296^i*nth y i))=4294967296^k*(g*val (y.take i))+M*(g*nth y i):=by
  rw[hM,Nat.pow_add,Nat.mul_add,Nat.mul_add]
  congr 1
  simp only[Nat.mul_assoc,Nat.mul_left_comm]
 rw[hM2,hM3]
 rw[←hM] at hs hv
 have e2:=congrArg (M* ·) e
 simp only[Nat.mul_add] at e2 hv ⊢
 have e3:4294967296*M*hi=M*(4294967296*hi):=by rw[Nat.mul_comm 4294967296 M,Nat.mul_assoc]
 have e4:4294967296*M*l'=M*(4294967296*l'):=by rw[Nat.mul_comm 4294967296 M,Nat.mul_assoc]
 rw[e3,e4]
 omega
theorem ab_step {x x1 y:List Nat} {k i c:Nat} (hk:k+i<x.length)
 (hv:val x+4294967296^(k+i)*c=val x1+4294967296^k*val (y.take i)):
 val (x.set (k+i) ((nth x (k+i)+nth y i+c)%4294967296))+4294967296^(k+(i+1))*((nth x (k+i)+nth y i+c)/4294967296)=val x1+4294967296^k*val (y.take (i+1)):=by
 obtain⟨t,ht⟩:∃t,t=(nth x (k+i)+nth y i+c)%4294967296:=⟨_,rfl⟩
 obtain⟨c',hc'⟩:∃c',c'=(nth x (k+i)+nth y i+c)/4294967296:=⟨_,rfl⟩
 rw[←ht, ←hc',val_take_succ']
 have hs:=val_set x (k+i) t hk
 have e:t+4294967296*c'=nth x (k+i)+nth y i+c:=by omega
 obtain⟨M,hM⟩:∃M,M=4294967296^(k+i):=⟨_,rfl⟩
 have hM2:4294967296^(k+(i+1))=M*4294967296:=by rw[hM, ←Nat.add_assoc,Nat.pow_succ]
 have hM3:4294967296^k*(val (y.take i)+4294967296^i*nth y i)=4294967296^k*val (y.take i)+M*nth y i:=by
  rw[hM,Nat.pow_add,Nat.mul_add,Nat.mul_assoc]
 rw[hM2,hM3]
 rw[←hM] at hs hv
 have e2:=congrArg (M* ·) e
 simp only[Nat.mul_add] at e2
 rw[Nat.mul_assoc]
 omega

theorem dig_A {X V0 D g Y P:Nat} (h:X+D*(g*Y)=V0) (hP:V0<D*(P+1)) (hg:P<(g+1)*Y):X<D*Y:=by
 have h1:D*(P+1)≤D*((g+1)*Y):=Nat.mul_le_mul_left _ hg
 rw[Nat.add_mul g 1 Y,Nat.one_mul,Nat.mul_add D (g*Y) Y] at h1
 omega
theorem dig_B {X1 X2 V0 D g Y P N d:Nat} (h1:X1+D*(g*Y)=V0+N) (hg:0<g) (hlow:(g-1)*Y≤P) (hPV:D*P≤V0) (hX1:X1<N) (h2:X2+N*d=X1+D*Y) (hX2:X2<N) (hP:V0<D*(P+1)) (hYN:D*Y≤N):
 X2+D*((g-1)*Y)=V0∧X2<D*Y:=by
 obtain⟨k,rfl⟩:∃k,g=k+1:=⟨g-1,by omega⟩
 rw[Nat.add_sub_cancel] at*
 rw[Nat.add_mul,Nat.one_mul,Nat.mul_add] at h1
 have h3:D*(k*Y)≤D*P:=Nat.mul_le_mul_left _ hlow
 have hd:d=1:=by
  rcases Nat.lt_or_ge d 1 with h|h
  · have:d=0:=by omega
    subst this;omega
  · rcases Nat.lt_or_ge 1 d with h'|h'
    · exfalso
      have:=Nat.mul_le_mul_left N (show 2≤d from h')
      omega
    · omega
 subst hd
 omega
theorem val_high2 (y:List Nat) (n:Nat) (hn:y.length=n) (h2:2≤n):val y=val (y.take (n-2))+4294967296^(n-2)*(nth y (n-2)+4294967296*nth y (n-1)):=by
 rw[val_split y (n-2) (by omega)]
 congr 2
 rw[val_drop_nth,val_drop_nth,show n-2+1=n-1 from by omega,show n-1+1=n from by omega,List.drop_of_length_le (by omega)]
 simp[val]
theorem val_high3 (x:List Nat) (k n:Nat) (hk:k+n<x.length) (h2:2≤n) (hV:val (x.drop k)<4294967296^(n+1)):
 val (x.drop k)=val ((x.drop k).take (n-2))+4294967296^(n-2)*(nth x (k+n-2)+4294967296*(nth x (k+n-1)+4294967296*nth x (k+n))):=by
 have h:=val_split (x.drop k) (n-2) (by simp;omega)
 rw[List.drop_drop,show k+(n-2)=k+n-2 from by omega] at h
 have h':=val_drop_nth x (k+n-2)
 rw[show k+n-2+1=k+n-1 from by omega,val_drop_nth x (k+n-1),show k+n-1+1=k+n from by omega,val_drop_nth x (k+n)] at h'
 rw[h'] at h
 have hz:val (x.drop (k+n+1))=0:=by
  rcases Nat.eq_zero_or_pos (val (x.drop (k+n+1))) with h0|h0
  · exact h0
  · exfalso
    have h3:4294967296^(n-2)*79228162514264337593543950336≤4294967296^(n-2)*(nth x (k+n-2)+4294967296*(nth x (k+n-1)+4294967296*(nth x (k+n)+4294967296*val (x.drop (k+n+1))))):=Nat.mul_le_mul_left _ (by omega)
    have h4:4294967296^(n-2)*79228162514264337593543950336=4294967296^(n+1):=by
     rw[show(79228162514264337593543950336:Nat)=4294967296^3 from by decide, ←Nat.pow_add];congr 1;omega
    omega
 rw[hz,Nat.mul_zero,Nat.add_zero] at h
 exact h
theorem val_lt_of (x:List Nat) (h:Sm x) (k:Nat) (hz:∀j,k≤j→nth x j=0):val x<4294967296^k:=by
 rcases Nat.lt_or_ge k x.length with hk|hk
 · have h1:=val_split x k (by omega)
   have h2:=val_lt (h.take k)
   rw[List.length_take,Nat.min_eq_left (by omega)] at h2
   have h3:val (x.drop k)=0:=by
    have:x.drop k=List.replicate (x.length-k) 0:=by
     refine List.ext_getElem (by simp) fun i hi1 hi2=>?_
     rw[List.getElem_drop,List.getElem_replicate, ←nth_lt x (by simp at hi1;omega)]
     exact hz _ (by omega)
    rw[this,val_replicate]
   rw[h3] at h1
   omega
 · exact Nat.lt_of_lt_of_le (val_lt h) (Nat.pow_le_pow_right (by decide) hk)
theorem nth_zero_of (x:List Nat) (h:Sm x) (k j:Nat) (hv:val x<4294967296^k) (hj:k≤j):nth x j=0:=by
 have h1:nth x j=val x/4294967296^j%4294967296:=getD_val x h j
 rw[h1,Nat.div_eq_of_lt (Nat.lt_of_lt_of_le hv (Nat.pow_le_pow_right (by decide) hj))]

theorem bitLen_low {x:Nat} (h:x≠0):2^(bitLen x-1)≤x∧x<2^bitLen x∧0<bitLen x:=by
 unfold bitLen
 rw[if_neg h]
 exact⟨by rw[Nat.add_sub_cancel];exact Nat.log2_self_le h,Nat.lt_log2_self,by omega⟩
theorem dv_norm {b o:List Nat} {n s:Nat} (hb:Sm b) (hn:b.length=n) (h2:2≤n) (hl:nth b (n-1)≠0) (hs:s=32-bitLen (nth b (n-1))) (ho:o.length=n+1) (hso:Sm o) (hv:val o=val b*2^s):
 s<32∧val (o.take n)=val b*2^s∧2147483648≤nth o (n-1)∧val b*2^s<4294967296^n:=by
 obtain⟨h3,h4,h5⟩:=bitLen_low hl
 have h6:=hb.nth (n-1)
 have h7:bitLen (nth b (n-1))≤32:=bitLen_le (by omega)
 obtain⟨t,ht⟩:∃t,t=nth b (n-1):=⟨_,rfl⟩
 obtain⟨L,hL⟩:∃L,L=bitLen (nth b (n-1)):=⟨_,rfl⟩
 rw[←hL] at hs h3 h4 h5 h7
 rw[←ht] at h3 h4 h6
 have e1:2^(L-1)*2^s=2147483648:=by rw[←Nat.pow_add,show L-1+s=31 from by omega]
 have e2:2^L*2^s=4294967296:=by rw[←Nat.pow_add,show L+s=32 from by omega]
 have h8:2147483648≤t*2^s:=by rw[←e1];exact Nat.mul_le_mul_right _ h3
 have h9:(t+1)*2^s≤4294967296:=by rw[←e2];exact Nat.mul_le_mul_right _ h4
 have h10:=val_take_succ' b (n-1)
 rw[show n-1+1=n from by omega,List.take_of_length_le (by omega), ←ht] at h10
 have h11:=val_lt (hb.take (n-1))
 rw[List.length_take,Nat.min_eq_left (by omega)] at h11
 have hM:4294967296^n=4294967296^(n-1)*4294967296:=by rw[←Nat.pow_succ,show(n-1).succ=n from by omega]
 have h12:val b*2^s<4294967296^n:=by
  have h13:val b+1≤4294967296^(n-1)*(t+1):=by rw[Nat.mul_add,Nat.mul_one];omega
  have h14:=Nat.mul_le_mul_right (2^s) h13
  rw[Nat.mul_assoc] at h14
  have h15:=Nat.mul_le_mul_left (4294967296^(n-1)) h9
  have h16:=Nat.two_pow_pos s
  rw[Nat.add_mul,Nat.one_mul] at h14
  omega
 have hz:nth o n=0:=nth_zero_of o hso n n (by omega) nrf
 have h17:=val_take_succ' o n
 rw[List.take_of_length_le (by omega),hz,Nat.mul_zero,Nat.add_zero] at h17
 refine⟨by omega,by omega,?_,h12⟩
 have h18:=val_take_succ' o (n-1)
 rw[show n-1+1=n from by omega] at h18
 have h19:=val_lt (hso.take (n-1))
 rw[List.length_take,Nat.min_eq_left (by omega)] at h19
 rcases Nat.lt_or_ge (nth o (n-1)) 2147483648 with hlt|hge
 · exfalso
   have h20:4294967296^(n-1)*(nth o (n-1)+1)≤4294967296^(n-1)*(t*2^s):=Nat.mul_le_mul_left _ (by omega)
   have h21:4294967296^(n-1)*(t*2^s)≤val b*2^s:=by
    rw[←Nat.mul_assoc]
    exact Nat.mul_le_mul_right _ (by omega)
   rw[Nat.mul_add,Nat.mul_one] at h20
   omega
 · exact hge
theorem dv_start {va vb K n s m:Nat} (ha:va<4294967296^m) (hm:m=K+n) (hb:4294967296^(n-1)≤vb) (h2:2≤n):va*2^s<4294967296^(K+1)*(vb*2^s):=by
 rw[←Nat.mul_assoc]
 refine Nat.mul_lt_mul_of_pos_right ?_ (Nat.two_pow_pos s)
 refine Nat.lt_of_lt_of_le ha ?_
 rw[show m=K+1+(n-1) from by omega,Nat.pow_add]
 exact Nat.mul_le_mul_left _ hb
theorem dv_final {va vb s x q:Nat} (h:va*2^s=x+4294967296^0*(vb*2^s*q)) (hx:x<4294967296^0*(vb*2^s)):q=va/vb∧x/2^s=va%vb:=by
 rw[Nat.pow_zero,Nat.one_mul] at h hx
 have hp:=Nat.two_pow_pos s
 have h1:vb*2^s*q=vb*q*2^s:=by rw[Nat.mul_right_comm]
 rw[h1] at h
 have h2:vb*q≤va:=Nat.le_of_mul_le_mul_right (by omega) hp
 obtain⟨r,hr⟩:∃r,va=r+vb*q:=⟨va-vb*q,by omega⟩
 have h3:x=r*2^s:=by
  rw[hr,Nat.add_mul] at h;omega
 have h4:r<vb:=by rw[h3] at hx;exact Nat.lt_of_mul_lt_mul_right hx
 constructor
 · rw[hr,Nat.add_mul_div_left _ _ (by omega),Nat.div_eq_of_lt h4,Nat.zero_add]
 · rw[h3,Nat.mul_div_cancel _ hp,hr,Nat.add_mul_mod_self_left,Nat.mod_eq_of_lt h4]
theorem dv_at {xs y:List Nat} {j n K Y:Nat} (hsx:Sm xs) (hlx:xs.length=K+n+1) (hj:j≤K) (h2:2≤n) (hsy:Sm y) (hly:y.length=n) (hY:val y=Y) (hyt:2147483648≤nth y (n-1)) (hx:val xs<4294967296^(j+1)*Y):
 DvAt (val (xs.drop j)) Y (val ((xs.drop j).take (n-2))) (val (y.take (n-2))) (4294967296^(n-2)) (nth xs (j+(n-2))) (nth xs (j+n)*4294967296+nth xs (j+(n-1))) (nth y (n-2)) (nth y (n-1))∧
 (∀t,j+n<t→nth xs t=0)∧val xs<4294967296^j*(val (xs.drop j)+1)∧4294967296^j*val (xs.drop j)≤val xs∧Y<4294967296^n∧4294967296^j*Y≤4294967296^(j+n+1):=by
 have hYn:Y<4294967296^n:=by rw[←hY, ←hly];exact val_lt hsy
 have hD:=pow_pos' j
 have hV:=val_drop xs hsx j
 have e1:4294967296^(j+1)*Y=4294967296^j*(4294967296*Y):=by rw[Nat.pow_succ,Nat.mul_assoc]
 have hPY:val (xs.drop j)<4294967296*Y:=by
  rw[hV];exact Nat.div_lt_of_lt_mul (by rw[←e1];exact hx)
 have hPn:val (xs.drop j)<4294967296^(n+1):=by
  rw[Nat.pow_succ,Nat.mul_comm]
  exact Nat.lt_of_lt_of_le hPY (Nat.mul_le_mul_left _ (by omega))
 have hh:=val_high3 xs j n (by omega) h2 hPn
 have hy2:=val_high2 y n hly h2
 have hx2:val xs<4294967296^(j+n+1):=by
  refine Nat.lt_of_lt_of_le hx ?_
  rw[show j+n+1=(j+1)+n from by omega,Nat.pow_add 4294967296 (j+1) n]
  exact Nat.mul_le_mul_left _ (by omega)
 refine⟨⟨?_,?_,?_,?_,hPY,hyt,hsy.nth _,hsy.nth _,hsx.nth _⟩,fun t ht=>nth_zero_of xs hsx _ t hx2 (by omega),?_,?_,hYn,?_⟩
 · rw[hh,show j+n-2=j+(n-2) from by omega,show j+n-1=j+(n-1) from by omega,Nat.mul_comm (nth xs (j+n)),Nat.add_comm (4294967296*nth xs (j+n))]
 · rw[←hY,hy2]
 · have:=val_lt ((hsx.drop j).take (n-2))
   rw[List.length_take,List.length_drop,Nat.min_eq_left (by omega)] at this
   exact this
 · have:=val_lt (hsy.take (n-2))
   rw[List.length_take,Nat.min_eq_left (by omega)] at this
   exact this
 · rw[hV]
   have:=Nat.lt_mul_div_succ (val xs) hD
   exact this
 · rw[hV];exact Nat.mul_div_le _ _
 · rw[show j+n+1=j+(n+1) from by omega,Nat.pow_add]
   refine Nat.mul_le_mul_left _ ?_
   rw[Nat.pow_succ]
   have:=Nat.le_mul_of_pos_right (4294967296^n) (show 0<4294967296 by decide)
   omega
theorem nth_take {l:List Nat} {n i:Nat} (h:i<n):nth (l.take n) i=nth l i:=by
 unfold nth
 rw[List.getD_eq_getElem?_getD,List.getD_eq_getElem?_getD,List.getElem?_take_of_lt h]
theorem dv_out {X0 xs' x' Y j g:Nat} {outs:List Nat} (hj:j<outs.length) (h:X0=xs'+4294967296^(j+1)*(Y*val (outs.drop (j+1)))) (hx:x'+4294967296^j*(g*Y)=xs'):X0=x'+4294967296^j*(Y*val ((outs.set j g).drop j)):=by
 rw[val_drop_set _ _ _ hj,h, ←hx,Nat.pow_succ,Nat.mul_add,Nat.mul_add,Nat.add_assoc,Nat.mul_comm Y g]
 congr 2
 rw[Nat.mul_assoc,Nat.mul_left_comm Y]
theorem dv_out0 {X0 x' Y j:Nat} {outs:List Nat} (hj:j<outs.length) (hz:nth outs j=0) (h:X0=x'+4294967296^(j+1)*(Y*val (outs.drop (j+1)))):X0=x'+4294967296^j*(Y*val (outs.drop j)):=by
 rw[val_drop_nth outs j,hz,Nat.zero_add,h,Nat.pow_succ,Nat.mul_assoc,Nat.mul_left_comm Y]
theorem dv_at0 {X0 x Y K:Nat} {o:List Nat} (h:X0=x) (ho:o.length≤K):X0=x+4294967296^K*(Y*val (o.drop K)):=by
 rw[List.drop_of_length_le ho,h];simp[val]
theorem dv_lt0 {X0 x Y P:Nat} (h:X0=x) (hs:X0<P*Y):x<P*Y:=by rw[←h];exact hs
theorem cdivI (A:Nat):((A:Nat):Int)/4294967296=((A/4294967296:Nat):Int):=by omega
theorem cmodI (A:Nat):((A:Nat):Int)%4294967296=((A%4294967296:Nat):Int):=by omega
theorem cdiv_lt {A:Nat} (h:A<18446744073709551616):A/4294967296<4294967296:=by omega
theorem mod_ltB (A:Nat):A%4294967296<4294967296:=by omega
theorem add_le1 {x y c:Nat} (hx:x<4294967296) (hy:y<4294967296) (hc:c≤1):(x+y+c)/4294967296≤1:=by omega
theorem dv_fin {va vb s X0 Y n:Nat} {xs outs:List Nat} (hX0:X0=va*2^s) (hYd:Y=vb*2^s) (h:X0=val xs+4294967296^0*(Y*val (outs.drop 0))) (hx:val xs<4294967296^0*Y) (hs:Sm xs) (hYn:Y<4294967296^n):
 val outs=va/vb∧val (xs.take n)/2^s=va%vb:=by
 subst hX0 hYd
 obtain⟨h1,h2⟩:=dv_final h hx
 rw[Nat.pow_zero,Nat.one_mul] at hx
 refine⟨h1,?_⟩
 rw[val_take xs hs,Nat.mod_eq_of_lt (by omega)]
 exact h2
theorem ms_zero (x y:List Nat) (k g:Nat):val x+4294967296^k*(g*val (y.take 0))=val x+4294967296^(k+0)*(0+0):=by
 rw[List.take_zero];simp[val]
theorem ab_zero (x y:List Nat) (k:Nat):val x+4294967296^(k+0)*0=val x+4294967296^k*val (y.take 0):=by
 rw[List.take_zero];simp[val]
theorem ms_end {x x0 y:List Nat} {g k n c l:Nat} (hk:k+n<x.length) (hxb:nth x (k+n)<4294967296) (hl:l≤1) (hc:c<4294967296) (hy:y.length=n)
 (hv:val x+4294967296^k*(g*val (y.take n))=val x0+4294967296^(k+n)*(c+l)):
 val (x.set (k+n) ((nth x (k+n)+4294967296-c-l)%4294967296))+4294967296^k*(g*val y)=val x0+4294967296^(k+n+1)*(1-(nth x (k+n)+4294967296-c-l)/4294967296):=by
 have h:=ms_step (y:=y) hk hxb hl hv
 rw[nth_ge y (by omega),Nat.mul_zero,show c+0=c from rfl,Nat.mod_eq_of_lt hc,Nat.div_eq_of_lt hc,Nat.zero_add,List.take_of_length_le (show y.length≤n+1 by omega), ←Nat.add_assoc] at h
 exact h
theorem ab_end {x x1 y:List Nat} {k n c:Nat} (hk:k+n<x.length) (hy:y.length=n)
 (hv:val x+4294967296^(k+n)*c=val x1+4294967296^k*val (y.take n)):
 val (x.set (k+n) ((nth x (k+n)+c)%4294967296))+4294967296^(k+n+1)*((nth x (k+n)+c)/4294967296)=val x1+4294967296^k*val y:=by
 have h:=ab_step (y:=y) hk hv
 rw[nth_ge y (by omega),show nth x (k+n)+0=nth x (k+n) from rfl,List.take_of_length_le (show y.length≤n+1 by omega), ←Nat.add_assoc] at h
 exact h
theorem zeros_set {x:List Nat} {k j t:Nat} (h:∀i,k<i→nth x i=0) (hj:j≤k):∀i,k<i→nth (x.set j t) i=0:=by
 intro i hi
 rw[nth_set_ne _ _ _ _ (by omega)];exact h i hi
theorem dig_end0 {xs x3:List Nat} {j g Y P n:Nat} (h:val x3+4294967296^j*(g*Y)=val xs+4294967296^(j+n+1)*0) (hP:val xs<4294967296^j*(P+1)) (hg:P<(g+1)*Y):val x3+4294967296^j*(g*Y)=val xs∧val x3<4294967296^j*Y:=by
 rw[Nat.mul_zero,Nat.add_zero] at h
 exact⟨h,dig_A h hP hg⟩
theorem dig_end1 {xs x3 x5:List Nat} {j g Y P n d:Nat} (h1:val x3+4294967296^j*(g*Y)=val xs+4294967296^(j+n+1)*1) (h2:val x5+4294967296^(j+n+1)*d=val x3+4294967296^j*Y) (hg:0<g) (hlow:(g-1)*Y≤P) (hP1:val xs<4294967296^j*(P+1)) (hP2:4294967296^j*P≤val xs)
 (hs3:Sm x3) (hz3:∀t,j+n<t→nth x3 t=0) (hs5:Sm x5) (hz5:∀t,j+n<t→nth x5 t=0) (hYN:4294967296^j*Y≤4294967296^(j+n+1)):
 val x5+4294967296^j*((g-1)*Y)=val xs∧val x5<4294967296^j*Y:=by
 rw[Nat.mul_one] at h1
 exact dig_B h1 hg hlow hP2 (val_lt_of x3 hs3 _ (fun t ht=>hz3 t ht)) h2 (val_lt_of x5 hs5 _ (fun t ht=>hz5 t ht)) hP1 hYN
theorem dig_none {xs:List Nat} {j Y P:Nat} (hP:val xs<4294967296^j*(P+1)) (hg:P<(0+1)*Y):val xs<4294967296^j*Y:=by
 refine dig_A (g:=0) (V0:=val xs) ?_ hP hg
 rw[Nat.zero_mul,Nat.mul_zero,Nat.add_zero]
end Go.Proofs.YtenekbfnlbipiaaGreatDoor
