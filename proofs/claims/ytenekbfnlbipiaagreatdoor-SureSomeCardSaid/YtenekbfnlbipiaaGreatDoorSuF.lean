/- Forms, for the layer of sure digits: may a form be, does a float fit, its fields, its class. -/
import Derived.Test.YtenekbfnlbipiaaGreatDoorTnG
import Derived.Deep.QuietTactic
import Derived.BigQuiet
import Derived.Handy
import Derived.Lib.BitFns
import Derived.Deep.RegionHeld3
import Derived.Test.YtenekbfnlbipiaaGreatDoorBgAB
namespace Go.Proofs.YtenekbfnlbipiaaGreatDoor
open Go.RowKit
set_option linter.unusedVariables false
set_option linter.unusedSimpArgs false
set_option maxHeartbeats 4000000
set_option maxRecDepth 100000
namespace Fo
theorem bcell {W w1:World} (hb:Below W.heap.size W w1):(∀b o,b<W.heap.size→w1.cell? ⟨b,o,none⟩=W.cell? ⟨b,o,none⟩)∧(∀b o,b<W.heap.size→w1.frozen? ⟨b,o,none⟩=W.frozen? ⟨b,o,none⟩):=
 ⟨fun b o h=>hb.cell (p:=⟨b,o,none⟩) h,fun b o h=>hb.frozen (p:=⟨b,o,none⟩) h⟩
theorem bdn {B:Nat} {a w:World} (h:Below B a w) (n:Nat):Below B a (w.drewN n):=h.trans ⟨rfl,rfl,rfl,Nat.le_refl _,fun _ _=>rfl⟩
theorem quiet_add_left {P:Program} {f:FuncId} {args:Array Value} {w:World} {a n:Nat} {v:Value}
 (h:Calls P f args (w.drewN (a+n)) fun e w'=>e=.returned v∧w.drewN (a+n)=w'):
 Calls P f args (w.drewN (a+n)) fun e w''=>e=.returned v∧∃m,w''=w.drewN (a+m):=
 h.mono fun _ _ ⟨he,hm⟩=>⟨he,n,hm.symm⟩
theorem quiet_left {P:Program} {f:FuncId} {args:Array Value} {w:World} {n:Nat} {v:Value}
 (h:Calls P f args (w.drewN n) fun e w'=>e=.returned v∧w.drewN n=w'):Calls P f args (w.drewN n) fun e w''=>e=.returned v∧∃m,w''=w.drewN m:=
 h.mono fun _ _ ⟨he,hm⟩=>⟨he,n,hm.symm⟩
theorem cell_lt {w:World} {a:Addr} {v:Value} (h:w.cell? a=some v):a.block<w.heap.size:=by
 unfold World.cell? at h
 rcases Nat.lt_or_ge a.block w.heap.size with hlt|hge
 · exact hlt
 · rw[Array.getElem?_eq_none hge] at h;cases h
theorem cell_keep {W w1:World} {a:Addr} {v:Value} (hb:Below W.heap.size W w1) (h:W.cell? a=some v):w1.cell? a=some v:=by
 rw[hb.cell (cell_lt h)];exact h
def chkF (e f:Int):Int:=if e<2∨11<e∨f<1∨52<f then 5 else 0
theorem mask_eq:∀s:Nat,s<64→bits BinOp.andNot IntKind.u64 18446744073709551615 (IntKind.u64.wrap (18446744073709551615*2^s))=((2^s-1:Nat):Int):=by decide+kernel
theorem forms_mask (S:Int) (s M:Nat) (hS:S=(s:Int)) (hs:s<64) (hM:M+1=2^s) (w:World):
 Calls Tryz.prog 78 #[.int .i64 S] w fun e w'=>e=.returned (.int .u64 (M:Int))∧w=w':=by
 subst hS
 have hm:bits BinOp.andNot IntKind.u64 18446744073709551615 (IntKind.u64.wrap (18446744073709551615*2^s))=(M:Int):=by
  rw[mask_eq s hs, ←hM];rfl
 have h1:(0:Int)≤(s:Int):=by omega
 have h2:(s:Int)<64:=by omega
 clear hM
 go_enter Tryz.func78,Tryz.ntmps78
 go_wp2
 go_ret
 exact⟨rfl,rfl⟩
theorem forms_Check (e f:Int) (w:World):
 Calls Tryz.prog 127 #[.agg #[.int .i64 e,.int .i64 f]] w (Says w (.int .i64 (chkF e f))):=by
 have hb:Below w.heap.size w (w.alloc (.cells #[.int .i64 e,.int .i64 f] 23)):=(Below.refl _ _).alloc nrf _
 by_cases h:e<2∨11<e∨f<1∨52<f
 · rw[show chkF e f=5 from by unfold chkF;rw[if_pos h]]
   have hc:e<2∨(¬e<2∧11<e)∨(¬e<2∧¬11<e∧f<1)∨(¬e<2∧¬11<e∧¬f<1∧52<f):=by omega
   clear h
   rcases hc with h1|⟨h1,h2⟩|⟨h1,h2,h3⟩|⟨h1,h2,h3,h4⟩
   all_goals (
    go_enter Tryz.func127,Tryz.ntmps127
    go_wp2
    go_ret
    exact⟨rfl,hb⟩)
 · rw[show chkF e f=0 from by unfold chkF;rw[if_neg h]]
   have h1:¬e<2:=by omega
   have h2:¬11<e:=by omega
   have h3:¬f<1:=by omega
   have h4:¬52<f:=by omega
   go_enter Tryz.func127,Tryz.ntmps127
   go_wp2
   go_ret
   exact⟨rfl,hb⟩
theorem forms_layout (e f:Nat) (he:e≤11) (hf:f≤52) (w:World):
 Calls Tryz.prog 80 #[.agg #[.int .i64 (e:Int),.int .i64 (f:Int)]] w (Says w (.agg #[.int .i64 0,.int .i64 (f:Int),.int .i64 (f:Int),.int .i64 (e:Int),.int .i64 ((f:Int)+(e:Int)),.int .i64 1])):=by
 go_enter Tryz.func80,Tryz.ntmps80
 go_wp2
 go_returns
 exact⟨rfl,((Below.refl w.heap.size w).alloc nrf _).alloc (by simp) _⟩
theorem shl_eq (m k:Nat) (hk:k<64) (h:m*2^k<18446744073709551616):IntKind.u64.wrap ((m:Int)*2^k)=((m*2^k:Nat):Int):=by
 have h3:((m:Int)*2^k)=((m*2^k:Nat):Int):=by push_cast;rfl
 rw[h3,IntKind.wrap_u64];omega
theorem and_mask (b s M:Nat) (hM:M+1=2^s) (hs:s<64) (hb:b<18446744073709551616):bits BinOp.and IntKind.u64 (b:Int) (M:Int)=((b%2^s:Nat):Int):=by
 have h64:=Nat.pow_le_pow_right (n:=2) (by decide) (show s≤64 by omega)
 rw[u64_and_nat b M hb (by omega),show M=2^s-1 from by omega,Nat.and_two_pow_sub_one_eq_mod]
theorem pow_m1 (s:Nat):∃M,M+1=2^s:=⟨2^s-1,by have:=Nat.two_pow_pos s;omega⟩
theorem forms_take (F S B:Int) (from_ size b R:Nat) (hF:F=(from_:Int)) (hS:S=(size:Int)) (hB:B=(b:Int)) (hf:from_<64) (hs:size<64) (hb:b<18446744073709551616) (hR:R=b/2^from_%2^size) (w:World):
 Calls Tryz.prog 81 #[.agg #[.int .i64 F,.int .i64 S],.int .u64 B] w (Says w (.int .u64 (R:Int))):=by
 subst hF hS hB
 have h1:(0:Int)≤(from_:Int):=by omega
 have h2:(from_:Int)<64:=by omega
 obtain⟨M,hM⟩:=pow_m1 size
 obtain⟨q,hq⟩:∃q,q=b/2^from_:=⟨_,rfl⟩
 have hqe:(b:Int)/2^from_=(q:Int):=by rw[hq];push_cast;rfl
 have hq64:q<18446744073709551616:=by rw[hq];exact Nat.lt_of_le_of_lt (Nat.div_le_self _ _) hb
 have hand:bits BinOp.and IntKind.u64 (q:Int) (M:Int)=(R:Int):=by rw[and_mask q size M hM hs hq64,hR,hq]
 clear hR hq
 have HM:=Lib.hid hM
 clear hM
 go_enter Tryz.func81,Tryz.ntmps81
 go_wp2_with fail
 refine(forms_mask _ size M rfl hs HM.out _).mono ?_
 rintro e w1 ⟨rfl,rfl⟩
 go_wp2
 go_ret
 exact⟨rfl,(Below.refl _ _).alloc nrf _⟩
def Lay (W:World) (B e f:Nat):Prop:=
 W.cell? ⟨B,0,none⟩=some (.int .i64 0)∧W.cell? ⟨B,1,none⟩=some (.int .i64 (f:Int))∧W.cell? ⟨B,2,none⟩=some (.int .i64 (f:Int))∧W.cell? ⟨B,3,none⟩=some (.int .i64 (e:Int))∧
  W.cell? ⟨B,4,none⟩=some (.int .i64 ((f:Int)+(e:Int)))∧W.cell? ⟨B,5,none⟩=some (.int .i64 1)
theorem Lay.new (w:World) (e f:Nat):Lay (w.alloc (.cells #[.int .i64 0,.int .i64 (f:Int),.int .i64 (f:Int),.int .i64 (e:Int),.int .i64 ((f:Int)+(e:Int)),.int .i64 1] 126)) w.heap.size e f:=by
 unfold Lay;simp
theorem chk_ok {e f:Int} (h:chkF e f=0):∃E F:Nat,e=(E:Int)∧f=(F:Int)∧2≤E∧E≤11∧1≤F∧F≤52:=by
 unfold chkF at h
 split at h
 · cases h
 · exact⟨e.toNat,f.toNat,by omega,by omega,by omega,by omega,by omega,by omega⟩
theorem chk_no {e f:Int} (h:¬chkF e f=0):chkF e f=5:=by
 unfold chkF at h ⊢
 split at h
 · rw[if_pos (by assumption)]
 · exact absurd rfl h
theorem libLen_le (x k:Nat) (hk:k<64) (hx:x<18446744073709551616):Lib.bitLen x≤k↔x<2^k:=by
 constructor
 · intro h
   rcases Nat.lt_or_ge x (2^k) with h1|h1
   · exact h1
   · have h2:=Lib.bitLen_shift k x h1 hx
     have h3:x/2^k≠0:=by
      have:=Nat.div_pos h1 (Nat.two_pow_pos k)
      omega
     have h4:=Lib.bitLen_half (x/2^k) h3 (Nat.lt_of_le_of_lt (Nat.div_le_self _ _) hx)
     omega
 · exact Lib.bitLen_le x k (by omega)
theorem bits_Len64 (x:Int) (w:World) (h0:0≤x) (h1:x≤18446744073709551615):
 Calls Tryz.prog 33 #[.int .u64 x] w fun e w'=>e=.returned (.int .i64 (Lib.bitLen x.toNat:Int))∧w=w':=by
 have fin:∀(y:Int) (k:Nat),0≤y→y≤255→k≤56→Lib.bitLen x.toNat=k+Lib.bitLen y.toNat→wrap64 ((k:Int)+wrap64 (Lib.len8 y))=(Lib.bitLen x.toNat:Int):=by
  intro y k h0 h1 hk e
  have l:=Lib.bitLen_le8' y h0 h1
  rw[Lib.len8_of y h0 h1,e]
  unfold wrap64
  omega
 by_cases a1:x<4294967296
 · by_cases a2:x<65536
   · by_cases a3:x<256
     · have b1:x≤255:=by omega
       have f:=fin x 0 h0 b1 (by omega) (by omega)
       rw[show((0:Nat):Int)=0 from rfl,Int.zero_add] at f
       have F:=Lib.hid f
       clear f fin
       go_enter Tryz.func33,Tryz.ntmps33
       go_wp2
       go_ret
       refine⟨congrArg Ending.returned (congrArg (Value.int IntKind.i64) ?_),rfl⟩
       exact F.out
     · have b0:0≤x/256:=by omega
       have b1:x/256≤255:=by omega
       have F:=Lib.hid (fin (x/256) 8 b0 b1 (by omega) (by have:=Lib.bitLen_shift8 x.toNat (by omega) (by omega);rw[show(x/256).toNat=x.toNat/256 from by omega];exact this))
       clear fin
       go_enter Tryz.func33,Tryz.ntmps33
       go_wp2
       go_ret
       refine⟨congrArg Ending.returned (congrArg (Value.int IntKind.i64) ?_),rfl⟩
       rw[←F.out]
       have:=Lib.len8_of (x/256) b0 b1
       have:=Lib.bitLen_le8' (x/256) b0 b1
       unfold wrap64
       omega
   · by_cases a3:x/65536<256
     · have b0:0≤x/65536:=by omega
       have b1:x/65536≤255:=by omega
       have F:=Lib.hid (fin (x/65536) 16 b0 b1 (by omega) (by have:=Lib.bitLen_shift16 x.toNat (by omega) (by omega);rw[show(x/65536).toNat=x.toNat/65536 from by omega];exact this))
       clear fin
       go_enter Tryz.func33,Tryz.ntmps33
       go_wp2
       go_ret
       refine⟨congrArg Ending.returned (congrArg (Value.int IntKind.i64) ?_),rfl⟩
       rw[←F.out]
       have:=Lib.len8_of (x/65536) b0 b1
       have:=Lib.bitLen_le8' (x/65536) b0 b1
       unfold wrap64
       omega
     · have b0:0≤x/65536/256:=by omega
       have b1:x/65536/256≤255:=by omega
       have F:=Lib.hid (fin (x/65536/256) 24 b0 b1 (by omega) (by have:=Lib.bitLen_shift24 x.toNat (by omega) (by omega);rw[show(x/65536/256).toNat=x.toNat/16777216 from by omega];exact this))
       clear fin
       go_enter Tryz.func33,Tryz.ntmps33
       go_wp2
       go_ret
       refine⟨congrArg Ending.returned (congrArg (Value.int IntKind.i64) ?_),rfl⟩
       rw[←F.out]
       have:=Lib.len8_of (x/65536/256) b0 b1
       have:=Lib.bitLen_le8' (x/65536/256) b0 b1
       unfold wrap64
       omega
 · by_cases a2:x/4294967296<65536
   · by_cases a3:x/4294967296<256
     · have b0:0≤x/4294967296:=by omega
       have b1:x/4294967296≤255:=by omega
       have F:=Lib.hid (fin (x/4294967296) 32 b0 b1 (by omega) (by have:=Lib.bitLen_shift32 x.toNat (by omega) (by omega);rw[show(x/4294967296).toNat=x.toNat/4294967296 from by omega];exact this))
       clear fin
       go_enter Tryz.func33,Tryz.ntmps33
       go_wp2
       go_ret
       refine⟨congrArg Ending.returned (congrArg (Value.int IntKind.i64) ?_),rfl⟩
       rw[←F.out]
       have:=Lib.len8_of (x/4294967296) b0 b1
       have:=Lib.bitLen_le8' (x/4294967296) b0 b1
       unfold wrap64
       omega
     · have b0:0≤x/4294967296/256:=by omega
       have b1:x/4294967296/256≤255:=by omega
       have F:=Lib.hid (fin (x/4294967296/256) 40 b0 b1 (by omega) (by have:=Lib.bitLen_shift40 x.toNat (by omega) (by omega);rw[show(x/4294967296/256).toNat=x.toNat/1099511627776 from by omega];exact this))
       clear fin
       go_enter Tryz.func33,Tryz.ntmps33
       go_wp2
       go_ret
       refine⟨congrArg Ending.returned (congrArg (Value.int IntKind.i64) ?_),rfl⟩
       rw[←F.out]
       have:=Lib.len8_of (x/4294967296/256) b0 b1
       have:=Lib.bitLen_le8' (x/4294967296/256) b0 b1
       unfold wrap64
       omega
   · by_cases a3:x/4294967296/65536<256
     · have b0:0≤x/4294967296/65536:=by omega
       have b1:x/4294967296/65536≤255:=by omega
       have F:=Lib.hid (fin (x/4294967296/65536) 48 b0 b1 (by omega) (by have:=Lib.bitLen_shift48 x.toNat (by omega) (by omega);rw[show(x/4294967296/65536).toNat=x.toNat/281474976710656 from by omega];exact this))
       clear fin
       go_enter Tryz.func33,Tryz.ntmps33
       go_wp2
       go_ret
       refine⟨congrArg Ending.returned (congrArg (Value.int IntKind.i64) ?_),rfl⟩
       rw[←F.out]
       have:=Lib.len8_of (x/4294967296/65536) b0 b1
       have:=Lib.bitLen_le8' (x/4294967296/65536) b0 b1
       unfold wrap64
       omega
     · have b0:0≤x/4294967296/65536/256:=by omega
       have b1:x/4294967296/65536/256≤255:=by omega
       have F:=Lib.hid (fin (x/4294967296/65536/256) 56 b0 b1 (by omega) (by have:=Lib.bitLen_shift56 x.toNat (by omega) (by omega);rw[show(x/4294967296/65536/256).toNat=x.toNat/72057594037927936 from by omega];exact this))
       clear fin
       go_enter Tryz.func33,Tryz.ntmps33
       go_wp2
       go_ret
       refine⟨congrArg Ending.returned (congrArg (Value.int IntKind.i64) ?_),rfl⟩
       rw[←F.out]
       have:=Lib.len8_of (x/4294967296/65536/256) b0 b1
       have:=Lib.bitLen_le8' (x/4294967296/65536/256) b0 b1
       unfold wrap64
       omega
theorem len64_n {b:Nat} (n:Nat) (hn:n=Lib.bitLen b) (hb:b<18446744073709551616) (w:World):
 Calls Tryz.prog 33 #[.int .u64 (b:Int)] w fun e w'=>e=.returned (.int .i64 (n:Int))∧w=w':=by
 have:=bits_Len64 (b:Int) w (by omega) (by omega)
 rw[Int.toNat_natCast, ←hn] at this
 exact this
def fitF (E F b:Nat):Int:=if 2^(1+E+F)≤b then 6 else 0
def fitS (e f:Int) (b:Nat):Int:=if chkF e f=0 then fitF e.toNat f.toNat b else chkF e f
theorem forms_Fits (e f B:Int) (b:Nat) (hB:B=(b:Int)) (hb64:b<18446744073709551616) (w:World):
 Calls Tryz.prog 79 #[.agg #[.int .i64 e,.int .i64 f],.int .u64 B] w (Says w (.int .i64 (fitS e f b))):=by
 subst hB
 by_cases hc:chkF e f=0
 · obtain⟨E,F,rfl,rfl,hE1,hE2,hF1,hF2⟩:=chk_ok hc
   have HC:=Lib.hid hc
   have hj:fitS (E:Int) (F:Int) b=fitF E F b:=by unfold fitS;rw[if_pos hc];rfl
   rw[hj]
   clear hj hc
   have hl:(2^(1+E+F)≤b↔1+E+F<Lib.bitLen b):=by
    by_cases h64:1+E+F<64
    · have:=libLen_le b (1+E+F) h64 hb64
      omega
    · have h1:=Lib.bitLen_le b 64 (by omega) hb64
      have h2:2^(1+E+F)=2^64:=by rw[show 1+E+F=64 from by omega]
      omega
   obtain⟨n,hn⟩:∃n,n=Lib.bitLen b:=⟨_,rfl⟩
   have HN:=Lib.hid hn
   rw[←hn] at hl
   clear hn
   by_cases hk:1+E+F<n
   · rw[show fitF E F b=6 from by unfold fitF;rw[if_pos (hl.2 hk)]]
     have hd:decide ((1:Int)+(E:Int)+(F:Int)<(n:Int))=true:=by rw[decide_eq_true_iff];omega
     clear hl
     go_enter Tryz.func79,Tryz.ntmps79
     go_wp2_with fail
     refine(forms_Check _ _ _).mono ?_
     rintro r w1 ⟨rfl,hb1⟩
     rw[HC.out]
     obtain⟨hc1,hf1⟩:=bcell hb1
     have hbw1:Below w.heap.size w w1:=Below.trans (b:=_) bbel (hb1.mono (by go_size))
     have hz1_0:w.heap.size<w1.heap.size:=by have:=hb1.size;simp at this;omega
     go_wp2
     go_quiet ((go_at_call 33;exact quiet_left (len64_n n HN.out hb64 _)))
     go_wp2
     go_ret
     exact⟨rfl,bbel⟩
   · rw[show fitF E F b=0 from by unfold fitF;rw[if_neg (fun h=>hk (hl.1 h))]]
     have hd:decide ((1:Int)+(E:Int)+(F:Int)<(n:Int))=false:=by rw[decide_eq_false_iff_not];omega
     clear hl
     go_enter Tryz.func79,Tryz.ntmps79
     go_wp2_with fail
     refine(forms_Check _ _ _).mono ?_
     rintro r w1 ⟨rfl,hb1⟩
     rw[HC.out]
     obtain⟨hc1,hf1⟩:=bcell hb1
     have hbw1:Below w.heap.size w w1:=Below.trans (b:=_) bbel (hb1.mono (by go_size))
     have hz1_0:w.heap.size<w1.heap.size:=by have:=hb1.size;simp at this;omega
     go_wp2
     go_quiet ((go_at_call 33;exact quiet_left (len64_n n HN.out hb64 _)))
     go_wp2
     go_ret
     exact⟨rfl,bbel⟩
 · rw[show fitS e f b=5 from by unfold fitS;rw[if_neg hc,chk_no hc]]
   have HC:=Lib.hid (chk_no hc)
   clear hc
   go_enter Tryz.func79,Tryz.ntmps79
   go_wp2_with fail
   refine(forms_Check _ _ _).mono ?_
   rintro r w1 ⟨rfl,hb1⟩
   rw[HC.out]
   obtain⟨hc1,hf1⟩:=bcell hb1
   have hbw1:Below w.heap.size w w1:=Below.trans (b:=_) bbel (hb1.mono (by go_size))
   have hz1_0:w.heap.size<w1.heap.size:=by have:=hb1.size;simp at this;omega
   go_wp2
   go_ret
   exact⟨rfl,hbw1⟩
def splitF (E F b:Nat):Bool × Nat × Nat:=(((b/2^(F+E)%2:Nat):Int) !=0,b/2^F%2^E,b%2^F)
def splitS (e f:Int) (b:Nat):(Bool × Nat × Nat) × Int:=if fitS e f b=0 then (splitF e.toNat f.toNat b,0) else ((false,0,0),fitS e f b)
theorem fit_ok {e f:Int} {b:Nat} (h:fitS e f b=0):∃E F:Nat,e=(E:Int)∧f=(F:Int)∧2≤E∧E≤11∧1≤F∧F≤52∧b<2^(1+E+F):=by
 unfold fitS at h
 by_cases hc:chkF e f=0
 · rw[if_pos hc] at h
   obtain⟨E,F,rfl,rfl,h1,h2,h3,h4⟩:=chk_ok hc
   refine⟨E,F,rfl,rfl,h1,h2,h3,h4,?_⟩
   unfold fitF at h
   split at h
   · cases h
   · simp only[Int.toNat_natCast] at *; omega
 · rw[if_neg hc] at h;exact absurd h hc
theorem take_abs {W0 W:World} (hW:Below W0.heap.size W0 W) (F S B:Int) (from_ size b R:Nat) (hF:F=(from_:Int)) (hS:S=(size:Int)) (hB:B=(b:Int)) (hf:from_<64) (hs:size<64) (hb:b<18446744073709551616) (hR:R=b/2^from_%2^size):
 Calls Tryz.prog 81 #[.agg #[.int .i64 F,.int .i64 S],.int .u64 B] W fun e w'=>e=.returned (.int .u64 (R:Int))∧Below W0.heap.size W0 w':=
 (forms_take F S B from_ size b R hF hS hB hf hs hb hR W).mono fun _ _ ⟨h1,h2⟩=>⟨h1,hW.trans (h2.mono hW.size)⟩
theorem cellsB {W0 W:World} (hW:Below W0.heap.size W0 W) {p:Addr} {v:Value} (h:W0.cell? p=some v):W.cell? p=some v:=cell_keep hW h
theorem frozenB {W0 W:World} (hW:Below W0.heap.size W0 W) {p:Addr} (hp:p.block<W0.heap.size) (h:W0.frozen? p=false):W.frozen? p=false:=(hW.frozen hp).trans h
theorem forms_Split (e f B:Int) (b:Nat) (hB:B=(b:Int)) (hb64:b<18446744073709551616) (w:World):
 Calls Tryz.prog 32 #[.agg #[.int .i64 e,.int .i64 f],.int .u64 B] w (Says w (.tuple #[.agg #[.bool (splitS e f b).1.1,.int .i64 (((splitS e f b).1.2.1:Nat):Int),.int .u64 (((splitS e f b).1.2.2:Nat):Int)],.int .i64 (splitS e f b).2])):=by
 subst hB
 by_cases hc:fitS e f b=0
 · have HC:=Lib.hid hc
   obtain⟨E,F,rfl,rfl,hE1,hE2,hF1,hF2,hfit⟩:=fit_ok hc
   have hj:splitS (E:Int) (F:Int) b=(splitF E F b,0):=by unfold splitS;rw[if_pos hc];rfl
   rw[hj]
   clear hj hc hfit
   obtain⟨N,hN⟩:∃N,N=b/2^(F+E)%2^1:=⟨_,rfl⟩
   obtain⟨X,hX⟩:∃X,X=b/2^F%2^E:=⟨_,rfl⟩
   obtain⟨Y,hY⟩:∃Y,Y=b/2^0%2^F:=⟨_,rfl⟩
   obtain⟨ng,hng⟩:∃ng,((N:Int) !=0)=ng:=⟨_,rfl⟩
   have hs:splitF E F b=(ng,X,Y):=by
    unfold splitF
    rw[←hng,hN,hX,hY,Nat.pow_zero,Nat.div_one,Nat.pow_one]
   rw[hs]
   have hXb:X<2048:=by
    rw[hX]
    exact Nat.lt_of_lt_of_le (Nat.mod_lt _ (Nat.two_pow_pos E)) (Nat.pow_le_pow_right (n:=2) (by decide) hE2)
   have HN:=Lib.hid hN
   have HX:=Lib.hid hX
   have HY:=Lib.hid hY
   clear hN hX hY hs
   go_enter Tryz.func32,Tryz.ntmps32
   go_wp2_with fail
   refine(forms_Fits _ _ _ b rfl hb64 _).mono ?_
   rintro r w1 ⟨rfl,hb1⟩
   rw[HC.out]
   obtain⟨hc1,hf1⟩:=bcell hb1
   have hbw1:Below w.heap.size w w1:=Below.trans (b:=_) bbel (hb1.mono (by go_size))
   have hz1_0:w.heap.size<w1.heap.size:=by have:=hb1.size;simp at this;omega
   have hz1_1:w.heap.size+1<w1.heap.size:=by have:=hb1.size;simp at this;omega
   have t0:w1.cell? ⟨w.heap.size+1,0,none⟩=some (.bool false):=by rw[hc1 _ _ (by go_size)];simp[go_sem]
   have t1:w1.cell? ⟨w.heap.size+1,1,none⟩=some (.int .i64 0):=by rw[hc1 _ _ (by go_size)];simp[go_sem]
   have t2:w1.cell? ⟨w.heap.size+1,2,none⟩=some (.int .u64 0):=by rw[hc1 _ _ (by go_size)];simp[go_sem]
   have tf:∀o,w1.frozen? ⟨w.heap.size+1,o,none⟩=false:=by intro o;rw[hf1 _ _ (by go_size)];simp[go_sem]
   go_wp2_with fail
   refine(forms_layout E F hE2 hF2 _).mono ?_
   rintro r w2 ⟨rfl,hb2⟩
   have hbw2:Below w.heap.size w w2:=hbw1.trans (hb2.mono hbw1.size)
   have u0:=cell_keep hb2 t0
   have u1:=cell_keep hb2 t1
   have u2:=cell_keep hb2 t2
   have uf:∀o,w2.frozen? ⟨w.heap.size+1,o,none⟩=false:=fun o=>(hb2.frozen (p:=⟨w.heap.size+1,o,none⟩) (show w.heap.size+1<w1.heap.size from cell_lt t0)).trans (tf o)
   have zu:=cell_lt u0
   simp only at zu
   clear t0 t1 t2 tf hc1 hf1
   go_wp2
   have hL1:=Lay.new w2 E F
   have hbW:Below w.heap.size w (w2.alloc (.cells #[.int .i64 0,.int .i64 (F:Int),.int .i64 (F:Int),.int .i64 (E:Int),.int .i64 ((F:Int)+(E:Int)),.int .i64 1] 126)):=hbw2.alloc hbw2.size _
   have v0:(w2.alloc (.cells #[.int .i64 0,.int .i64 (F:Int),.int .i64 (F:Int),.int .i64 (E:Int),.int .i64 ((F:Int)+(E:Int)),.int .i64 1] 126)).cell? ⟨w.heap.size+1,0,none⟩=some (.bool false):=(World.cell?_alloc_lt _ _ _ zu).trans u0
   have v1:(w2.alloc (.cells #[.int .i64 0,.int .i64 (F:Int),.int .i64 (F:Int),.int .i64 (E:Int),.int .i64 ((F:Int)+(E:Int)),.int .i64 1] 126)).cell? ⟨w.heap.size+1,1,none⟩=some (.int .i64 0):=(World.cell?_alloc_lt _ _ _ zu).trans u1
   have v2:(w2.alloc (.cells #[.int .i64 0,.int .i64 (F:Int),.int .i64 (F:Int),.int .i64 (E:Int),.int .i64 ((F:Int)+(E:Int)),.int .i64 1] 126)).cell? ⟨w.heap.size+1,2,none⟩=some (.int .u64 0):=(World.cell?_alloc_lt _ _ _ zu).trans u2
   have vf:∀o,(w2.alloc (.cells #[.int .i64 0,.int .i64 (F:Int),.int .i64 (F:Int),.int .i64 (E:Int),.int .i64 ((F:Int)+(E:Int)),.int .i64 1] 126)).frozen? ⟨w.heap.size+1,o,none⟩=false:=fun o=>(World.frozen?_alloc_past _ _ _ zu).trans (uf o)
   clear u0 u1 u2 uf hb1 hb2 hbw1
   have zB:w2.heap.size<(w2.alloc (.cells #[.int .i64 0,.int .i64 (F:Int),.int .i64 (F:Int),.int .i64 (E:Int),.int .i64 ((F:Int)+(E:Int)),.int .i64 1] 126)).heap.size:=by simp
   generalize (w2.alloc (.cells #[.int .i64 0,.int .i64 (F:Int),.int .i64 (F:Int),.int .i64 (E:Int),.int .i64 ((F:Int)+(E:Int)),.int .i64 1] 126))=W at*
   have hne:w.heap.size+1≠w2.heap.size:=by omega
   generalize w2.heap.size=Bk at*
   obtain⟨l0,l1,l2,l3,l4,l5⟩:=hL1
   have hW0:Below W.heap.size W W.drew:=(Below.refl _ _).drew
   go_region_held3 (fun w'=>w'.cell? ⟨Bk,0,none⟩=some (.int .i64 0)∧w'.cell? ⟨Bk,1,none⟩=some (.int .i64 (F:Int))∧w'.cell? ⟨Bk,2,none⟩=some (.int .i64 (F:Int))∧w'.cell? ⟨Bk,3,none⟩=some (.int .i64 (E:Int))∧w'.cell? ⟨Bk,4,none⟩=some (.int .i64 ((F:Int)+(E:Int)))∧w'.cell? ⟨Bk,5,none⟩=some (.int .i64 1))
    (first|exact⟨cellsB (by assumption) l0,cellsB (by assumption) l1,cellsB (by assumption) l2,cellsB (by assumption) l3,cellsB (by assumption) l4,cellsB (by assumption) l5⟩|go_keep)
    (first
     |(go_at_call 81;with_reducible refine(take_abs (W0:=W) (by assumption) ((F:Int)+(E:Int)) 1 (b:Int) (F+E) 1 b N (by omega) rfl rfl (by omega) (by omega) hb64 HN.out).mono ?_;rintro r wa ⟨rfl,hba⟩;have a0:=cellsB hba v0;have a1:=cellsB hba v1;have a2:=cellsB hba v2;have af0:=frozenB hba (cell_lt v0) (vf 0);have af1:=frozenB hba (cell_lt v1) (vf 1);have af2:=frozenB hba (cell_lt v2) (vf 2))
     |(go_at_call 81;with_reducible refine(take_abs (W0:=W) (by assumption) (F:Int) (E:Int) (b:Int) F E b X rfl rfl rfl (by omega) (by omega) hb64 HX.out).mono ?_;rintro r wb ⟨rfl,hbb⟩;have a0:=cellsB hbb v0;have a1:=cellsB hbb v1;have a2:=cellsB hbb v2;have af0:=frozenB hbb (cell_lt v0) (vf 0);have af1:=frozenB hbb (cell_lt v1) (vf 1);have af2:=frozenB hbb (cell_lt v2) (vf 2))
     |(go_at_call 81;with_reducible refine(take_abs (W0:=W) (by assumption) 0 (F:Int) (b:Int) 0 F b Y rfl rfl rfl (by omega) (by omega) hb64 HY.out).mono ?_;rintro r wc ⟨rfl,hbc⟩;have a0:=cellsB hbc v0;have a1:=cellsB hbc v1;have a2:=cellsB hbc v2;have af0:=frozenB hbc (cell_lt v0) (vf 0);have af1:=frozenB hbc (cell_lt v1) (vf 1);have af2:=frozenB hbc (cell_lt v2) (vf 2)))
   all_goals (
    have hwX:IntKind.i64.wrap (X:Int)=(X:Int):=by rw[IntKind.wrap_i64];omega
    have hbf:Below w.heap.size w wc:=hbW.trans (hbc.mono hbW.size)
    go_wp2
    (try simp only[Exit.inBlock,Exit.then]);refine bodyPost_ret (by simp (maxDischargeDepth:=9) [results,Tryz.results32,go_sem,a0,a1,a2,hwX];try rfl) rfl ?_
    exact⟨rfl,((hbf.setCell (by simp) _).setCell (by simp) _).setCell (by simp) _⟩)
 · have hfn:fitS e f b≠0:=hc
   have hne:(fitS e f b !=0)=true:=by rw[bne_iff_ne];exact hc
   rw[show splitS e f b=((false,0,0),fitS e f b) from by unfold splitS;rw[if_neg hc]]
   clear hc hfn
   go_enter Tryz.func32,Tryz.ntmps32
   go_wp2_with fail
   refine(forms_Fits _ _ _ b rfl hb64 _).mono ?_
   rintro r w1 ⟨rfl,hb1⟩
   obtain⟨hc1,hf1⟩:=bcell hb1
   have hbw1:Below w.heap.size w w1:=Below.trans (b:=_) bbel (hb1.mono (by go_size))
   have hz1_0:w.heap.size<w1.heap.size:=by have:=hb1.size;simp at this;omega
   have hz1_1:w.heap.size+1<w1.heap.size:=by have:=hb1.size;simp at this;omega
   go_wp2
   (try simp only[Exit.inBlock,Exit.then]);refine bodyPost_ret (by simp (maxDischargeDepth:=9) [results,Tryz.results32,go_sem,hc1,hz1_0,hz1_1];try rfl) rfl ?_
   exact⟨rfl,bbel⟩
def classF (E x y:Nat):Nat:=if x=0 then (if y=0 then 1 else 2) else if x+1=2^E then (if y=0 then 4 else 5) else 3
def classS (e f:Int) (b:Nat):Nat × Int:=if fitS e f b=0 then (classF e.toNat (splitS e f b).1.2.1 (splitS e f b).1.2.2,0) else (0,fitS e f b)
theorem forms_Class (e f B:Int) (b:Nat) (hB:B=(b:Int)) (hb64:b<18446744073709551616) (w:World):
 Calls Tryz.prog 31 #[.agg #[.int .i64 e,.int .i64 f],.int .u64 B] w (Says w (.tuple #[.int .u8 (((classS e f b).1:Nat):Int),.int .i64 (classS e f b).2])):=by
 subst hB
 by_cases hc:fitS e f b=0
 · have HC:=Lib.hid hc
   obtain⟨E,F,rfl,rfl,hE1,hE2,hF1,hF2,hfit⟩:=fit_ok hc
   have hs2:(splitS (E:Int) (F:Int) b).2=0:=by unfold splitS;rw[if_pos hc]
   have hj:classS (E:Int) (F:Int) b=(classF E (splitS (E:Int) (F:Int) b).1.2.1 (splitS (E:Int) (F:Int) b).1.2.2,0):=by unfold classS;rw[if_pos hc];rfl
   have hxE:(splitS (E:Int) (F:Int) b).1.2.1<2^E:=by
    unfold splitS;rw[if_pos hc];exact Nat.mod_lt _ (Nat.two_pow_pos E)
   have hEs:2^E≤2048:=Nat.pow_le_pow_right (n:=2) (by decide) hE2
   rw[hj]
   clear hj hc hfit
   have hsp:=forms_Split (E:Int) (F:Int) (b:Int) b rfl hb64
   rw[hs2] at hsp
   obtain⟨⟨ng,X,Y⟩,hp⟩:∃p,p=(splitS (E:Int) (F:Int) b).1:=⟨_,rfl⟩
   rw[←hp] at hsp hxE ⊢
   have hXb:X<2048:=by simp only at hxE;omega
   obtain⟨M,hM⟩:=pow_m1 E
   have HM:=Lib.hid hM
   have hwX:IntKind.u64.wrap (X:Int)=(X:Int):=by rw[IntKind.wrap_u64];omega
   have hcase:(X=0∧Y=0)∨(X=0∧Y≠0)∨(X≠0∧X=M∧Y=0)∨(X≠0∧X=M∧Y≠0)∨(X≠0∧X≠M):=by omega
   have hcl:classF E X Y=if X=0 then (if Y=0 then 1 else 2) else if X=M then (if Y=0 then 4 else 5) else 3:=by
    unfold classF;rw[←hM];simp only[Nat.add_right_cancel_iff]
   have HCL:=Lib.hid hcl
   clear hcl hM hp hs2 hEs hxE
   show Calls Tryz.prog _ _ w (Says w (.tuple #[.int .u8 ((classF E X Y:Nat):Int),.int .i64 0]))
   rw[HCL.out]
   rcases hcase with ⟨h1,h2⟩|⟨h1,h2⟩|⟨h1,h2,h3⟩|⟨h1,h2,h3⟩|⟨h1,h2⟩
   · subst h1 h2
     rw[if_pos rfl,if_pos rfl]
     go_enter Tryz.func31,Tryz.ntmps31
     go_wp2_with fail
     refine(hsp _).mono ?_
     rintro r w1 ⟨rfl,hb1⟩
     obtain⟨hc1,hf1⟩:=bcell hb1
     have hbw1:Below w.heap.size w w1:=Below.trans (b:=_) bbel (hb1.mono (by go_size))
     have hz1_0:w.heap.size<w1.heap.size:=by have:=hb1.size;simp at this;omega
     go_wp2
     go_ret2
     exact⟨rfl,bbel⟩
   · subst h1
     rw[if_pos rfl,if_neg h2]
     have hY:((Y:Int)==0)=false:=by rw[beq_eq_false_iff_ne];omega
     go_enter Tryz.func31,Tryz.ntmps31
     go_wp2_with fail
     refine(hsp _).mono ?_
     rintro r w1 ⟨rfl,hb1⟩
     obtain⟨hc1,hf1⟩:=bcell hb1
     have hbw1:Below w.heap.size w w1:=Below.trans (b:=_) bbel (hb1.mono (by go_size))
     have hz1_0:w.heap.size<w1.heap.size:=by have:=hb1.size;simp at this;omega
     go_wp2
     go_ret2
     exact⟨rfl,bbel⟩
   · subst h2 h3
     rw[if_neg h1,if_pos rfl,if_pos rfl]
     have hX:((X:Int)==0)=false:=by rw[beq_eq_false_iff_ne];omega
     go_enter Tryz.func31,Tryz.ntmps31
     go_wp2_with fail
     refine(hsp _).mono ?_
     rintro r w1 ⟨rfl,hb1⟩
     obtain⟨hc1,hf1⟩:=bcell hb1
     have hbw1:Below w.heap.size w w1:=Below.trans (b:=_) bbel (hb1.mono (by go_size))
     have hz1_0:w.heap.size<w1.heap.size:=by have:=hb1.size;simp at this;omega
     go_wp2_with fail
     refine(forms_mask _ E X rfl (by omega) HM.out _).mono ?_
     rintro r w2 ⟨rfl,rfl⟩
     go_wp2
     go_ret2
     exact⟨rfl,bbel⟩
   · subst h2
     rw[if_neg h1,if_pos rfl,if_neg h3]
     have hX:((X:Int)==0)=false:=by rw[beq_eq_false_iff_ne];omega
     have hY:((Y:Int)==0)=false:=by rw[beq_eq_false_iff_ne];omega
     go_enter Tryz.func31,Tryz.ntmps31
     go_wp2_with fail
     refine(hsp _).mono ?_
     rintro r w1 ⟨rfl,hb1⟩
     obtain⟨hc1,hf1⟩:=bcell hb1
     have hbw1:Below w.heap.size w w1:=Below.trans (b:=_) bbel (hb1.mono (by go_size))
     have hz1_0:w.heap.size<w1.heap.size:=by have:=hb1.size;simp at this;omega
     go_wp2_with fail
     refine(forms_mask _ E X rfl (by omega) HM.out _).mono ?_
     rintro r w2 ⟨rfl,rfl⟩
     go_wp2
     go_ret2
     exact⟨rfl,bbel⟩
   · rw[if_neg h1,if_neg h2]
     have hX:((X:Int)==0)=false:=by rw[beq_eq_false_iff_ne];omega
     have hXM:((X:Int)==(M:Int))=false:=by rw[beq_eq_false_iff_ne];omega
     go_enter Tryz.func31,Tryz.ntmps31
     go_wp2_with fail
     refine(hsp _).mono ?_
     rintro r w1 ⟨rfl,hb1⟩
     obtain⟨hc1,hf1⟩:=bcell hb1
     have hbw1:Below w.heap.size w w1:=Below.trans (b:=_) bbel (hb1.mono (by go_size))
     have hz1_0:w.heap.size<w1.heap.size:=by have:=hb1.size;simp at this;omega
     go_wp2_with fail
     refine(forms_mask _ E M rfl (by omega) HM.out _).mono ?_
     rintro r w2 ⟨rfl,rfl⟩
     go_wp2
     go_ret2
     exact⟨rfl,bbel⟩
 · have hne:(fitS e f b !=0)=true:=by rw[bne_iff_ne];exact hc
   have hsp:=forms_Split e f (b:Int) b rfl hb64
   rw[show splitS e f b=((false,0,0),fitS e f b) from by unfold splitS;rw[if_neg hc]] at hsp
   rw[show classS e f b=(0,fitS e f b) from by unfold classS;rw[if_neg hc]]
   clear hc
   go_enter Tryz.func31,Tryz.ntmps31
   go_wp2_with fail
   refine(hsp _).mono ?_
   rintro r w1 ⟨rfl,hb1⟩
   obtain⟨hc1,hf1⟩:=bcell hb1
   have hbw1:Below w.heap.size w w1:=Below.trans (b:=_) bbel (hb1.mono (by go_size))
   have hz1_0:w.heap.size<w1.heap.size:=by have:=hb1.size;simp at this;omega
   go_wp2
   go_ret2
   exact⟨rfl,bbel⟩
end Fo
end Go.Proofs.YtenekbfnlbipiaaGreatDoor
namespace Go.Proofs.YtenekbfnlbipiaaGreatDoor
def lhsT (v:Nat) (k:Int):Nat:=v*2^(tenE k).toNat*10^(-k).toNat
def rhsT (k:Int):Nat:=10^k.toNat*2^(-(tenE k)).toNat
def endsT (k:Int):Bool:=decide (lhsT (tenN k) k≤rhsT k)&&decide (rhsT k<lhsT (tenN k+1) k)&&(decide (lhsT (tenN k) k=rhsT k)==tenX k)
theorem ends_all:∀j:Fin 401,endsT (j.val:Int)=true∧endsT (-((j.val+1:Nat):Int))=true:=by decide+kernel
theorem ends_ten {k:Int} (h:farB k=false):lhsT (tenN k) k≤rhsT k∧rhsT k<lhsT (tenN k+1) k∧(lhsT (tenN k) k=rhsT k↔tenX k=true):=by
 have hk:endsT k=true:=by
  rcases ten_cases h with ⟨j,hj,rfl⟩|⟨j,h1,hj,rfl⟩
  · exact(ends_all ⟨j,by omega⟩).1
  · have:=(ends_all ⟨j-1,by omega⟩).2
    simp only[Nat.sub_add_cancel h1] at this
    exact this
 unfold endsT at hk
 simp only[Bool.and_eq_true,decide_eq_true_eq,beq_iff_eq] at hk
 obtain⟨⟨h1,h2⟩,h3⟩:=hk
 refine⟨h1,h2,?_⟩
 rw[←h3,decide_eq_true_eq]
def underB (m:Nat) (q p:Int):Bool:=decide (m*2^q.toNat*10^(-p).toNat<10^p.toNat*2^(-q).toNat)
def topI (m:Nat) (q:Int):Int:=q+(bitLen m:Int)-1
def belowS (m:Nat) (q p:Int):Bool:=
 if topI m q≠tenE p+127 then decide (topI m q<tenE p+127)
 else decide (m*2^(64-bitLen m)<tenN p/2^64)||(decide (m*2^(64-bitLen m)=tenN p/2^64)&&(decide (tenN p%2^64≠0)||!tenX p))
theorem up_lt (x a R P b d:Nat):x*2^a*R<P*2^b↔x*2^(a+d)*R<P*2^(b+d):=by
 have e1:x*2^(a+d)*R=x*2^a*R*2^d:=by rw[Nat.pow_add];ac_rfl
 have e2:P*2^(b+d)=P*2^b*2^d:=by rw[Nat.pow_add];ac_rfl
 rw[e1,e2]
 exact(Nat.mul_lt_mul_right (Nat.two_pow_pos d)).symm
theorem up_le (x a R P b d:Nat):x*2^a*R≤P*2^b↔x*2^(a+d)*R≤P*2^(b+d):=by
 have e1:x*2^(a+d)*R=x*2^a*R*2^d:=by rw[Nat.pow_add];ac_rfl
 have e2:P*2^(b+d)=P*2^b*2^d:=by rw[Nat.pow_add];ac_rfl
 rw[e1,e2]
 exact(Nat.mul_le_mul_right_iff (Nat.two_pow_pos d)).symm
theorem up_eq (x a R P b d:Nat):x*2^a*R=P*2^b↔x*2^(a+d)*R=P*2^(b+d):=by
 have e1:x*2^(a+d)*R=x*2^a*R*2^d:=by rw[Nat.pow_add];ac_rfl
 have e2:P*2^(b+d)=P*2^b*2^d:=by rw[Nat.pow_add];ac_rfl
 rw[e1,e2]
 exact(Nat.mul_left_inj (Nat.pos_iff_ne_zero.1 (Nat.two_pow_pos d))).symm
theorem ends_at {k:Int} (h:farB k=false) (c:Nat) (hc:0≤tenE k+(c:Int)):
 tenN k*2^(tenE k+c).toNat*10^(-k).toNat≤10^k.toNat*2^c∧10^k.toNat*2^c<(tenN k+1)*2^(tenE k+c).toNat*10^(-k).toNat∧
  (tenN k*2^(tenE k+c).toNat*10^(-k).toNat=10^k.toNat*2^c↔tenX k=true):=by
 obtain⟨h1,h2,h3⟩:=ends_ten h
 unfold lhsT rhsT at h1 h2 h3
 obtain⟨d,hd⟩:∃d:Nat,c=(-(tenE k)).toNat+d:=⟨c-(-(tenE k)).toNat,by omega⟩
 have he:(tenE k+(c:Int)).toNat=(tenE k).toNat+d:=by omega
 rw[he,hd]
 refine⟨(up_le _ _ _ _ _ d).1 h1,?_,(up_eq _ _ _ _ _ d).symm.trans h3⟩
 rw[←Nat.not_le] at h2 ⊢
 exact fun h=>h2 ((up_le _ _ _ _ _ d).2 h)
theorem under_at (m:Nat) (q p:Int) (c:Nat) (hc:0≤q+(c:Int)):underB m q p=decide (m*2^(q+c).toNat*10^(-p).toNat<10^p.toNat*2^c):=by
 unfold underB
 obtain⟨d,hd⟩:∃d:Nat,c=(-q).toNat+d:=⟨c-(-q).toNat,by omega⟩
 have he:(q+(c:Int)).toNat=q.toNat+d:=by omega
 rw[he,hd]
 exact decide_eq_decide.2 (up_lt _ _ _ _ _ d)
end Go.Proofs.YtenekbfnlbipiaaGreatDoor
