/- Walks: the small functions of both packages. -/
import Derived.Test.YtenekbfnlbipiaaGreatDoorProg
import Derived.Test.YtenekbfnlbipiaaGreatDoorPlain
import Derived.Deep.QuietTactic
import Derived.BigQuiet
import Derived.Handy
import Derived.Lib.BitFns
import Derived.Deep.AppendLies
namespace Go.Proofs.YtenekbfnlbipiaaGreatDoor
open Go.RowKit
set_option linter.unusedVariables false
set_option linter.unusedSimpArgs false
set_option maxHeartbeats 4000000
set_option maxRecDepth 100000

theorem chk_facts (l:List Nat) (A:Option Addr) (w:World) (h:Rd w A l) (hn:0<l.length):
 ∃b off,A=some ⟨b,off,none⟩∧b<w.heap.size∧w.cell? ⟨b,off+(l.length-1),none⟩=some (.int .u32 ((nth l (l.length-1):Nat):Int)):=by
 obtain⟨b,off,e,hc⟩:=h.open_ hn
 exact⟨b,off,e,cell_lt (hc 0 hn),hc _ (by omega)⟩
theorem chk_ten {l:List Nat} (h1:¬16384<l.length) (h2:0<l.length) (h3:nth l (l.length-1)=0):chk l=10:=by
 unfold chk;rw[if_neg h1,last_nth (by intro e;rw[e] at h2;simp at h2),h3,if_pos rfl]
theorem chk_ok {l:List Nat} (h1:¬16384<l.length) (h2:0<l.length) (h3:nth l (l.length-1)≠0):chk l=0:=by
 unfold chk;rw[if_neg h1,last_nth (by intro e;rw[e] at h2;simp at h2),if_neg (by simpa using h3)]
theorem chk_nil {l:List Nat} (h2:¬0<l.length):chk l=0:=by
 have:l=[]:=List.eq_nil_of_length_eq_zero (by omega)
 subst this;rfl

theorem nat_Check (A:Option Addr) (l:List Nat) (n c:Nat) (hn:n=l.length) (w:World) (h:Rd w A l):
 Calls Tryz.prog 180 #[.agg #[.slice A n c]] w (Says w (.int .i64 (chk l))):=by
 subst hn
 have hl:=h.len
 by_cases h1:16384<l.length
 · have e:chk l=4:=by unfold chk;rw[if_pos h1]
   rw[e]
   go_enter Tryz.func180,Tryz.ntmps180
   go_wp2
   go_ret
   exact⟨rfl,(Below.refl _ _).alloc nrf _⟩
 · by_cases h2:0<l.length
   · obtain⟨b,off,rfl,hb,hc⟩:=chk_facts l A w h h2
     by_cases h3:nth l (l.length-1)=0
     · rw[chk_ten h1 h2 h3]
       rw[h3] at hc
       go_enter Tryz.func180,Tryz.ntmps180
       go_wp2
       go_ret
       exact⟨rfl,(Below.refl _ _).alloc nrf _⟩
     · rw[chk_ok h1 h2 h3]
       have h3':(((nth l (l.length-1):Nat):Int)==0)=false:=by simp;exact h3
       go_enter Tryz.func180,Tryz.ntmps180
       go_wp2
       go_ret
       exact⟨rfl,(Below.refl _ _).alloc nrf _⟩
   · rw[chk_nil h2]
     go_enter Tryz.func180,Tryz.ntmps180
     go_wp2
     go_ret
     exact⟨rfl,(Below.refl _ _).alloc nrf _⟩

theorem ref_Check (A:Option Addr) (l:List Nat) (n c:Nat) (hn:n=l.length) (w:World) (h:Rd w A l):
 Calls Tryz.prog 209 #[.agg #[.slice A n c]] w (Says w (.int .i64 (chk l))):=by
 subst hn
 have hl:=h.len
 by_cases h1:16384<l.length
 · have e:chk l=4:=by unfold chk;rw[if_pos h1]
   rw[e]
   go_enter Tryz.func209,Tryz.ntmps209
   go_wp2
   go_ret
   exact⟨rfl,(Below.refl _ _).alloc nrf _⟩
 · by_cases h2:0<l.length
   · obtain⟨b,off,rfl,hb,hc⟩:=chk_facts l A w h h2
     by_cases h3:nth l (l.length-1)=0
     · rw[chk_ten h1 h2 h3]
       rw[h3] at hc
       go_enter Tryz.func209,Tryz.ntmps209
       go_wp2
       go_ret
       exact⟨rfl,(Below.refl _ _).alloc nrf _⟩
     · rw[chk_ok h1 h2 h3]
       have h3':(((nth l (l.length-1):Nat):Int)==0)=false:=by simp;exact h3
       go_enter Tryz.func209,Tryz.ntmps209
       go_wp2
       go_ret
       exact⟨rfl,(Below.refl _ _).alloc nrf _⟩
   · rw[chk_nil h2]
     go_enter Tryz.func209,Tryz.ntmps209
     go_wp2
     go_ret
     exact⟨rfl,(Below.refl _ _).alloc nrf _⟩

theorem bdn {B:Nat} {a w:World} (h:Below B a w) (n:Nat):Below B a (w.drewN n):=h.trans ⟨rfl,rfl,rfl,Nat.le_refl _,fun _ _=>rfl⟩
theorem rd_at {w wr:World} {A:Option Addr} {l:List Nat} (h:Rd w A l) (hb:Below w.heap.size w wr) {k:Nat} (hk:k<l.length):
 ∃b off,A=some ⟨b,off,none⟩∧wr.cell? ⟨b,off+k,none⟩=some (.int .u32 ((nth l k:Nat):Int)):=by
 obtain⟨b,off,e,hc⟩:=(h.below hb).open_ (by omega)
 exact⟨b,off,e,hc k hk⟩

theorem nat_cmp (A B:Option Addr) (a b:List Nat) (n m c d:Nat) (hn:n=a.length) (hm:m=b.length) (w:World) (ha:Rd w A a) (hb:Rd w B b):
 Calls Tryz.prog 185 #[.slice A n c,.slice B m d] w (Says w (.int .i64 (cmpL a b))):=by
 subst hn hm
 have hla:=ha.len
 have hlb:=hb.len
 by_cases h1:a.length<b.length
 · have e:cmpL a b= -1:=by unfold cmpL;rw[if_pos h1]
   rw[e]
   go_enter Tryz.func185,Tryz.ntmps185
   go_wp2
   go_ret
   exact⟨rfl,Below.refl _ _⟩
 by_cases h2:b.length<a.length
 · have e:cmpL a b=1:=by unfold cmpL;rw[if_neg h1,if_pos h2]
   rw[e]
   go_enter Tryz.func185,Tryz.ntmps185
   go_wp2
   go_ret
   exact⟨rfl,Below.refl _ _⟩
 have hl:a.length=b.length:=by omega
 have HL:=Lib.hid hl
 clear hl
 go_enter Tryz.func185,Tryz.ntmps185
 go_wp2
 go_loopw [5] (fun i wr=>∃k:Nat,k≤a.length∧i=.int .i64 ((k:Int)-1)∧a.drop k=b.drop k∧Below w.heap.size w wr) (fun i _=>(intOf i+1).toNat)
 case atStart=>exact⟨a.length,Nat.le_refl _,rfl,by rw[List.drop_length,HL.out,List.drop_length],Below.refl _ _⟩
 case round=>
  obtain⟨k,hk,rfl,hd,hbl⟩:=hrel
  have HD:=Lib.hid hd
  clear hd
  by_cases hk0:k=0
  · subst hk0
    have e:cmpL a b=0:=(cmpL_zero ha.sm hb.sm).2 (by simpa using HD.out)
    have E:=Lib.hid e
    clear e
    go_wp2
    go_ret
    rw[E.out]
    exact⟨rfl,hbl⟩
  · obtain⟨k,rfl⟩:∃j,k=j+1:=⟨k-1,by omega⟩
    obtain⟨ba,oa,rfl,hca⟩:=rd_at ha hbl (k:=k) (by omega)
    obtain⟨bb,ob,rfl,hcb⟩:=rd_at hb hbl (k:=k) (by omega)
    rcases Nat.lt_trichotomy (nth a k) (nth b k) with h3|h3|h3
    · have E:=Lib.hid (cmpL_top_lt HL.out ha.sm k (by omega) HD.out h3)
      go_wp2
      go_quiet (fail)
      go_wp2
      go_ret
      rw[E.out]
      exact⟨rfl,(by repeat (first|assumption|exact Below.refl _ _|refine bdn ?_ _|refine Below.drew ?_))⟩
    · have E:=Lib.hid (drop_step HL.out k (by omega) HD.out h3)
      rw[h3] at hca
      clear h3
      go_wp2
      go_quiet (fail)
      go_wp2
      go_quiet (fail)
      go_wp2
      go_roundw
      case rel=>exact⟨k,by omega,by go_num,E.out,(by repeat (first|assumption|exact Below.refl _ _|refine bdn ?_ _|refine Below.drew ?_))⟩
      case measure=>first|(simp[intOf];done)|(simp[intOf];omega)
    · have E:=Lib.hid (cmpL_top_gt HL.out hb.sm k (by omega) HD.out h3)
      have h4:¬(nth a k<nth b k):=by omega
      go_wp2
      go_quiet (fail)
      go_wp2
      go_quiet (fail)
      go_wp2
      go_ret
      rw[E.out]
      exact⟨rfl,(by repeat (first|assumption|exact Below.refl _ _|refine bdn ?_ _|refine Below.drew ?_))⟩


theorem ref_Trim (A:Option Addr) (l:List Nat) (n c:Nat) (hn:n=l.length) (hc:n≤c) (w:World) (h:Rd w A l):
 Calls Tryz.prog 214 #[.slice A n c] w fun e w'=>e=.returned (.slice A (limbs (val l)).length c)∧w=w':=by
 subst hn
 have hl:=h.len
 go_enter Tryz.func214,Tryz.ntmps214
 go_wp2
 go_loop [3] (fun i=>∃k:Nat,k≤l.length∧i=.int .i64 (k:Int)∧(∀j,k≤j→nth l j=0)) (fun i=>(intOf i).toNat)
 case atStart=>exact⟨l.length,Nat.le_refl _,rfl,fun j hj=>nth_ge l hj⟩
 case round=>
  obtain⟨k,hk,rfl,hz⟩:=hrel
  have HZ:=Lib.hid hz
  clear hz
  by_cases hk0:k=0
  · subst hk0
    have E:=Lib.hid (trim_end h.sm 0 hk HZ.out (.inl rfl))
    go_wp2
    go_ret
    rw[E.out.2]
    exact⟨rfl,rfl⟩
  · obtain⟨k,rfl⟩:∃j,k=j+1:=⟨k-1,by omega⟩
    obtain⟨b,o,rfl,hc1⟩:=h.open_ (by omega)
    have hc2:=hc1 k (by omega)
    have hbs:b<w.heap.size:=cell_lt hc2
    clear hc1
    by_cases h3:nth l k=0
    · rw[h3] at hc2
      have E:Hid (∀j,k≤j→nth l j=0):=fun j hj=>by
       rcases Nat.lt_or_ge k j with h4|h4
       · exact HZ.out j h4
       · have:j=k:=by omega
         rw[this];exact h3
      clear h3
      go_wp2
      go_round
      case rel=>exact⟨k,by omega,by go_num,E.out⟩
      case measure=>first|(simp[intOf];done)|(simp[intOf];omega)
    · have E:=Lib.hid (trim_end h.sm (k+1) hk HZ.out (.inr h3))
      have h3':(((nth l k:Nat):Int)==0)=false:=by simp;exact h3
      clear h3
      go_wp2
      go_ret
      rw[E.out.2]
      exact⟨rfl,rfl⟩

def TrimPost (A:Option Addr) (l:List Nat) (w:World) (e:Ending) (w':World):Prop:=
 ∃A',(A'=A∨A'=none)∧(A'=none→val l=0)∧e=.returned (.agg #[.slice A' (limbs (val l)).length (limbs (val l)).length])∧Below w.heap.size w w'

theorem nat_trimmed (A:Option Addr) (l:List Nat) (n c:Nat) (hn:n=l.length) (hc:n≤c) (w:World) (h:Rd w A l):
 Calls Tryz.prog 182 #[.slice A n c] w (TrimPost A l w):=by
 subst hn
 have hl:=h.len
 go_enter Tryz.func182,Tryz.ntmps182
 go_wp2
 go_loop [3] (fun i=>∃k:Nat,k≤l.length∧i=.int .i64 (k:Int)∧(∀j,k≤j→nth l j=0)) (fun i=>(intOf i).toNat)
 case atStart=>exact⟨l.length,Nat.le_refl _,rfl,fun j hj=>nth_ge l hj⟩
 case round=>
  obtain⟨k,hk,rfl,hz⟩:=hrel
  have HZ:=Lib.hid hz
  clear hz
  by_cases hk0:k=0
  · subst hk0
    have E:=Lib.hid (trim_end h.sm 0 hk HZ.out (.inl rfl))
    go_wp2
    go_returns
    have e0:val l=0:=by
     have:=E.out.1
     rw[List.take_zero,limbs_eq_nil] at this;exact this
    exact⟨none,.inr rfl,fun _=>e0,by rw[E.out.2],(Below.refl _ _).alloc nrf _⟩
  · obtain⟨k,rfl⟩:∃j,k=j+1:=⟨k-1,by omega⟩
    obtain⟨b,o,rfl,hc1⟩:=h.open_ (by omega)
    have hc2:=hc1 k (by omega)
    have hbs:b<w.heap.size:=cell_lt hc2
    clear hc1
    by_cases h3:nth l k=0
    · rw[h3] at hc2
      have E:Hid (∀j,k≤j→nth l j=0):=fun j hj=>by
       rcases Nat.lt_or_ge k j with h4|h4
       · exact HZ.out j h4
       · have:j=k:=by omega
         rw[this];exact h3
      clear h3
      go_wp2
      go_round
      case rel=>exact⟨k,by omega,by go_num,E.out⟩
      case measure=>first|(simp[intOf];done)|(simp[intOf];omega)
    · have E:=Lib.hid (trim_end h.sm (k+1) hk HZ.out (.inr h3))
      have h3':(((nth l k:Nat):Int)==0)=false:=by simp;exact h3
      have h5:(((k:Int)+1)==0)=false:=by simp;omega
      clear h3
      go_wp2
      go_returns
      exact⟨_,.inl rfl,fun hh=>(by cases hh),by rw[E.out.2],(Below.refl _ _).alloc nrf _⟩

theorem ref_nat (A:Option Addr) (n c:Nat) (w:World):
 Calls Tryz.prog 213 #[.slice A n c] w fun e w'=>e=.returned (.agg #[.slice A n c])∧Below w.heap.size w w':=by
 go_enter Tryz.func213,Tryz.ntmps213
 go_wp2
 go_returns
 exact⟨rfl,(Below.refl _ _).alloc nrf _⟩

theorem ref_limb (A:Option Addr) (l:List Nat) (n c:Nat) (hn:n=l.length) (i:Int) (hi:0≤i) (w:World) (h:Rd w A l):
 Calls Tryz.prog 233 #[.slice A n c,.int .i64 i] w fun e w'=>e=.returned (.int .u64 ((nth l i.toNat:Nat):Int))∧w=w':=by
 subst hn
 have hl:=h.len
 obtain⟨k,rfl⟩:=Int.eq_ofNat_of_zero_le hi
 rw[Int.toNat_natCast]
 by_cases hk:k<l.length
 · obtain⟨b,o,rfl,hc1⟩:=h.open_ (by omega)
   have hc2:=hc1 k hk
   have hs:=h.sm.nth k
   clear hc1
   go_enter Tryz.func233,Tryz.ntmps233
   go_wp2
   go_ret
   exact⟨by go_num,rfl⟩
 · rw[nth_ge l (by omega)]
   go_enter Tryz.func233,Tryz.ntmps233
   go_wp2
   go_ret
   exact⟨rfl,rfl⟩

theorem lib_bitLen {n:Nat} (h:n<18446744073709551616):Lib.bitLen n=bitLen n:=by
 have aux:∀f n:Nat,n<2^f→Lib.bitLenAux f n=bitLen n:=by
  intro f
  induction f with
  |zero=>intro n hn;obtain rfl:n=0:=by omega
         rfl
  |succ f ih=>
   intro n hn
   unfold Lib.bitLenAux
   by_cases h0:n=0
   · rw[if_pos h0,h0];rfl
   · rw[if_neg h0,ih (n/2) (by rw[Nat.pow_succ] at hn;omega)]
     unfold bitLen
     rw[if_neg h0]
     by_cases h1:n/2=0
     · have:n=1:=by omega
       subst this;rfl
     · rw[if_neg h1,Nat.log2_def n,if_pos (by omega)];omega
 exact aux 64 n h

set_option maxRecDepth 100000 in
theorem bits_Len32 (x:Int) (w:World) (h0:0≤x) (h1:x≤4294967295):
 Calls Tryz.prog 204 #[.int .u32 x] w fun e w'=>e=.returned (.int .i64 (bitLen x.toNat))∧w=w':=by
 rw[←lib_bitLen (n:=x.toNat) (by omega)]
 have fin:∀(y:Int) (k:Nat),0≤y→y≤255→k≤24→Lib.bitLen x.toNat=k+Lib.bitLen y.toNat→wrap64 ((k:Int)+wrap64 (Lib.len8 y))=(Lib.bitLen x.toNat:Int):=by
  intro y k h0 h1 hk e
  have l:=Lib.bitLen_le8' y h0 h1
  rw[Lib.len8_of y h0 h1,e]
  unfold wrap64
  omega
 by_cases a1:x<65536
 · by_cases a2:x<256
   · have b1:x≤255:=by omega
     have f:=fin x 0 h0 b1 (by omega) (by omega)
     rw[show((0:Nat):Int)=0 from rfl,Int.zero_add] at f
     have F:=Lib.hid f
     clear f fin
     go_enter Tryz.func204,Tryz.ntmps204
     go_wp2
     go_ret
     refine⟨congrArg Ending.returned (congrArg (Value.int IntKind.i64) ?_),rfl⟩
     exact F.out
   · have b0:0≤x/256:=by omega
     have b1:x/256≤255:=by omega
     have F:=Lib.hid (fin (x/256) 8 b0 b1 (by omega) (by have:=Lib.bitLen_shift8 x.toNat (by omega) (by omega);rw[show(x/256).toNat=x.toNat/256 from by omega];exact this))
     clear fin
     go_enter Tryz.func204,Tryz.ntmps204
     go_wp2
     go_ret
     refine⟨congrArg Ending.returned (congrArg (Value.int IntKind.i64) ?_),rfl⟩
     rw[←F.out]
     have:=Lib.len8_of (x/256) b0 b1
     have:=Lib.bitLen_le8' (x/256) b0 b1
     unfold wrap64
     omega
 · by_cases a2:x/65536<256
   · have b0:0≤x/65536:=by omega
     have b1:x/65536≤255:=by omega
     have F:=Lib.hid (fin (x/65536) 16 b0 b1 (by omega) (by have:=Lib.bitLen_shift16 x.toNat (by omega) (by omega);rw[show(x/65536).toNat=x.toNat/65536 from by omega];exact this))
     clear fin
     go_enter Tryz.func204,Tryz.ntmps204
     go_wp2
     go_ret
     refine⟨congrArg Ending.returned (congrArg (Value.int IntKind.i64) ?_),rfl⟩
     rw[←F.out]
     have:=Lib.len8_of (x/65536) b0 b1
     have:=Lib.bitLen_le8' (x/65536) b0 b1
     unfold wrap64
     omega
   · have b0:0≤x/65536/256:=by omega
     have b1:x/65536/256≤255:=by omega
     have F:=Lib.hid (fin (x/65536/256) 24 b0 b1 (by omega) (by have:=Lib.bitLen_shift24 x.toNat (by omega) (by omega);rw[show(x/65536/256).toNat=x.toNat/16777216 from by omega];exact this))
     clear fin
     go_enter Tryz.func204,Tryz.ntmps204
     go_wp2
     go_ret
     refine⟨congrArg Ending.returned (congrArg (Value.int IntKind.i64) ?_),rfl⟩
     rw[←F.out]
     have:=Lib.len8_of (x/65536/256) b0 b1
     have:=Lib.bitLen_le8' (x/65536/256) b0 b1
     unfold wrap64
     omega

theorem bitLen_le {n k:Nat} (h:n<2^k):bitLen n≤k:=by
 unfold bitLen
 by_cases h0:n=0
 · rw[if_pos h0];omega
 · rw[if_neg h0];have:=(Nat.log2_lt h0).2 h;omega

theorem bits_LeadingZeros32 (x:Int) (w:World) (h0:0≤x) (h1:x≤4294967295):
 Calls Tryz.prog 181 #[.int .u32 x] w fun e w'=>e=.returned (.int .i64 (32-(bitLen x.toNat:Int)))∧w=w':=by
 have hl:bitLen x.toNat≤32:=bitLen_le (by omega)
 go_enter Tryz.func181,Tryz.ntmps181
 go_wp2_with (go_at_call 204;refine(bits_Len32 x _ h0 h1).mono ?_;rintro e w' ⟨rfl,rfl⟩)
 go_ret
 exact⟨rfl,rfl⟩

theorem bits_Mul64 (X Y:Int) (x y:Nat) (hX:X=(x:Int)) (hY:Y=(y:Int)) (hx:x<18446744073709551616) (hy:y<18446744073709551616) (w:World):
 Calls Tryz.prog 84 #[.int .u64 X,.int .u64 Y] w fun e w'=>e=.returned (.tuple #[.int .u64 ((x*y/18446744073709551616:Nat):Int),.int .u64 ((x*y%18446744073709551616:Nat):Int)])∧w=w':=by
 have h1:=mul64_arith X Y (by omega) (by omega) (by omega) (by omega)
 have e1:((x*y/18446744073709551616:Nat):Int)=X*Y/18446744073709551616:=by rw[hX,hY];simp
 have e2:((x*y%18446744073709551616:Nat):Int)=X*Y%18446744073709551616:=by rw[hX,hY];simp
 rw[e1,e2]
 have hX1:0≤X:=by omega
 have hX2:X<18446744073709551616:=by omega
 have hY1:0≤Y:=by omega
 have hY2:Y<18446744073709551616:=by omega
 clear e1 e2 hX hY
 have H1:=Lib.hid h1
 clear h1
 go_enter Tryz.func84,Tryz.ntmps84
 go_wp2
 have al:=fun z=>and_low32 (z%18446744073709551616) (Int.emod_nonneg _ (by decide)) (Int.emod_lt_of_pos _ (by decide))
 simp only[and_low32 X hX1 hX2,and_low32 Y hY1 hY2,IntKind.wrap_u64,al]
 go_ret2
 refine⟨congrArg Ending.returned (congrArg Value.tuple ?_),rfl⟩
 rw[←H1.out]
 rfl

theorem bits_Add32 (X Y C:Int) (x y c:Nat) (hX:X=(x:Int)) (hY:Y=(y:Int)) (hC:C=(c:Int)) (hx:x<4294967296) (hy:y<4294967296) (hc:c≤1) (w:World):
 Calls Tryz.prog 188 #[.int .u32 X,.int .u32 Y,.int .u32 C] w fun e w'=>e=.returned (.tuple #[.int .u32 (((x+y+c)%4294967296:Nat):Int),.int .u32 (((x+y+c)/4294967296:Nat):Int)])∧w=w':=by
 have h1:0≤X:=by omega
 have h2:X<4294967296:=by omega
 have h3:0≤Y:=by omega
 have h4:Y<4294967296:=by omega
 have h5:0≤C:=by omega
 have h6:C≤1:=by omega
 have e1:(((x+y+c)%4294967296:Nat):Int)=(X+Y+C)%4294967296:=by omega
 have e2:(((x+y+c)/4294967296:Nat):Int)=(X+Y+C)/4294967296:=by omega
 rw[e1,e2]
 clear e1 e2 hX hY hC
 go_enter Tryz.func188,Tryz.ntmps188
 go_wp2
 go_ret2
 refine⟨congrArg Ending.returned (congrArg Value.tuple ?_),rfl⟩
 rfl

theorem top31 {n:Nat} (h:n<4294967296):n/2147483648=if n.testBit 31 then 1 else 0:=by
 rw[Nat.testBit_eq_decide_div_mod_eq]
 by_cases h1:n/2^31%2=1
 · simp only[h1,decide_true,if_true];omega
 · simp only[h1,decide_false,Bool.false_eq_true,if_false];omega
theorem tb31 {n:Nat} (h:n<4294967296):n.testBit 31=decide (2147483648≤n):=by
 rw[Nat.testBit_eq_decide_div_mod_eq]
 by_cases h1:2147483648≤n
 · simp only[h1,decide_true,decide_eq_true_eq];omega
 · simp only[h1,decide_false,decide_eq_false_iff_not];omega
theorem borrow32 (x y c d:Nat) (hx:x<4294967296) (hy:y<4294967296) (hc:c≤1) (hd:d=(x+4294967296-y-c)%4294967296):
 bits BinOp.or IntKind.u32 (bits BinOp.and IntKind.u32 (bits BinOp.xor IntKind.u32 IntKind.u32.max (x:Int)) (y:Int))
     (bits BinOp.and IntKind.u32 (bits BinOp.xor IntKind.u32 IntKind.u32.max (bits BinOp.xor IntKind.u32 (x:Int) (y:Int))) (d:Int))/2147483648=((1-(x+4294967296-y-c)/4294967296:Nat):Int):=by
 have hm:IntKind.u32.max=((4294967295:Nat):Int):=by decide
 have hd':d<4294967296:=by omega
 have l1:4294967295 ^^^ x<4294967296:=Nat.xor_lt_two_pow (n:=32) (by decide) hx
 have l2:x ^^^ y<4294967296:=Nat.xor_lt_two_pow (n:=32) hx hy
 have l3:4294967295 ^^^ (x ^^^ y)<4294967296:=Nat.xor_lt_two_pow (n:=32) (by decide) l2
 have l4:(4294967295 ^^^ x) &&& y<4294967296:=Nat.and_lt_two_pow (n:=32) _ hy
 have l5:(4294967295 ^^^ (x ^^^ y)) &&& d<4294967296:=Nat.and_lt_two_pow (n:=32) _ hd'
 have l6:(4294967295 ^^^ x) &&& y ||| (4294967295 ^^^ (x ^^^ y)) &&& d<4294967296:=Nat.or_lt_two_pow (n:=32) l4 l5
 rw[hm,u32_xor_nat _ _ (by decide) hx,u32_xor_nat _ _ hx hy,u32_xor_nat _ _ (by decide) l2,u32_and_nat _ _ l1 hy,u32_and_nat _ _ l3 hd',u32_or_nat _ _ l4 l5]
 have e:=top31 l6
 have g:((((4294967295 ^^^ x) &&& y ||| (4294967295 ^^^ (x ^^^ y)) &&& d:Nat):Int)/2147483648)=(((4294967295 ^^^ x) &&& y ||| (4294967295 ^^^ (x ^^^ y)) &&& d)/2147483648:Nat):=by omega
 rw[g,e]
 simp only[Nat.testBit_or,Nat.testBit_and,Nat.testBit_xor,tb31 hx,tb31 hy,tb31 hd',tb31 (show 4294967295<4294967296 by decide)]
 by_cases a:2147483648≤x <;> by_cases b:2147483648≤y <;> by_cases f:2147483648≤d <;> simp[a,b,f] <;> omega
theorem or_low32 (x y:Nat) (hx:x<4294967296) (hy:y<4294967296):bits BinOp.or IntKind.u64 ((x:Int)*4294967296) (y:Int)=((x*4294967296+y:Nat):Int):=by
 have e:((x:Int)*4294967296)=((x*4294967296:Nat):Int):=by omega
 rw[e,u64_or_nat _ _ (by omega) (by omega)]
 have:=Nat.two_pow_add_eq_or_of_lt (i:=32) (b:=y) hy x
 rw[show x*4294967296=2^32*x from by omega, ←this]
theorem div32_lt (x y d:Nat) (hx:x<d) (hy:y<4294967296):(x*4294967296+y)/d<4294967296:=by
 rw[Nat.div_lt_iff_lt_mul (by omega)]
 have:(x+1)*4294967296≤d*4294967296:=Nat.mul_le_mul_right _ hx
 omega

theorem bits_Sub32 (X Y C:Int) (x y c:Nat) (hX:X=(x:Int)) (hY:Y=(y:Int)) (hC:C=(c:Int)) (hx:x<4294967296) (hy:y<4294967296) (hc:c≤1) (w:World):
 Calls Tryz.prog 187 #[.int .u32 X,.int .u32 Y,.int .u32 C] w fun e w'=>e=.returned (.tuple #[.int .u32 (((x+4294967296-y-c)%4294967296:Nat):Int),.int .u32 ((1-(x+4294967296-y-c)/4294967296:Nat):Int)])∧w=w':=by
 have h1:0≤X:=by omega
 have h2:X<4294967296:=by omega
 have h3:0≤Y:=by omega
 have h4:Y<4294967296:=by omega
 have h5:0≤C:=by omega
 have h6:C≤1:=by omega
 go_enter Tryz.func187,Tryz.ntmps187
 go_wp2
 go_ret2
 refine⟨ret_pair ?_ ?_,rfl⟩
 · omega
 · have e:(((x:Int)-y-c)%4294967296)=(((x+4294967296-y-c)%4294967296:Nat):Int):=by omega
   rw[e]
   exact borrow32 x y c _ hx hy hc rfl

theorem bits_Div32 (X Y D:Int) (x y d:Nat) (hX:X=(x:Int)) (hY:Y=(y:Int)) (hD:D=(d:Int)) (hx:x<d) (hy:y<4294967296) (hd:d<4294967296) (w:World):
 Calls Tryz.prog 225 #[.int .u32 X,.int .u32 Y,.int .u32 D] w fun e w'=>e=.returned (.tuple #[.int .u32 (((x*4294967296+y)/d:Nat):Int),.int .u32 (((x*4294967296+y)%d:Nat):Int)])∧Below w.heap.size w w':=by
 have h1:0≤X:=by omega
 have h2:X<4294967296:=by omega
 have h3:0≤Y:=by omega
 have h4:Y<4294967296:=by omega
 have h5:1≤D:=by omega
 have h6:D<4294967296:=by omega
 have h7:¬D≤X:=by omega
 have h8:(D !=0)=true:=by rw[bne_iff_ne];omega
 go_enter Tryz.func225,Tryz.ntmps225
 go_wp2
 go_quiet (fail)
 go_wp2
 go_ret2
 refine⟨ret_pair ?_ ?_,(by repeat (first|assumption|exact Below.refl _ _|refine bdn ?_ _|refine Below.drew ?_))⟩
 · have l:=div32_lt x y d hx hy
   rw[or_low32 x y (by omega) hy,Int.tdiv_eq_ediv_of_nonneg (by omega), ←Int.natCast_ediv,IntKind.wrap_u64]
   generalize (x*4294967296+y)/d=q at l ⊢
   omega
 · have l:(x*4294967296+y)%d<d:=Nat.mod_lt _ (by omega)
   rw[or_low32 x y (by omega) hy,Int.tmod_eq_emod_of_nonneg (by omega), ←Int.natCast_emod]
   generalize (x*4294967296+y)%d=q at l ⊢
   omega

theorem info_u32:(Tryz.prog.info? 153).map (fun i=>(i.zero,i.size,i.bytes))=some (some (.int .u32 0),1,4):=by kernel_rfl
theorem under_u32s:Tryz.prog.underlying 65=some (.slice 153):=Tryz.underlying65
theorem mk32 (n:Nat) (N:Int) (hN:N=(n:Int)) (hn:n≤70368744177664) (w:World):
 (Instr.makeSlice 65 (.int .i64 N) (.int .i64 N)).run Tryz.prog w=.ok (.slice (some ⟨w.heap.size,0,none⟩) n n) (w.alloc (.cells (c32 (List.replicate n 0)) 153)):=by
 obtain⟨i,hi,hz,hs,hb⟩:=info_parts info_u32
 exact run_make32 _ _ i under_u32s hi hz hs hb n N hN hn w

theorem nat_trimmed_own (g:Nat) (l:List Nat) (n c:Nat) (B:Nat) (hn:n=l.length) (hc:n≤c) (w:World) (h:Row w 153 g l) (hs:Sm l) (hl:l.length≤35184372088960) (hB:B≤g):
 Calls Tryz.prog 182 #[.slice (some ⟨g,0,none⟩) n c] w fun e w'=>∃A c,e=.returned (.agg #[.slice A (limbs (val l)).length c])∧Own w' 153 B A c (limbs (val l))∧(A=none∨A=some ⟨g,0,none⟩)∧Below w.heap.size w w':=by
 refine(nat_trimmed _ l n c hn hc w (h.rd0 hs hl)).mono ?_
 rintro e w' ⟨A',hA,hz,rfl,hb⟩
 have hlen:=limbs_length_le hs
 rcases hA with rfl|rfl
 · refine⟨_,_,rfl,?_,.inr rfl,hb⟩
   have:=(h.below hb h.lt).own hs hl hB (limbs (val l)).length nrf hlen
   rw[←limbs_prefix hs] at this
   exact this
 · have e0:=hz rfl
   rw[e0]
   exact⟨none,0,rfl,Own.nil _ _ _,.inl rfl,hb⟩

theorem nat_Of (N:Int) (n:Nat) (hN:N=(n:Int)) (hn:n<18446744073709551616) (w:World):
 Calls Tryz.prog 132 #[.int .u64 N] w (NatOne 153 w (limbs n)):=by
 have h1:0≤N:=by omega
 have h2:N<18446744073709551616:=by omega
 have hs:Sm [n%4294967296,n/4294967296]:=Sm.cons (by omega) (Sm.cons (by omega) Sm.nil)
 have hv:val [n%4294967296,n/4294967296]=n:=by simp only[val];omega
 have HV:=Lib.hid hv
 have HN:=Lib.hid hN
 clear hN hv
 go_enter Tryz.func132,Tryz.ntmps132
 go_wp2_with fail
 refine(nat_trimmed_own _ [n%4294967296,n/4294967296] 2 2 (w.heap.size+1) rfl (by decide) _ (row_new ?_ (by simp)) hs (by simp) nrf).mono ?_
 · have:=HN.out
   simp[c32];omega
 rintro e w1 ⟨A,c,rfl,ho,hA,hb⟩
 obtain⟨hc,hf⟩:=bcell hb
 have hz:=hb.size
 have hbw:Below w.heap.size w w1:=Below.trans (b:=_) bbel (hb.mono (by go_size))
 go_wp2
 (try simp only[Exit.inBlock,Exit.then]);refine bodyPost_ret (by simp (maxDischargeDepth:=9) [results,Tryz.results132,go_sem,hc];try rfl) rfl ?_
 rw[HV.out] at ho ⊢
 exact⟨A,c,rfl,(ho.setCell (by simp) _).mono (by omega),bbel⟩

theorem ref_Of (N:Int) (n:Nat) (hN:N=(n:Int)) (hn:n<18446744073709551616) (w:World):
 Calls Tryz.prog 167 #[.int .u64 N] w (NatOne 153 w (limbs n)):=by
 have h1:0≤N:=by omega
 have h2:N<18446744073709551616:=by omega
 have hs:Sm [n%4294967296,n/4294967296]:=Sm.cons (by omega) (Sm.cons (by omega) Sm.nil)
 have hv:val [n%4294967296,n/4294967296]=n:=by simp only[val];omega
 have HV:=Lib.hid hv
 have HN:=Lib.hid hN
 clear hN hv
 go_enter Tryz.func167,Tryz.ntmps167
 go_wp2_with fail
 have hr:Row ((w.alloc (Obj.cells #[Value.slice none 0 0] 67)).alloc (Obj.cells #[Value.int IntKind.u32 (N%4294967296),Value.int IntKind.u32 (N/4294967296)] 153)) 153 (w.heap.size+1) [n%4294967296,n/4294967296]:=by
  refine row_new ?_ (by simp)
  have:=HN.out
  simp[c32];omega
 refine(ref_Trim _ [n%4294967296,n/4294967296] 2 2 rfl (by decide) _ (hr.rd0 hs (by simp))).mono ?_
 rintro e w1 ⟨rfl,rfl⟩
 go_wp2_with fail
 refine(ref_nat _ _ _ _).mono ?_
 rintro e w1 ⟨rfl,hb⟩
 obtain⟨hc,hf⟩:=bcell hb
 have hz:=hb.size
 have hbw:Below w.heap.size w w1:=Below.trans (b:=_) bbel (hb.mono (by go_size))
 have ho:Own w1 153 (w.heap.size+1) (some ⟨w.heap.size+1,0,none⟩) 2 (limbs n):=by
  have:=(hr.below hb hr.lt).own hs (by simp) nrf (limbs (val [n%4294967296,n/4294967296])).length (limbs_length_le hs) nrf
  rw[←limbs_prefix hs,HV.out] at this
  exact this
 go_wp2
 (try simp only[Exit.inBlock,Exit.then]);refine bodyPost_ret (by simp (maxDischargeDepth:=9) [results,Tryz.results167,go_sem,hc];try rfl) rfl ?_
 exact⟨_,_,by rw[HV.out],(ho.setCell (by simp) _).mono (by omega),bbel⟩

theorem nat_fits (g:Nat) (l:List Nat) (n c:Nat) (B:Nat) (hn:n=l.length) (hc:n≤c) (w:World) (h:Row w 153 g l) (hs:Sm l) (hl:l.length≤35184372088960) (hB:B≤g) (hBw:B≤w.heap.size):
 Calls Tryz.prog 224 #[.slice (some ⟨g,0,none⟩) n c] w fun e w'=>∃A c,e=.returned (.tuple #[.agg #[.slice A (fitS (val l)).1.length c],.int .i64 (fitS (val l)).2])∧Own w' 153 B A c (fitS (val l)).1∧Below w.heap.size w w':=by
 subst hn
 have h1:=h.alloc (Obj.cells #[Value.slice none 0 0] 67)
 have hlim:=limbs_length_le hs
 by_cases h5:16384<(limbs (val l)).length
 · have e:fitS (val l)=([],4):=by unfold fitS;rw[if_pos h5]
   rw[e]
   go_enter Tryz.func224,Tryz.ntmps224
   go_wp2_with fail
   refine(nat_trimmed_own g l _ c B rfl hc _ h1 hs hl hB).mono ?_
   rintro e w1 ⟨A,c',rfl,ho,hA,hb1⟩
   obtain⟨hc1,hf1⟩:=bcell hb1
   have hbw1:Below w.heap.size w w1:=Below.trans (b:=_) bbel (hb1.mono (by go_size))
   have hz1_0:w.heap.size<w1.heap.size:=by have:=hb1.size;simp at this;omega
   go_wp2
   (try simp only[Exit.inBlock,Exit.then]);refine bodyPost_ret (by simp (maxDischargeDepth:=9) [results,Tryz.results224,go_sem,hc1,hz1_0];try rfl) rfl ?_
   exact⟨none,0,rfl,Own.nil _ _ _,bbel⟩
 · have e:fitS (val l)=(limbs (val l),0):=by unfold fitS;rw[if_neg h5]
   rw[e]
   go_enter Tryz.func224,Tryz.ntmps224
   go_wp2_with fail
   refine(nat_trimmed_own g l _ c B rfl hc _ h1 hs hl hB).mono ?_
   rintro e w1 ⟨A,c',rfl,ho,hA,hb1⟩
   obtain⟨hc1,hf1⟩:=bcell hb1
   have hbw1:Below w.heap.size w w1:=Below.trans (b:=_) bbel (hb1.mono (by go_size))
   have hz1_0:w.heap.size<w1.heap.size:=by have:=hb1.size;simp at this;omega
   go_wp2
   (try simp only[Exit.inBlock,Exit.then]);refine bodyPost_ret (by simp (maxDischargeDepth:=9) [results,Tryz.results224,go_sem,hc1,hz1_0];try rfl) rfl ?_
   refine⟨_,_,rfl,?_,bbel⟩
   exact(ho.setNe hA (by have:=h.lt;simp;omega) _).alloc _

def ints (k:IntKind) (l:List Nat):List Value:=l.map fun x:Nat=>Value.int k (x:Int)
@[simp] theorem ints_length (k:IntKind) (l:List Nat):(ints k l).length=l.length:=by simp[ints]
theorem ints_append (k:IntKind) (a b:List Nat):ints k (a++b)=ints k a++ints k b:=by simp[ints]
theorem ints_get (k:IntKind) (l:List Nat) (j:Nat) (h:j<l.length):(ints k l)[j]?=some (.int k ((nth l j:Nat):Int)):=by
 rw[nth_lt l h];simp[ints,h]
def OwnR (w:World) (B:Nat) (e:TypeId) (k:IntKind) (v:Value) (l:List Nat):Prop:=w.ownsRow B e 1 v l.length (ints k l)
section
variable {w w':World} {B:Nat} {e:TypeId} {k:IntKind} {v:Value} {l:List Nat}
theorem OwnR.nil (w:World) (B:Nat) (e:TypeId) (k:IntKind):OwnR w B e k (.slice none 0 0) []:=World.ownsRow_nil w B e 1
theorem OwnR.alloc (h:OwnR w B e k v l) (o:Obj):OwnR (w.alloc o) B e k v l:=World.ownsRow.alloc h o
theorem OwnR.lt (h:OwnR w B e k v l):∀g,v.ownBlock=some g→B≤g∧g<w.heap.size:=World.ownsRow.lt h
theorem OwnR.form (h:OwnR w B e k v l):(v=.slice none 0 0∧l=[])∨∃g cap cur,v=.slice (some ⟨g,0,none⟩) l.length cap∧B≤g∧Blk w g e cur∧l.length≤cap∧cap≤cur.size∧∀j,j<l.length→cur[j]?=some (.int k ((nth l j:Nat):Int)):=by
 rcases h.2 with ⟨rfl,hn⟩|⟨g,cap,cur,rfl,hg,hh,hnc,_,hs,ht⟩
 · exact .inl ⟨rfl,List.eq_nil_of_length_eq_zero hn⟩
 · refine .inr ⟨g,cap,cur,rfl,hg,hh,hnc,by omega,fun j hj=>?_⟩
   have h1:=ints_get k l j hj
   rw[←ht,List.getElem?_take] at h1
   rw[Nat.mul_one] at h1
   rw[if_pos hj] at h1
   simpa using h1
theorem OwnR.own {t:TypeId} (h:OwnR w B t .u32 v l) (hs:Sm l) (hl:l.length≤35184372088960):∃A c,v=.slice A l.length c∧l.length≤c∧Own w t B A c l:=by
 rcases h.form with ⟨rfl,rfl⟩|⟨g,cap,cur,rfl,hg,hh,hnc,hcs,hc⟩
 · exact⟨none,0,rfl,Nat.le_refl _,Own.nil _ _ _⟩
 · exact⟨_,_,rfl,hnc,hs,hl,.inr ⟨g,cur,rfl,hg,hh,hnc,hcs,hc⟩⟩
theorem OwnR.made {t:TypeId} {n:Nat} (hB:B≤w.heap.size) (hn:n≤70368744177664):OwnR (w.alloc (.cells (c32 (List.replicate n 0)) t)) B t .u32 (.slice (some ⟨w.heap.size,0,none⟩) n n) (List.replicate n 0):=by
 have e:(List.replicate n 0).length=n:=by simp
 refine⟨by simp,.inr ⟨w.heap.size,n,c32 (List.replicate n 0),by rw[e],hB,heap_alloc_new w _,by omega,by unfold maxLen;omega,by rw[c32_size];simp,?_⟩⟩
 simp[c32,ints]
end

structure ElemOf (P:Program) (t e:TypeId) (k:IntKind):Prop where
 ht:P.underlying t=some (.slice e)
 hi:∃(i:TypeInfo) (b:Nat),P.info? e=some i∧i.zero=some (.int k 0)∧i.size=1∧i.bytes=b∧b≤8

theorem below_grown {w w':World} {B:Nat} {v:Value} {e:TypeId} {k:IntKind} {l:List Nat} (hg:w.grownBy w' v.ownBlock) (hown:OwnR w B e k v l) (hB:B≤w.heap.size):Below B w w':=
 (Below.refl B w).grown hg hB fun k hk=>(hown.lt k hk).1

section
variable {P:Program} {ops:Array Oper} {rest:List Oper} {o:Oper} {a:Act} {Q:Exit→Act→World→Prop} {w:World} {B:Nat} {t e:TypeId} {k:IntKind} {v:Value} {l:List Nat}
theorem wpList_app (E:ElemOf P t e k) (hgd:o.guard=none) (s x:Operand) (ho:o.op=.call { callee:=.builtin .append,args:=#[s,x],argTypes:=#[t,t] })
 (hown:OwnR w B e k v l) (hs:a.eval s=v) (ad:Addr) (hx:a.eval x=.slice (some ad) 1 1) (y:Nat) (hcell:w.cell? ad=some (.int k (y:Int)))
 (hlen:l.length≤1099511627776) (hB:B≤w.heap.size)
 (h:∀v' w',OwnR w' B e k v' (l++[y])→w.grownBy w' v.ownBlock→Below B w w'→wpList P ops Q rest (a.put o.dst v') w'):wpList P ops Q (o :: rest) a w:=by
 obtain⟨i,b,hi,hz,hsz,hby,hb8⟩:=E.hi
 refine wpList_append_own w hgd s x t ho B e i (.int k 0) 1 b E.ht hi hz hsz hby rfl (by decide) v l.length (ints k l) hs hown ad 1 1 [.int k (y:Int)] hx rfl ?_ ?_ ?_ ?_ hB ?_
 · intro j u hj
   match j with
   |0=>simp at hj;subst hj;simpa [Addr.add] using hcell
   |j+1=>simp at hj
 · intro u hu;simp at hu;subst hu;rfl
 · unfold maxLen;omega
 · have:(l.length+1)*b≤(l.length+1)*8:=Nat.mul_le_mul_left _ hb8
   omega
 · intro v' w' h1 h2 _
   refine h v' w' ?_ h2 (below_grown h2 hown hB)
   unfold OwnR
   rw[List.length_append,ints_append]
   exact h1
theorem wpList_apps (E:ElemOf P t e k) (hgd:o.guard=none) (s x:Operand) (ho:o.op=.call { callee:=.builtin .append,args:=#[s,x],argTypes:=#[t,t] })
 (hown:OwnR w B e k v l) (hs:a.eval s=v) (A:Option Addr) (m:List Nat) (mm c:Nat) (hm:mm=m.length) (hx:a.eval x=.slice A mm c)
 (hcell:0<m.length→∃b off,A=some ⟨b,off,none⟩∧∀j,j<m.length→w.cell? ⟨b,off+j,none⟩=some (.int k ((nth m j:Nat):Int)))
 (hlen:(l.length+m.length)*8≤140737488355328∨k=.u32∧(P.info? e).map (·.bytes)=some 4∧(l.length+m.length)*4≤140737488355328) (hB:B≤w.heap.size)
 (h:∀v' w',OwnR w' B e k v' (l++m)→w.grownBy w' v.ownBlock→Below B w w'→wpList P ops Q rest (a.put o.dst v') w'):wpList P ops Q (o :: rest) a w:=by
 subst hm
 obtain⟨i,b,hi,hz,hsz,hby,hb8⟩:=E.hi
 have hbytes:(l.length+m.length)*b≤140737488355328:=by
  rcases hlen with h1|⟨_,h1,h2⟩
  · have:(l.length+m.length)*b≤(l.length+m.length)*8:=Nat.mul_le_mul_left _ hb8
    omega
  · rw[hi] at h1;simp at h1;rw[←hby,h1];exact h2
 have hlen':l.length+m.length≤maxLen:=by
  unfold maxLen
  rcases hlen with h1|⟨_,h1,h2⟩ <;> omega
 by_cases h0:0<m.length
 · obtain⟨bb,off,rfl,hc⟩:=hcell h0
   refine wpList_append_own w hgd s x t ho B e i (.int k 0) 1 b E.ht hi hz hsz hby rfl (by decide) v l.length (ints k l) hs hown ⟨bb,off,none⟩ m.length c (ints k m) hx (by simp) ?_ ?_ hlen' hbytes hB ?_
   · intro j u hj
     have hjl:j<m.length:=by
      rcases Nat.lt_or_ge j m.length with h1|h1
      · exact h1
      · rw[List.getElem?_eq_none (by simpa using h1)] at hj;cases hj
     rw[ints_get k m j hjl] at hj
     injection hj with hj
     subst hj
     have:(⟨bb,off,none⟩:Addr).add j=⟨bb,off+j,none⟩:=by unfold Addr.add;split <;> simp_all
     rw[this];exact hc j hjl
   · intro u hu
     simp only[ints,List.mem_map] at hu
     obtain⟨z,_,rfl⟩:=hu
     rfl
   · intro v' w' h1 h2 _
     refine h v' w' ?_ h2 (below_grown h2 hown hB)
     unfold OwnR
     rw[List.length_append,ints_append]
     exact h1
 · have hm0:m=[]:=List.eq_nil_of_length_eq_zero (by omega)
   subst hm0
   have hrun:(Builtin.append_ #[t,t] o.type #[v,.slice A 0 c]).run P w=.ok v w:=by
    rcases hown.2 with ⟨rfl,_⟩|⟨g,cap,cur,rfl,_,_,hnc,_⟩
    · cases A <;> simp[Builtin.append_,run_underlying E.ht,sizeOf,typeInfo,hi,Builtin.lenOf,Builtin.firstCells,loadCells,loadCellsFrom]
    · cases A <;> simp[Builtin.append_,run_underlying E.ht,sizeOf,typeInfo,hi,Builtin.lenOf,Builtin.firstCells,loadCells,loadCellsFrom,hnc,storeCells]
   refine wpList_plain hgd fun K hK=>?_
   unfold Oper.wp execOp
   simp only[ho,resolve,invoke,builtin,Sem.run_bind,Sem.run_pure,Result.andThen_ok,List.map_toArray,List.map_cons,List.map_nil,hs,hx,List.length_nil,hrun]
   refine hK _ _ (h v w ?_ (World.grownBy.refl w _) (Below.refl _ _))
   simpa using hown
end
end Go.Proofs.YtenekbfnlbipiaaGreatDoor
