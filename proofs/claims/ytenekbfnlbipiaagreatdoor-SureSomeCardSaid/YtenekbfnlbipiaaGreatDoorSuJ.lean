/- A number over a power of two, cut: the contract. -/
import Derived.Test.YtenekbfnlbipiaaGreatDoorSuI
namespace Go.Proofs.YtenekbfnlbipiaaGreatDoor
open Go.RowKit
set_option linter.unusedVariables false
set_option linter.unusedSimpArgs false
set_option maxHeartbeats 4000000
set_option maxRecDepth 100000

def halfS (v n:Nat):Int:=if v%2^n<2^(n-1) then -1 else if v%2^n=2^(n-1) then 0 else 1
theorem cut_gen {hi mid low C Q D E:Nat} (hQ:Q=D*E) (hE:0<E) (hm:mid<Q) (hl:low<C):
 ((hi*Q+mid)*C+low)/(C*E)%Q=hi*D%Q+mid/E∧((hi*Q+mid)*C+low)%(C*E)=mid%E*C+low∧hi*D%Q=D*(hi%E)∧mid/E<D:=by
 have hC:0<C:=by omega
 have e1:((hi*Q+mid)*C+low)/C=hi*Q+mid:=by
  rw[Nat.mul_comm,Nat.mul_add_div hC,Nat.div_eq_of_lt hl];rfl
 have e1m:((hi*Q+mid)*C+low)%C=low:=by
  rw[Nat.mul_comm,Nat.mul_add_mod,Nat.mod_eq_of_lt hl]
 have hY:mid/E<D:=by
  rw[Nat.div_lt_iff_lt_mul hE, ←hQ];exact hm
 have e2:(hi*Q+mid)/E=hi*D+mid/E:=by
  rw[hQ, ←Nat.mul_assoc,Nat.mul_comm _ E,Nat.mul_add_div hE]
 have e2m:(hi*Q+mid)%E=mid%E:=by
  rw[hQ, ←Nat.mul_assoc,Nat.mul_comm _ E,Nat.mul_add_mod]
 have hX:hi*D%Q=D*(hi%E):=by
  rw[hQ,Nat.mul_comm hi,Nat.mul_mod_mul_left]
 refine⟨?_,?_,hX,hY⟩
 · rw[←Nat.div_div_eq_div_mul,e1,e2]
   have hd:hi*D=Q*(hi/E)+D*(hi%E):=by
    have:=Nat.div_add_mod hi E
    calc hi*D=(E*(hi/E)+hi%E)*D:=by rw[this]
     _=Q*(hi/E)+D*(hi%E):=by rw[Nat.add_mul,hQ];ac_rfl
   rw[hX,hd,Nat.add_assoc,Nat.mul_add_mod,Nat.mod_eq_of_lt]
   have h1:hi%E+1≤E:=Nat.mod_lt _ hE
   have h2:=Nat.mul_le_mul_left D h1
   rw[Nat.mul_add, ←hQ] at h2
   omega
 · rw[Nat.mod_mul,e1,e1m,e2m,Nat.mul_comm C];omega
theorem two64 {r:Nat} (hr:r≤64):18446744073709551616=2^(64-r)*2^r:=by
 rw[←Nat.pow_add,show 64-r+r=64 by omega]
theorem cut_plain {hi mid low C r:Nat} (hm:mid<18446744073709551616) (hl:low<C) (hr:r≤64):
 ((hi*18446744073709551616+mid)*C+low)/(C*2^r)%18446744073709551616=hi*2^(64-r)%18446744073709551616+mid/2^r∧
 ((hi*18446744073709551616+mid)*C+low)%(C*2^r)=mid%2^r*C+low:=
 have h:=cut_gen (hi:=hi) (two64 hr) (Nat.two_pow_pos r) hm hl
 ⟨h.1,h.2.1⟩
theorem cmp_lt {r H C low:Nat} (hl:low<C) (h:r<H):r*C+low<H*C:=by
 have:=Nat.mul_le_mul_right C (show r+1≤H from h);rw[Nat.add_mul] at this;omega
theorem cmp_gt {r H C low:Nat} (h:H<r):H*C≤r*C+low∧(0<C→H*C<r*C+low):=by
 have:=Nat.mul_le_mul_right C (show H+1≤r from h);rw[Nat.add_mul] at this;omega
theorem zero_iff {r C low:Nat} (hC:0<C):(r*C+low=0)↔(r=0∧low=0):=by
 constructor
 · intro h
   have h1:r*C=0:=by omega
   rcases Nat.mul_eq_zero.1 h1 with h2|h2
   · exact⟨h2,by omega⟩
   · omega
 · rintro⟨rfl,rfl⟩;simp
theorem half_of {v n r H C low:Nat} (h1:v%2^n=r*C+low) (h2:2^(n-1)=H*C) (hl:low<C):
 (r<H→halfS v n= -1)∧(H<r→halfS v n=1)∧(r=H→low=0→halfS v n=0)∧(r=H→low≠0→halfS v n=1)∧decide (v%2^n=0)=(decide (r=0)&&decide (low=0)):=by
 have hC:0<C:=by omega
 unfold halfS
 rw[h1,h2]
 refine⟨fun h=>?_,fun h=>?_,fun h h0=>?_,fun h h0=>?_,?_⟩
 · rw[if_pos (cmp_lt hl h)]
 · have:=(cmp_gt (low:=low) h).2 hC
   rw[if_neg (by omega),if_neg (by omega)]
 · subst h h0;rw[if_neg (by omega),if_pos (by omega)]
 · subst h;rw[if_neg (by omega),if_neg (by omega)]
 · rw[←Bool.decide_and];exact decide_eq_decide.2 (zero_iff hC)
theorem int_eq0 (a:Nat):((a:Int)==0)=decide (a=0):=by
 by_cases h:a=0
 · subst h;rfl
 · rw[decide_eq_false h,beq_eq_false_iff_ne];omega
theorem or0 (a:Nat) (h:a<18446744073709551616):bits BinOp.or IntKind.u64 0 (a:Int)=(a:Int):=by
 have:=u64_or_nat 0 a (by decide) h
 rw[Nat.zero_or] at this
 exact this
theorem or_parts {hi mid r:Nat} (hm:mid<18446744073709551616) (hr:r≤64):bits BinOp.or IntKind.u64 ((hi*2^(64-r)%18446744073709551616:Nat):Int) ((mid/2^r:Nat):Int)=((hi*2^(64-r)%18446744073709551616+mid/2^r:Nat):Int):=by
 have h:=cut_gen (hi:=hi) (low:=0) (C:=1) (two64 hr) (Nat.two_pow_pos r) hm (by decide)
 have h1:hi*2^(64-r)%18446744073709551616<18446744073709551616:=Nat.mod_lt _ (by decide)
 have h2:mid/2^r<18446744073709551616:=Nat.lt_of_le_of_lt (Nat.div_le_self _ _) hm
 rw[u64_or_nat _ _ h1 h2,h.2.2.1]
 congr 1
 exact(Nat.two_pow_add_eq_or_of_lt h.2.2.2 _).symm

theorem beqF {a b:Int} (h:a≠b):(a==b)=false:=beq_eq_false_iff_ne.2 h
theorem beqE {a b:Int} (h:a=b):(a==b)=true:=beq_iff_eq.2 h
theorem wrap_mul (a k:Nat):IntKind.u64.wrap ((a:Int)*2^k)=((a*2^k%18446744073709551616:Nat):Int):=by
 have h3:((a:Int)*2^k)=((a*2^k:Nat):Int):=by push_cast;rfl
 rw[h3,IntKind.wrap_u64];omega
theorem wrap_two {k M:Nat} (hk:k<64) (hM:M+1=2^k):IntKind.u64.wrap (2^k)=(M:Int)+1∧M<18446744073709551616:=by
 have h1:=Nat.pow_le_pow_right (n:=2) (by decide) (show k≤63 by omega)
 have h2:(2:Nat)^63=9223372036854775808:=rfl
 have h3:((2:Int)^k)=((2^k:Nat):Int):=by push_cast;rfl
 rw[h3, ←hM,IntKind.wrap_u64]
 omega
def CutP (a1 a2 a3 n v:Nat):Prop:=∀w:World,Calls Tryz.prog 40 #[.agg #[.int .u64 0,.int .u64 (a1:Int),.int .u64 (a2:Int),.int .u64 (a3:Int)],.int .i64 (n:Int)] w (Says w (.tuple #[.int .u64 ((v/2^n%18446744073709551616:Nat):Int),.int .i64 (halfS v n),.bool (decide (v%2^n=0))]))
theorem cut_of2 (a1 a2 a3 v n:Nat) (h1:a1<18446744073709551616) (h2:a2<18446744073709551616) (h3:a3<18446744073709551616) (hv:v=(a1*18446744073709551616+a2)*18446744073709551616+a3) (n1:64<n) (n2:n<128):CutP a1 a2 a3 n v:=by
 intro w
 obtain⟨r,hr⟩:∃r,n=64+r:=⟨n-64,by omega⟩
 have hC:2^n=18446744073709551616*2^r:=by rw[hr,Nat.pow_add]
 have hC1:2^(n-1)=2^(r-1)*18446744073709551616:=by rw[show n-1=64+(r-1) by omega,Nat.pow_add,Nat.mul_comm]
 have hv2:v=(a1*18446744073709551616+a2)*18446744073709551616+a3:=by
  exact hv
 have hlow:a3<18446744073709551616:=by omega
 have hcp:=cut_plain (hi:=a1) (r:=r) h2 hlow (by omega)
 rw[←hv2, ←hC] at hcp
 rw[hcp.1]
 obtain⟨q1,q2,q3,q4,q5⟩:=half_of hcp.2 hC1 hlow
 obtain⟨M,hM⟩:=Fo.pow_m1 r
 have hP:=wrap_two (by omega) hM
 have hand:=Fo.and_mask a2 r M hM (by omega) h2
 obtain⟨M',hM'⟩:=Fo.pow_m1 (r-1)
 have hH:=(wrap_two (by omega) hM').1
 have hcast:(M':Int)+1=((2^(r-1):Nat):Int):=by rw[←hM'];rfl
 rw[hcast,show r-1=n-65 by omega] at hH
 have hH0:0<2^(n-65):=Nat.two_pow_pos _
 rw[show r-1=n-65 by omega] at q1 q2 q3 q4
 have hor:=or_parts (hi:=a1) (mid:=a2) (r:=r) h2 (by omega)
 rw[show r=n-64 by omega] at hP hand hor hcp q1 q2 q3 q4 q5 ⊢
 rw[q5]
 have hX:=wrap_mul a1 (128-n)
 rw[show 64-(n-64)=128-n by omega] at hor ⊢
 have hX2:=or0 (a1*2^(128-n)%18446744073709551616) (Nat.mod_lt _ (by decide))
 generalize a1*2^(128-n)%18446744073709551616=X at*
 have hY:(a2:Int)/2^(n-64)=((a2/2^(n-64):Nat):Int):=by push_cast;rfl
 generalize a2/2^(n-64)=Y at*
 generalize a2%2^(n-64)=R at*
 generalize 2^(n-65)=H at*
 have hNB:(decide (R=0)&&decide (a3=0))=(((R:Int)==0)&&(((a3:Int)==0))):=by
  rw[int_eq0,int_eq0]
 rcases Nat.lt_trichotomy R H with h|h|h
 · rw[q1 h,hNB]
   exact cut_2lt a1 a2 a3 n X Y M R H (X+Y) h1 h2 h3 (by omega) (by omega) hX hX2 hY hor hP.1 hP.2 hand (show((n:Int)-1)/64=1 by omega) (show((n:Int)-1)%64=(n:Int)-65 by omega) hH (beqF (by omega)) (decide_eq_true (by omega)) h _ rfl w
 · subst h
   have hN0:decide (R=0)=false:=by rw[decide_eq_false_iff_not];omega
   rw[hN0,Bool.false_and]
   by_cases hl0:a3=0
   · rw[q3 rfl hl0]
     exact cut_2eq a1 a2 a3 n X Y M R (X+Y) h1 h2 h3 (by omega) (by omega) hX hX2 hY hor hP.1 hP.2 hand (show((n:Int)-1)/64=1 by omega) (show((n:Int)-1)%64=(n:Int)-65 by omega) hH (beqE (by omega)) (beqF (by omega)) (beqE (by omega)) w
   · rw[q4 rfl hl0]
     exact cut_2eq3 a1 a2 a3 n X Y M R (X+Y) h1 h2 h3 (by omega) (by omega) hX hX2 hY hor hP.1 hP.2 hand (show((n:Int)-1)/64=1 by omega) (show((n:Int)-1)%64=(n:Int)-65 by omega) hH (beqE (by omega)) (beqF (by omega)) (beqF (by omega)) (decide_eq_false (by omega)) (decide_eq_true (by omega)) (decide_eq_true (by omega)) w
 · have hN0:decide (R=0)=false:=by rw[decide_eq_false_iff_not];omega
   rw[q2 h,hN0,Bool.false_and]
   exact cut_2gt a1 a2 a3 n X Y M R H (X+Y) h1 h2 h3 (by omega) (by omega) hX hX2 hY hor hP.1 hP.2 hand (show((n:Int)-1)/64=1 by omega) (show((n:Int)-1)%64=(n:Int)-65 by omega) hH (beqF (by omega)) (decide_eq_false (by omega)) (decide_eq_false (by omega)) (decide_eq_true (by omega)) (decide_eq_true (by omega)) (beqF (by omega)) w
theorem cut_of4 (a1 a2 a3 v n:Nat) (h1:a1<18446744073709551616) (h2:a2<18446744073709551616) (h3:a3<18446744073709551616) (hv:v=(a1*18446744073709551616+a2)*18446744073709551616+a3) (n1:128<n) (n2:n<192):CutP a1 a2 a3 n v:=by
 intro w
 obtain⟨r,hr⟩:∃r,n=128+r:=⟨n-128,by omega⟩
 have hC:2^n=340282366920938463463374607431768211456*2^r:=by rw[hr,Nat.pow_add]
 have hC1:2^(n-1)=2^(r-1)*340282366920938463463374607431768211456:=by rw[show n-1=128+(r-1) by omega,Nat.pow_add,Nat.mul_comm]
 have hv2:v=(0*18446744073709551616+a1)*340282366920938463463374607431768211456+(a2*18446744073709551616+a3):=by
  rw[Nat.zero_mul,Nat.zero_add,hv,Nat.add_mul,Nat.mul_assoc,Nat.add_assoc]
 have hlow:(a2*18446744073709551616+a3)<340282366920938463463374607431768211456:=by omega
 have hcp:=cut_plain (hi:=0) (r:=r) h1 hlow (by omega)
 rw[←hv2, ←hC] at hcp
 rw[hcp.1]
 obtain⟨q1,q2,q3,q4,q5⟩:=half_of hcp.2 hC1 hlow
 obtain⟨M,hM⟩:=Fo.pow_m1 r
 have hP:=wrap_two (by omega) hM
 have hand:=Fo.and_mask a1 r M hM (by omega) h1
 obtain⟨M',hM'⟩:=Fo.pow_m1 (r-1)
 have hH:=(wrap_two (by omega) hM').1
 have hcast:(M':Int)+1=((2^(r-1):Nat):Int):=by rw[←hM'];rfl
 rw[hcast,show r-1=n-129 by omega] at hH
 have hH0:0<2^(n-129):=Nat.two_pow_pos _
 rw[show r-1=n-129 by omega] at q1 q2 q3 q4
 have hor:=or_parts (hi:=0) (mid:=a1) (r:=r) h1 (by omega)
 rw[show r=n-128 by omega] at hP hand hor hcp q1 q2 q3 q4 q5 ⊢
 rw[q5]
 rw[Nat.zero_mul,Nat.zero_mod,Nat.zero_add] at hor ⊢
 have hX:bits BinOp.or IntKind.u64 0 0=0:=or0 0 (by decide)
 obtain⟨X,hXd⟩:∃X:Nat,X=0:=⟨_,rfl⟩
 have hY:(a1:Int)/2^(n-128)=((a1/2^(n-128):Nat):Int):=by push_cast;rfl
 generalize a1/2^(n-128)=Y at*
 generalize a1%2^(n-128)=R at*
 generalize 2^(n-129)=H at*
 have hNB:(decide (R=0)&&decide ((a2*18446744073709551616+a3)=0))=(((R:Int)==0)&&(((a2:Int)==0)&&(((a3:Int)==0)))):=by
  rw[int_eq0,int_eq0,int_eq0, ←Bool.decide_and (a2=0)];congr 1;exact decide_eq_decide.2 (by omega)
 rcases Nat.lt_trichotomy R H with h|h|h
 · rw[q1 h,hNB]
   exact cut_4lt a1 a2 a3 n X Y M R H Y h1 h2 h3 (by omega) (by omega) hX hY hor hP.1 hP.2 hand (show((n:Int)-1)/64=2 by omega) (show((n:Int)-1)%64=(n:Int)-129 by omega) hH (beqF (by omega)) (decide_eq_true (by omega)) h _ rfl w
 · subst h
   have hN0:decide (R=0)=false:=by rw[decide_eq_false_iff_not];omega
   rw[hN0,Bool.false_and]
   by_cases hl0:(a2*18446744073709551616+a3)=0
   · rw[q3 rfl hl0]
     exact cut_4eq a1 a2 a3 n X Y M R Y h1 h2 h3 (by omega) (by omega) hX hY hor hP.1 hP.2 hand (show((n:Int)-1)/64=2 by omega) (show((n:Int)-1)%64=(n:Int)-129 by omega) hH (beqE (by omega)) (beqF (by omega)) (beqE (by omega)) (beqE (by omega)) w
   · rw[q4 rfl hl0]
     by_cases ha2:a2=0
     · exact cut_4eq3 a1 a2 a3 n X Y M R Y h1 h2 h3 (by omega) (by omega) hX hY hor hP.1 hP.2 hand (show((n:Int)-1)/64=2 by omega) (show((n:Int)-1)%64=(n:Int)-129 by omega) hH (beqE (by omega)) (beqF (by omega)) (beqE (by omega)) (decide_eq_false (by omega)) (decide_eq_false (by omega)) (decide_eq_false (by omega)) (beqF (by omega)) (decide_eq_false (by omega)) (decide_eq_true (by omega)) (decide_eq_true (by omega)) w
     · exact cut_4eq2 a1 a2 a3 n X Y M R Y h1 h2 h3 (by omega) (by omega) hX hY hor hP.1 hP.2 hand (show((n:Int)-1)/64=2 by omega) (show((n:Int)-1)%64=(n:Int)-129 by omega) hH (beqE (by omega)) (beqF (by omega)) (beqF (by omega)) (decide_eq_false (by omega)) (decide_eq_true (by omega)) (decide_eq_true (by omega)) w
 · have hN0:decide (R=0)=false:=by rw[decide_eq_false_iff_not];omega
   rw[q2 h,hN0,Bool.false_and]
   exact cut_4gt a1 a2 a3 n X Y M R H Y h1 h2 h3 (by omega) (by omega) hX hY hor hP.1 hP.2 hand (show((n:Int)-1)/64=2 by omega) (show((n:Int)-1)%64=(n:Int)-129 by omega) hH (beqF (by omega)) (decide_eq_false (by omega)) (decide_eq_false (by omega)) (decide_eq_true (by omega)) (decide_eq_true (by omega)) (beqF (by omega)) w
theorem cut_of1 (a1 a2 a3 v:Nat) (h1:a1<18446744073709551616) (h2:a2<18446744073709551616) (h3:a3<18446744073709551616) (hv:v=(a1*18446744073709551616+a2)*18446744073709551616+a3):CutP a1 a2 a3 64 v:=by
 intro w
 have hw:v/2^64%18446744073709551616=a2:=by
  rw[hv,show(2:Nat)^64=18446744073709551616 from rfl];omega
 have hm:v%2^64=a3*1+0:=by
  rw[hv,show(2:Nat)^64=18446744073709551616 from rfl];omega
 have hh:2^(64-1)=9223372036854775808*1:=rfl
 obtain⟨q1,q2,q3,q4,q5⟩:=half_of hm hh (by omega)
 have hor:=or0 a2 h2
 rw[hw,q5]
 have hNB:(decide (a3=0)&&decide (0=0))=(((a3:Int)==0)):=by
  rw[int_eq0];simp
 rcases Nat.lt_trichotomy a3 9223372036854775808 with h|h|h
 · rw[q1 h,hNB]
   exact cut_1lt a1 a2 a3 h1 h2 h3 hor (beqF (by omega)) (decide_eq_true (by omega)) h _ rfl w
 · subst h
   rw[show decide (9223372036854775808=0)=false from rfl,Bool.false_and]
   rw[q3 rfl rfl]
   exact cut_1eq a1 a2 h1 h2 hor w
 · have hN0:decide (a3=0)=false:=by rw[decide_eq_false_iff_not];omega
   rw[q2 h,hN0,Bool.false_and]
   exact cut_1gt a1 a2 a3 h1 h2 h3 hor (beqF (by omega)) (decide_eq_false (by omega)) (decide_eq_false (by omega)) (decide_eq_true (by omega)) (decide_eq_true (by omega)) (beqF (by omega)) w
theorem cut_of3 (a1 a2 a3 v:Nat) (h1:a1<18446744073709551616) (h2:a2<18446744073709551616) (h3:a3<18446744073709551616) (hv:v=(a1*18446744073709551616+a2)*18446744073709551616+a3):CutP a1 a2 a3 128 v:=by
 intro w
 have hw:v/2^128%18446744073709551616=a1:=by
  rw[hv,show(2:Nat)^128=340282366920938463463374607431768211456 from rfl];omega
 have hm:v%2^128=a2*18446744073709551616+a3:=by
  rw[hv,show(2:Nat)^128=340282366920938463463374607431768211456 from rfl];omega
 have hh:2^(128-1)=9223372036854775808*18446744073709551616:=rfl
 obtain⟨q1,q2,q3,q4,q5⟩:=half_of hm hh (by omega)
 have hor:=or0 a1 h1
 rw[hw,q5]
 have hNB:(decide (a2=0)&&decide (a3=0))=(((a2:Int)==0)&&(((a3:Int)==0))):=by
  rw[int_eq0,int_eq0]
 rcases Nat.lt_trichotomy a2 9223372036854775808 with h|h|h
 · rw[q1 h,hNB]
   exact cut_3lt a1 a2 a3 h1 h2 h3 hor (beqF (by omega)) (decide_eq_true (by omega)) h _ rfl w
 · subst h
   rw[show decide (9223372036854775808=0)=false from rfl,Bool.false_and]
   by_cases hl0:a3=0
   · rw[q3 rfl hl0]
     exact cut_3eq a1 a3 h1 h3 hor (beqE (by omega)) w
   · rw[q4 rfl hl0]
     exact cut_3eq3 a1 a3 h1 h3 hor (beqF (by omega)) (decide_eq_false (by omega)) (decide_eq_true (by omega)) (decide_eq_true (by omega)) w
 · have hN0:decide (a2=0)=false:=by rw[decide_eq_false_iff_not];omega
   rw[q2 h,hN0,Bool.false_and]
   exact cut_3gt a1 a2 a3 h1 h2 h3 hor (beqF (by omega)) (decide_eq_false (by omega)) (decide_eq_false (by omega)) (decide_eq_true (by omega)) (decide_eq_true (by omega)) (beqF (by omega)) w
theorem sure_cut (v n:Nat) (hv:v<2^192) (n1:64≤n) (n2:n<192) (w:World):
 Calls Tryz.prog 40 #[.agg (W4 v),.int .i64 (n:Int)] w (Says w (.tuple #[.int .u64 ((v/2^n%18446744073709551616:Nat):Int),.int .i64 (halfS v n),.bool (decide (v%2^n=0))])):=by
 have h192:(2:Nat)^192=6277101735386680763835789423207666416102355444464034512896:=rfl
 rw[h192] at hv
 obtain⟨a1,e1⟩:∃a,a=v/340282366920938463463374607431768211456:=⟨_,rfl⟩
 obtain⟨a2,e2⟩:∃a,a=v/18446744073709551616%18446744073709551616:=⟨_,rfl⟩
 obtain⟨a3,e3⟩:∃a,a=v%18446744073709551616:=⟨_,rfl⟩
 have h1:a1<18446744073709551616:=by omega
 have h2:a2<18446744073709551616:=by omega
 have h3:a3<18446744073709551616:=by omega
 have hV:v=(a1*18446744073709551616+a2)*18446744073709551616+a3:=by omega
 rw[W4_of (v:=v) (a:=0) (b:=a1) (c:=a2) (d:=a3) h1 h2 h3 (by decide) (by rw[Nat.zero_mul,Nat.zero_add];exact hV)]
 have key:CutP a1 a2 a3 n v:=by
  rcases (show n=64∨(64<n∧n<128)∨n=128∨(128<n∧n<192) by omega) with rfl|⟨m1,m2⟩|rfl|⟨m1,m2⟩
  · exact cut_of1 a1 a2 a3 v h1 h2 h3 hV
  · exact cut_of2 a1 a2 a3 v n h1 h2 h3 hV m1 m2
  · exact cut_of3 a1 a2 a3 v h1 h2 h3 hV
  · exact cut_of4 a1 a2 a3 v n h1 h2 h3 hV m1 m2
 exact key w
end Go.Proofs.YtenekbfnlbipiaaGreatDoor
