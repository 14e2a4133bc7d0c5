/- Plain: whole times of powers of two as fractions; what is rounded. No program here. -/
import Derived.Test.YtenekbfnlbipiaaGreatDoorBgAB
import Derived.Test.YtenekbfnlbipiaaGreatDoorSuN
namespace Go.Proofs.YtenekbfnlbipiaaGreatDoor
open Go.RowKit
set_option linter.unusedVariables false
set_option linter.unusedSimpArgs false
set_option maxHeartbeats 4000000
set_option maxRecDepth 100000
namespace Bg
theorem pow2_dvd {d k:Nat} (h:d∣2^k):d=2^tz d:=by
 have h0:d≠0:=by
  rintro rfl
  exact Nat.ne_of_gt (Nat.two_pow_pos k) (Nat.eq_zero_of_zero_dvd h)
 obtain⟨m,hm⟩:=tz_spec h0
 have h1:(2*m+1)∣d:=⟨2^tz d,by rw[Nat.mul_comm];exact hm⟩
 have h2:=odd_gcd m k
 rw[Nat.gcd_eq_left (Nat.dvd_trans h1 h)] at h2
 rw[h2,Nat.mul_one] at hm
 exact hm
theorem two_len (k:Nat):(limbs (2^k)).length≤k/32+1:=by
 rw[length_limbs_le,B_pow]
 exact Nat.pow_lt_pow_right (by decide) (by omega)
theorem len_of_dvd {a b k:Nat} (hb:b≠0) (h:a∣b) (hk:(limbs b).length≤k):(limbs a).length≤k:=
 Nat.le_trans (limbs_mono (Nat.le_of_dvd (Nat.pos_of_ne_zero hb) h)) hk
structure Frac (n d m:Nat) (q:Int):Prop where
 eq:n*2^(-q).toNat=m*2^q.toNat*d
 n0:n≠0
 d2:d=2^tz d
 ln:(limbs n).length≤34
 ld:(limbs d).length<40
theorem Frac.pos {n d m:Nat} {q:Int} (h:Frac n d m q):0<d:=by rw[h.d2];exact Nat.two_pow_pos _
theorem Frac.under {n d m:Nat} {q:Int} (h:Frac n d m q) (p:Int):n*10^(-p).toNat<10^p.toNat*d↔underB m q p=true:=by
 have hd:=h.pos
 have hq:=Nat.two_pow_pos (-q).toNat
 unfold underB
 rw[decide_eq_true_eq]
 have e1:n*10^(-p).toNat*2^(-q).toNat=m*2^q.toNat*10^(-p).toNat*d:=by
  rw[show n*10^(-p).toNat*2^(-q).toNat=n*2^(-q).toNat*10^(-p).toNat by ac_rfl,h.eq];ac_rfl
 have e2:10^p.toNat*d*2^(-q).toNat=10^p.toNat*2^(-q).toNat*d:=by ac_rfl
 constructor
 · intro hh
   have:=(Nat.mul_lt_mul_right hq).2 hh
   rw[e1,e2] at this
   exact Nat.lt_of_mul_lt_mul_right this
 · intro hh
   have:=(Nat.mul_lt_mul_right hd).2 hh
   rw[←e1, ←e2] at this
   exact Nat.lt_of_mul_lt_mul_right this
theorem frac_pos {m k:Nat} (h0:m≠0) (hm:m<9007199254740992) (hk:k≤1022):Frac (prodN m 1 (2^k) 1) (prodD m 1 (2^k) 1) m (k:Int)∧Fit m 1 (2^k) 1:=by
 obtain⟨e,hd,hn,hd0⟩:=mul_ratio (u1:=m) (u2:=2^k) (v1:=1) (v2:=1) (by decide) (by decide)
 have l2:=two_len k
 have lm:(limbs m).length≤2:=limbs_two (by omega)
 have hp:=Nat.two_pow_pos k
 have hmk:m*2^k≠0:=Nat.ne_of_gt (Nat.mul_pos (Nat.pos_of_ne_zero h0) hp)
 have lmk:(limbs (m*2^k)).length≤34:=by have:=limbs_mul_le m (2^k);omega
 have hD:prodD m 1 (2^k) 1=1:=Nat.eq_one_of_dvd_one (by simpa using hd)
 refine⟨⟨?_,?_,by rw[hD];exact tz_one,len_of_dvd hmk hn lmk,by rw[hD];decide⟩,⟨by decide,by decide,.inr tz_one,.inr tz_one,by omega,by omega,by decide,by decide,.inl (by omega),.inl (by decide)⟩⟩
 · rw[show(-(k:Int)).toNat=0 by omega,show((k:Int)).toNat=k by omega]
   simpa using e
 · intro hz
   rw[hz,hD] at e
   simp at e
   omega
theorem frac_neg {m k:Nat} (h0:m≠0) (hm:m<9007199254740992) (hk:k≤1074):Frac (prodN m 1 1 (2^k)) (prodD m 1 1 (2^k)) m (-(k:Int))∧Fit m 1 1 (2^k):=by
 have hp:=Nat.two_pow_pos k
 obtain⟨e,hd,hn,hd0⟩:=mul_ratio (u1:=m) (u2:=1) (v1:=1) (v2:=2^k) (by decide) (Nat.ne_of_gt hp)
 have l2:=two_len k
 have lm:(limbs m).length≤2:=limbs_two (by omega)
 rw[Nat.mul_one] at hn
 rw[Nat.one_mul] at hd
 refine⟨⟨?_,?_,pow2_dvd hd,?_,?_⟩,⟨by decide,Nat.ne_of_gt hp,.inr (by rw[tz_two]),.inl tz_one,by omega,by decide,by decide,by omega,.inl (by omega),.inl (by decide)⟩⟩
 · rw[show(-(-(k:Int))).toNat=k by omega,show(-(k:Int)).toNat=0 by omega]
   rw[Nat.one_mul,Nat.mul_one] at e
   rw[Nat.pow_zero,Nat.mul_one]
   exact e
 · intro hz
   rw[hz,Nat.zero_mul,Nat.mul_one] at e
   rcases Nat.mul_eq_zero.1 e.symm with h|h
   · exact h0 h
   · exact hd0 h
 · exact len_of_dvd h0 hn (by omega)
 · have:=len_of_dvd (Nat.ne_of_gt hp) hd l2
   omega
structure Sc (N2 D2 V N:Nat):Prop where
 eq:N2*2^N=V*D2
 ne:D2≠0
 ln:(limbs N2).length≤1000
 ld:(limbs D2).length≤1000
theorem Frac.fit1 {n d m:Nat} {q:Int} (h:Frac n d m q) {T:Nat} (lT:(limbs T).length≤5):Fit n d T 1:=
 ⟨Nat.ne_of_gt h.pos,by decide,.inr tz_one,.inr h.d2,by have:=h.ln;omega,by omega,by have:=h.ld;omega,by decide,.inl (by have:=h.ln;omega),.inl h.ld⟩
theorem Frac.parts {n d m:Nat} {q:Int} (h:Frac n d m q) {T:Nat} (hT:T≠0) (lT:(limbs T).length≤5):
 prodN n d T 1*d=n*T*prodD n d T 1∧(limbs (prodN n d T 1)).length<40∧(limbs (prodD n d T 1)).length<40∧prodD n d T 1≠0:=by
 obtain⟨e,hd,hn,hd0⟩:=mul_ratio (u1:=n) (u2:=T) (v1:=d) (v2:=1) (Nat.ne_of_gt h.pos) (by decide)
 rw[Nat.mul_one] at e hd
 have hnT:n*T≠0:=Nat.ne_of_gt (Nat.mul_pos (Nat.pos_of_ne_zero h.n0) (Nat.pos_of_ne_zero hT))
 have l1:=limbs_mul_le n T
 have l2:=len_of_dvd hnT hn nrf
 have l3:=len_of_dvd (Nat.ne_of_gt h.pos) hd nrf
 have:=h.ln
 have:=h.ld
 exact⟨e,by omega,by omega,hd0⟩
theorem Frac.scale {n d m:Nat} {q:Int} (h:Frac n d m q) {T:Nat} {a b N:Nat} {N1 D1 N2 D2:Nat} (h1:N1*d=n*T*D1) (hd1:D1≠0) (h2:N2*(D1*2^b)=N1*2^a*D2)
 (hN:(N:Int)= -((a:Int)-(b:Int)+q-2)):N2*2^N=T*(4*m)*D2:=by
 have hd:=h.pos
 have hN2:b+(-q).toNat+2=N+(a+q.toNat):=by omega
 have e:N2*2^N*(2^(a+q.toNat)*(D1*d))=T*(4*m)*D2*(2^(a+q.toNat)*(D1*d)):=by
  have k1:2^N*2^(a+q.toNat)=2^b*2^(-q).toNat*4:=by
   rw[←Nat.pow_add, ←hN2,Nat.pow_add,Nat.pow_add]
  calc N2*2^N*(2^(a+q.toNat)*(D1*d))=N2*(D1*d)*(2^N*2^(a+q.toNat)):=by ac_rfl
   _=N2*(D1*d)*(2^b*2^(-q).toNat*4):=by rw[k1]
   _=N2*(D1*2^b)*(d*2^(-q).toNat*4):=by ac_rfl
   _=N1*2^a*D2*(d*2^(-q).toNat*4):=by rw[h2]
   _=N1*d*(2^a*D2*2^(-q).toNat*4):=by ac_rfl
   _=n*T*D1*(2^a*D2*2^(-q).toNat*4):=by rw[h1]
   _=n*2^(-q).toNat*(T*D1*2^a*D2*4):=by ac_rfl
   _=m*2^q.toNat*d*(T*D1*2^a*D2*4):=by rw[h.eq]
   _=T*(4*m)*D2*(2^a*2^q.toNat*(D1*d)):=by ac_rfl
   _=T*(4*m)*D2*(2^(a+q.toNat)*(D1*d)):=by rw[←Nat.pow_add]
 exact Nat.mul_right_cancel (Nat.mul_pos (Nat.two_pow_pos _) (Nat.mul_pos (Nat.pos_of_ne_zero hd1) hd)) e
theorem Frac.sc_pos {n d m:Nat} {q:Int} (h:Frac n d m q) {T k N:Nat} (hT:T≠0) (lT:(limbs T).length≤5) (hk:k≤3000) (hN:(N:Int)= -((k:Int)+q-2)):
 Fit (prodN n d T 1) (prodD n d T 1) (2^k) 1∧Sc (prodN (prodN n d T 1) (prodD n d T 1) (2^k) 1) (prodD (prodN n d T 1) (prodD n d T 1) (2^k) 1) (T*(4*m)) N:=by
 obtain⟨e1,l1,l2,hd1⟩:=h.parts hT lT
 have hp:=Nat.two_pow_pos k
 have lk:=two_len k
 obtain⟨e2,hd2,hn2,hd20⟩:=mul_ratio (u1:=prodN n d T 1) (u2:=2^k) (v1:=prodD n d T 1) (v2:=1) hd1 (by decide)
 have hN1:prodN n d T 1≠0:=by
  intro hz
  rw[hz,Nat.zero_mul] at e1
  rcases Nat.mul_eq_zero.1 e1.symm with h1|h1
  · rcases Nat.mul_eq_zero.1 h1 with h1|h1
    · exact h.n0 h1
    · exact hT h1
  · exact hd1 h1
 have l3:=limbs_mul_le (prodN n d T 1) (2^k)
 refine⟨⟨hd1,by decide,.inr tz_one,.inl (by rw[tz_two]),by omega,by omega,by omega,by decide,.inl l1,.inl l2⟩,h.scale (b:=0) e1 hd1 (by simpa using e2) (by omega),hd20,?_,?_⟩
 · exact len_of_dvd (Nat.ne_of_gt (Nat.mul_pos (Nat.pos_of_ne_zero hN1) hp)) hn2 (by omega)
 · exact len_of_dvd hd1 (by simpa using hd2) (by omega)
theorem Frac.sc_neg {n d m:Nat} {q:Int} (h:Frac n d m q) {T k N:Nat} (hT:T≠0) (lT:(limbs T).length≤5) (hk:k≤3000) (hN:(N:Int)= -(-(k:Int)+q-2)):
 Fit (prodN n d T 1) (prodD n d T 1) 1 (2^k)∧Sc (prodN (prodN n d T 1) (prodD n d T 1) 1 (2^k)) (prodD (prodN n d T 1) (prodD n d T 1) 1 (2^k)) (T*(4*m)) N:=by
 obtain⟨e1,l1,l2,hd1⟩:=h.parts hT lT
 have hp:=Nat.two_pow_pos k
 have lk:=two_len k
 obtain⟨e2,hd2,hn2,hd20⟩:=mul_ratio (u1:=prodN n d T 1) (u2:=1) (v1:=prodD n d T 1) (v2:=2^k) hd1 (Nat.ne_of_gt hp)
 have hN1:prodN n d T 1≠0:=by
  intro hz
  rw[hz,Nat.zero_mul] at e1
  rcases Nat.mul_eq_zero.1 e1.symm with h1|h1
  · rcases Nat.mul_eq_zero.1 h1 with h1|h1
    · exact h.n0 h1
    · exact hT h1
  · exact hd1 h1
 have l3:=limbs_mul_le (prodD n d T 1) (2^k)
 refine⟨⟨hd1,Nat.ne_of_gt hp,.inr (by rw[tz_two]),.inl tz_one,by omega,by decide,by omega,by omega,.inl l1,.inl l2⟩,h.scale (a:=0) e1 hd1 (by simpa using e2) (by omega),hd20,?_,?_⟩
 · exact len_of_dvd hN1 (by simpa using hn2) (by omega)
 · exact len_of_dvd (Nat.ne_of_gt (Nat.mul_pos (Nat.pos_of_ne_zero hd1) hp)) hd2 (by omega)
theorem Sc.div {n d V N:Nat} (h:Sc n d V N):n/d=V/2^N:=by
 have h1:=Nat.mul_div_mul_right n d (Nat.two_pow_pos N)
 have h2:=Nat.mul_div_mul_right V (2^N) (Nat.pos_of_ne_zero h.ne)
 rw[←h1, ←h2,h.eq,Nat.mul_comm d]
theorem Sc.mod {n d V N:Nat} (h:Sc n d V N):n%d*2^N=V%2^N*d:=by
 rw[←Nat.mul_mod_mul_right, ←Nat.mul_mod_mul_right,h.eq,Nat.mul_comm d]
theorem Sc.zero {n d V N:Nat} (h:Sc n d V N):n%d=0↔V%2^N=0:=by
 have hm:=h.mod
 have hp:=Nat.two_pow_pos N
 constructor
 · intro hz
   rw[hz,Nat.zero_mul] at hm
   rcases Nat.mul_eq_zero.1 hm.symm with h1|h1
   · exact h1
   · exact absurd h1 h.ne
 · intro hz
   rw[hz,Nat.zero_mul] at hm
   rcases Nat.mul_eq_zero.1 hm with h1|h1
   · exact h1
   · omega
theorem Sc.rnd {n d V N:Nat} (h:Sc n d V N) (hN:0<N):rnd n d=nearS V N:=by
 have hm:=h.mod
 have hq:=h.div
 have hd:0<d:=Nat.pos_of_ne_zero h.ne
 obtain⟨k,rfl⟩:∃k,N=k+1:=⟨N-1,by omega⟩
 have hH:=Nat.two_pow_pos k
 unfold Bg.rnd nearS halfS
 rw[hq]
 rw[show k+1-1=k from rfl]
 obtain⟨r,hr⟩:∃r,r=n%d:=⟨_,rfl⟩
 obtain⟨r',hr'⟩:∃r,r=V%2^(k+1):=⟨_,rfl⟩
 obtain⟨a,ha⟩:∃a,a=V/2^(k+1):=⟨_,rfl⟩
 rw[←hr, ←hr',Nat.pow_succ] at hm
 rw[←hr, ←hr', ←ha]
 generalize 2^k=H at*
 have e:2*r*H=r'*d:=by rw[←hm];ac_rfl
 have c1:d<2*r↔H<r':=by
  constructor
  · intro hh
    have:=(Nat.mul_lt_mul_right hH).2 hh
    rw[e,Nat.mul_comm d] at this
    exact Nat.lt_of_mul_lt_mul_right this
  · intro hh
    have:=(Nat.mul_lt_mul_right hd).2 hh
    rw[←e,Nat.mul_comm H] at this
    exact Nat.lt_of_mul_lt_mul_right this
 have c2:2*r=d↔r'=H:=by
  constructor
  · intro hh
    rw[hh,Nat.mul_comm d] at e
    exact(Nat.mul_right_cancel hd e).symm
  · intro hh
    rw[hh,Nat.mul_comm H] at e
    exact Nat.mul_right_cancel hH e
 rcases Nat.lt_trichotomy r' H with hc|hc|hc
 · rw[if_neg (by rw[c1,c2];omega),if_pos hc,if_neg (by omega)]
 · rw[if_neg (by omega:¬r'<H),if_pos hc]
   by_cases ho:a%2=1
   · rw[if_pos (.inr ⟨c2.2 hc,ho⟩),if_pos (.inr ⟨rfl,ho⟩)]
   · rw[if_neg (by rw[c1];omega),if_neg (by omega)]
 · rw[if_pos (.inl (c1.2 hc)),if_neg (by omega:¬r'<H),if_neg (by omega:¬r'=H),if_pos (.inl rfl)]
end Bg
end Go.Proofs.YtenekbfnlbipiaaGreatDoor
