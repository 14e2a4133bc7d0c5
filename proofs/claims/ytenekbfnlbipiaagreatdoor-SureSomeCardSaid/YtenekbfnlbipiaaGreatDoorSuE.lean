/- Walk: a number of 256 bits, and one. -/
import Derived.Test.YtenekbfnlbipiaaGreatDoorSuB
import Derived.LoopN
import Derived.Laws.Rows
import Derived.ChangeKeysEq
namespace Go.Proofs.YtenekbfnlbipiaaGreatDoor
open Go.RowKit
set_option linter.unusedVariables false
set_option linter.unusedSimpArgs false
set_option maxHeartbeats 4000000
set_option maxRecDepth 100000

theorem next_low (h l:Nat) (hl:l<18446744073709551615) (w:World):
 Calls Tryz.prog 37 #[.agg #[.int .u64 0,.int .u64 0,.int .u64 (h:Int),.int .u64 (l:Int)]] w (Says w (.agg #[.int .u64 0,.int .u64 0,.int .u64 (h:Int),.int .u64 ((l:Int)+1)])):=by
 have hne:((l:Int)+1 !=0)=true:=by rw[bne_iff_ne];omega
 have hb0:Below w.heap.size w w:=Below.refl _ _
 go_enter Tryz.func37,Tryz.ntmps37
 go_wp2_with fail
 obtain⟨v1,E_,hv1,k1,k2⟩:=Blk.a2 w 43 #[.int .u64 0,.int .u64 0,.int .u64 (h:Int),.int .u64 (l:Int)] 43 #[.int .u64 0,.int .u64 0,.int .u64 0,.int .u64 0]
 replace hb0:=hb0.trans (hv1.mono hb0.size)
 rw[E_]
 clear hv1 E_
 obtain⟨k1c0,k1c1,k1c2,k1c3,k1z,k1f0,k1f1,k1f2,k1f3⟩:=k1.b4
 obtain⟨k2c0,k2c1,k2c2,k2c3,k2z,k2f0,k2f1,k2f2,k2f3⟩:=k2.b4
 refine wp_loop_rounds 4 ?_
 rw[rounds_succ]
 go_wp2
 refine bodyPost_ret (v:=.agg #[.int .u64 0,.int .u64 0,.int .u64 (h:Int),.int .u64 ((l:Int)+1)]) ?_ rfl ⟨rfl,(((((hb0.setCell (p:=⟨w.heap.size,3,none⟩) (by simp) _).setCell (p:=⟨w.heap.size+1,0,none⟩) (by simp) _).setCell (p:=⟨w.heap.size+1,1,none⟩) (by simp) _).setCell (p:=⟨w.heap.size+1,2,none⟩) (by simp) _).setCell (p:=⟨w.heap.size+1,3,none⟩) (by simp) _)⟩
 refine results_cell_row rfl _ _ (w.heap.size+1) _ _ _ _ ?_ (((((k2.far (p:=⟨w.heap.size,3,none⟩) (by simp) _).set_ 0 _).set_ 1 _).set_ 2 _).set_ 3 _) Tryz.underlying43 rfl (by kernel_rfl)
 rfl

theorem next_mid (h:Nat) (hl:h<18446744073709551615) (w:World):
 Calls Tryz.prog 37 #[.agg #[.int .u64 0,.int .u64 0,.int .u64 (h:Int),.int .u64 18446744073709551615]] w (Says w (.agg #[.int .u64 0,.int .u64 0,.int .u64 ((h:Int)+1),.int .u64 0])):=by
 have hne:((h:Int)+1 !=0)=true:=by rw[bne_iff_ne];omega
 have hb0:Below w.heap.size w w:=Below.refl _ _
 go_enter Tryz.func37,Tryz.ntmps37
 go_wp2_with fail
 obtain⟨v1,E_,hv1,k1,k2⟩:=Blk.a2 w 43 #[.int .u64 0,.int .u64 0,.int .u64 (h:Int),.int .u64 18446744073709551615] 43 #[.int .u64 0,.int .u64 0,.int .u64 0,.int .u64 0]
 replace hb0:=hb0.trans (hv1.mono hb0.size)
 rw[E_]
 clear hv1 E_
 obtain⟨k1c0,k1c1,k1c2,k1c3,k1z,k1f0,k1f1,k1f2,k1f3⟩:=k1.b4
 obtain⟨k2c0,k2c1,k2c2,k2c3,k2z,k2f0,k2f1,k2f2,k2f3⟩:=k2.b4
 refine wp_loop_rounds 4 ?_
 rw[rounds_succ]
 go_wp2
 rw[rounds_succ]
 go_wp2
 refine bodyPost_ret (v:=.agg #[.int .u64 0,.int .u64 0,.int .u64 ((h:Int)+1),.int .u64 0]) ?_ rfl ⟨rfl,((((((hb0.setCell (p:=⟨w.heap.size,3,none⟩) (by simp) _).setCell (p:=⟨w.heap.size,2,none⟩) (by simp) _).setCell (p:=⟨w.heap.size+1,0,none⟩) (by simp) _).setCell (p:=⟨w.heap.size+1,1,none⟩) (by simp) _).setCell (p:=⟨w.heap.size+1,2,none⟩) (by simp) _).setCell (p:=⟨w.heap.size+1,3,none⟩) (by simp) _)⟩
 refine results_cell_row rfl _ _ (w.heap.size+1) _ _ _ _ ?_ ((((((k2.far (p:=⟨w.heap.size,3,none⟩) (by simp) _).far (p:=⟨w.heap.size,2,none⟩) (by simp) _).set_ 0 _).set_ 1 _).set_ 2 _).set_ 3 _) Tryz.underlying43 rfl (by kernel_rfl)
 rfl

theorem next_top (w:World):
 Calls Tryz.prog 37 #[.agg #[.int .u64 0,.int .u64 0,.int .u64 18446744073709551615,.int .u64 18446744073709551615]] w (Says w (.agg #[.int .u64 0,.int .u64 1,.int .u64 0,.int .u64 0])):=by
 have hb0:Below w.heap.size w w:=Below.refl _ _
 go_enter Tryz.func37,Tryz.ntmps37
 go_wp2_with fail
 obtain⟨v1,E_,hv1,k1,k2⟩:=Blk.a2 w 43 #[.int .u64 0,.int .u64 0,.int .u64 18446744073709551615,.int .u64 18446744073709551615] 43 #[.int .u64 0,.int .u64 0,.int .u64 0,.int .u64 0]
 replace hb0:=hb0.trans (hv1.mono hb0.size)
 rw[E_]
 clear hv1 E_
 obtain⟨k1c0,k1c1,k1c2,k1c3,k1z,k1f0,k1f1,k1f2,k1f3⟩:=k1.b4
 obtain⟨k2c0,k2c1,k2c2,k2c3,k2z,k2f0,k2f1,k2f2,k2f3⟩:=k2.b4
 refine wp_loop_rounds 4 ?_
 rw[rounds_succ]
 go_wp2
 rw[rounds_succ]
 go_wp2
 rw[rounds_succ]
 go_wp2
 refine bodyPost_ret (v:=.agg #[.int .u64 0,.int .u64 1,.int .u64 0,.int .u64 0]) ?_ rfl ⟨rfl,(((((((hb0.setCell (p:=⟨w.heap.size,3,none⟩) (by simp) _).setCell (p:=⟨w.heap.size,2,none⟩) (by simp) _).setCell (p:=⟨w.heap.size,1,none⟩) (by simp) _).setCell (p:=⟨w.heap.size+1,0,none⟩) (by simp) _).setCell (p:=⟨w.heap.size+1,1,none⟩) (by simp) _).setCell (p:=⟨w.heap.size+1,2,none⟩) (by simp) _).setCell (p:=⟨w.heap.size+1,3,none⟩) (by simp) _)⟩
 refine results_cell_row rfl _ _ (w.heap.size+1) _ _ _ _ ?_ (((((((k2.far (p:=⟨w.heap.size,3,none⟩) (by simp) _).far (p:=⟨w.heap.size,2,none⟩) (by simp) _).far (p:=⟨w.heap.size,1,none⟩) (by simp) _).set_ 0 _).set_ 1 _).set_ 2 _).set_ 3 _) Tryz.underlying43 rfl (by kernel_rfl)
 rfl

def W4 (v:Nat):Array Value:=#[.int .u64 ((v/2^192%2^64:Nat):Int),.int .u64 ((v/2^128%2^64:Nat):Int),.int .u64 ((v/2^64%2^64:Nat):Int),.int .u64 ((v%2^64:Nat):Int)]
theorem W4_of {v a b c d:Nat} (hb:b<18446744073709551616) (hc:c<18446744073709551616) (hd:d<18446744073709551616) (ha:a<18446744073709551616) (h:v=((a*18446744073709551616+b)*18446744073709551616+c)*18446744073709551616+d):W4 v=#[.int .u64 (a:Int),.int .u64 (b:Int),.int .u64 (c:Int),.int .u64 (d:Int)]:=by
 unfold W4
 have e1:v/2^192%2^64=a:=by
  rw[show 2^192=18446744073709551616*18446744073709551616*18446744073709551616 from rfl, ←Nat.div_div_eq_div_mul, ←Nat.div_div_eq_div_mul,show 2^64=18446744073709551616 from rfl];omega
 have e2:v/2^128%2^64=b:=by
  rw[show 2^128=18446744073709551616*18446744073709551616 from rfl, ←Nat.div_div_eq_div_mul,show 2^64=18446744073709551616 from rfl];omega
 have e3:v/2^64%2^64=c:=by
  rw[show 2^64=18446744073709551616 from rfl];omega
 have e4:v%2^64=d:=by
  rw[show 2^64=18446744073709551616 from rfl];omega
 rw[e1,e2,e3,e4]
theorem sure_next (v:Nat) (hv:v<2^128) (w:World):Calls Tryz.prog 37 #[.agg (W4 v)] w (Says w (.agg (W4 (v+1)))):=by
 have h128:(2:Nat)^128=340282366920938463463374607431768211456:=rfl
 rw[h128] at hv
 obtain⟨h,hh⟩:∃h,h=v/18446744073709551616:=⟨_,rfl⟩
 obtain⟨l,hl⟩:∃l,l=v%18446744073709551616:=⟨_,rfl⟩
 have h1:h<18446744073709551616:=by omega
 have h2:l<18446744073709551616:=by omega
 rw[W4_of (v:=v) (a:=0) (b:=0) (c:=h) (d:=l) (by decide) h1 h2 (by decide) (by omega)]
 by_cases hl1:l<18446744073709551615
 · rw[W4_of (v:=v+1) (a:=0) (b:=0) (c:=h) (d:=l+1) (by decide) h1 (by omega) (by decide) (by omega)]
   exact next_low h l hl1 w
 · obtain rfl:l=18446744073709551615:=by omega
   by_cases hh1:h<18446744073709551615
   · rw[W4_of (v:=v+1) (a:=0) (b:=0) (c:=h+1) (d:=0) (by decide) (by omega) (by decide) (by decide) (by omega)]
     exact next_mid h hh1 w
   · obtain rfl:h=18446744073709551615:=by omega
     rw[W4_of (v:=v+1) (a:=0) (b:=1) (c:=0) (d:=0) (by decide) (by decide) (by decide) (by decide) (by omega)]
     exact next_top w

theorem tm_chain {B z0 z1 z2 z3 c0 c1 c2 c3 o0 o1 o2 o3:Nat} (e3:c3*B+o3=z3+0) (e2:c2*B+o2=z2+c3) (e1:c1*B+o1=z1+c2) (e0:c0*B+o0=z0+c1):
 ((z0*B+z1)*B+z2)*B+z3=(((c0*B+o0)*B+o1)*B+o2)*B+o3:=by
 rw[e0]
 have h1:(z0+c1)*B+o1=z0*B+z1+c2:=by rw[Nat.add_mul];omega
 rw[h1]
 have h2:(z0*B+z1+c2)*B+o2=(z0*B+z1)*B+z2+c3:=by rw[Nat.add_mul _ c2];omega
 rw[h2]
 have h3:((z0*B+z1)*B+z2+c3)*B+o3=((z0*B+z1)*B+z2)*B+z3:=by rw[Nat.add_mul _ c3];omega
 rw[h3]
theorem tm_mod {B c o0 o1 o2 o3:Nat} (h0:o0<B) (h1:o1<B) (h2:o2<B) (h3:o3<B):
 ((((c*B+o0)*B+o1)*B+o2)*B+o3)%(B*B*B*B)=((o0*B+o1)*B+o2)*B+o3:=by
 have e:(((c*B+o0)*B+o1)*B+o2)*B+o3=(B*B*B*B)*c+(((o0*B+o1)*B+o2)*B+o3):=by
  simp only[Nat.add_mul]
  have:c*B*B*B*B=B*B*B*B*c:=by ac_rfl
  omega
 rw[e,Nat.mul_add_mod,Nat.mod_eq_of_lt]
 have g1:o0*B+o1+1≤B*B:=by
  have:=Nat.mul_le_mul_right B (show o0+1≤B from h0);rw[Nat.add_mul] at this;omega
 have g2:(o0*B+o1)*B+o2+1≤B*B*B:=by
  have:=Nat.mul_le_mul_right B g1;rw[Nat.add_mul] at this;omega
 have:=Nat.mul_le_mul_right B g2;rw[Nat.add_mul] at this;omega
theorem mul_lt {a b:Nat} (ha:a<18446744073709551616) (hb:b<18446744073709551616):a*b≤18446744073709551615*18446744073709551615:=Nat.mul_le_mul (by omega) (by omega)
theorem times_walk (a0 a1 a2 a3 v m:Nat) (h0:a0<18446744073709551616) (h1:a1<18446744073709551616) (h2:a2<18446744073709551616) (h3:a3<18446744073709551616) (hm:m<18446744073709551616) (hV:v=((a0*18446744073709551616+a1)*18446744073709551616+a2)*18446744073709551616+a3) (w:World):
 Calls Tryz.prog 38 #[.agg (W4 v),.int .u64 (m:Int)] w (Says w (.agg (W4 (v*m%2^256)))):=by
 have HM:∀x:Nat,x<18446744073709551616→∀W,Calls Tryz.prog 84 #[.int .u64 (x:Int),.int .u64 (m:Int)] W fun e w'=>e=.returned (.tuple #[.int .u64 ((x*m/18446744073709551616:Nat):Int),.int .u64 ((x*m%18446744073709551616:Nat):Int)])∧W=w':=fun x hx W=>bits_Mul64 (x:Int) (m:Int) x m rfl rfl hx hm W
 have hM3:=HM a3 h3
 obtain⟨hi3,ehi3⟩:∃x,x=a3*m/18446744073709551616:=⟨_,rfl⟩
 obtain⟨lo3,elo3⟩:∃x,x=a3*m%18446744073709551616:=⟨_,rfl⟩
 rw[←ehi3, ←elo3] at hM3
 have hA3:=fun W=>run_add64T lo3 0 W
 obtain⟨o3,eo3⟩:∃x,x=(lo3+0)%18446744073709551616:=⟨_,rfl⟩
 obtain⟨k3,ek3⟩:∃x,x=(lo3+0)/18446744073709551616:=⟨_,rfl⟩
 rw[←eo3, ←ek3] at hA3
 rw[show((0:Nat):Int)=0 from rfl] at hA3
 obtain⟨c3,ec3⟩:∃x,x=hi3+k3:=⟨_,rfl⟩
 have hp3:=mul_lt h3 hm
 have hc3:c3<18446744073709551616∧o3<18446744073709551616∧c3*18446744073709551616+o3=a3*m+0:=by
  rw[ec3,eo3,ek3,ehi3,elo3]
  skip
  generalize a3*m=z at hp3 ⊢
  omega
 have hw3:IntKind.u64.wrap ((hi3:Int)+(k3:Int))=(c3:Int):=by
  have:=hc3.1
  rw[ec3] at this
  rw[IntKind.wrap_u64,ec3];omega
 have hM2:=HM a2 h2
 obtain⟨hi2,ehi2⟩:∃x,x=a2*m/18446744073709551616:=⟨_,rfl⟩
 obtain⟨lo2,elo2⟩:∃x,x=a2*m%18446744073709551616:=⟨_,rfl⟩
 rw[←ehi2, ←elo2] at hM2
 have hA2:=fun W=>run_add64T lo2 c3 W
 obtain⟨o2,eo2⟩:∃x,x=(lo2+c3)%18446744073709551616:=⟨_,rfl⟩
 obtain⟨k2,ek2⟩:∃x,x=(lo2+c3)/18446744073709551616:=⟨_,rfl⟩
 rw[←eo2, ←ek2] at hA2
 obtain⟨c2,ec2⟩:∃x,x=hi2+k2:=⟨_,rfl⟩
 have hp2:=mul_lt h2 hm
 have hc2:c2<18446744073709551616∧o2<18446744073709551616∧c2*18446744073709551616+o2=a2*m+c3:=by
  rw[ec2,eo2,ek2,ehi2,elo2]
  have:=hc3.1
  generalize a2*m=z at hp2 ⊢
  omega
 have hw2:IntKind.u64.wrap ((hi2:Int)+(k2:Int))=(c2:Int):=by
  have:=hc2.1
  rw[ec2] at this
  rw[IntKind.wrap_u64,ec2];omega
 have hM1:=HM a1 h1
 obtain⟨hi1,ehi1⟩:∃x,x=a1*m/18446744073709551616:=⟨_,rfl⟩
 obtain⟨lo1,elo1⟩:∃x,x=a1*m%18446744073709551616:=⟨_,rfl⟩
 rw[←ehi1, ←elo1] at hM1
 have hA1:=fun W=>run_add64T lo1 c2 W
 obtain⟨o1,eo1⟩:∃x,x=(lo1+c2)%18446744073709551616:=⟨_,rfl⟩
 obtain⟨k1,ek1⟩:∃x,x=(lo1+c2)/18446744073709551616:=⟨_,rfl⟩
 rw[←eo1, ←ek1] at hA1
 obtain⟨c1,ec1⟩:∃x,x=hi1+k1:=⟨_,rfl⟩
 have hp1:=mul_lt h1 hm
 have hc1:c1<18446744073709551616∧o1<18446744073709551616∧c1*18446744073709551616+o1=a1*m+c2:=by
  rw[ec1,eo1,ek1,ehi1,elo1]
  have:=hc2.1
  generalize a1*m=z at hp1 ⊢
  omega
 have hw1:IntKind.u64.wrap ((hi1:Int)+(k1:Int))=(c1:Int):=by
  have:=hc1.1
  rw[ec1] at this
  rw[IntKind.wrap_u64,ec1];omega
 have hM0:=HM a0 h0
 obtain⟨hi0,ehi0⟩:∃x,x=a0*m/18446744073709551616:=⟨_,rfl⟩
 obtain⟨lo0,elo0⟩:∃x,x=a0*m%18446744073709551616:=⟨_,rfl⟩
 rw[←ehi0, ←elo0] at hM0
 have hA0:=fun W=>run_add64T lo0 c1 W
 obtain⟨o0,eo0⟩:∃x,x=(lo0+c1)%18446744073709551616:=⟨_,rfl⟩
 obtain⟨k0,ek0⟩:∃x,x=(lo0+c1)/18446744073709551616:=⟨_,rfl⟩
 rw[←eo0, ←ek0] at hA0
 obtain⟨c0,ec0⟩:∃x,x=hi0+k0:=⟨_,rfl⟩
 have hp0:=mul_lt h0 hm
 have hc0:c0<18446744073709551616∧o0<18446744073709551616∧c0*18446744073709551616+o0=a0*m+c1:=by
  rw[ec0,eo0,ek0,ehi0,elo0]
  have:=hc1.1
  generalize a0*m=z at hp0 ⊢
  omega
 have hw0:IntKind.u64.wrap ((hi0:Int)+(k0:Int))=(c0:Int):=by
  have:=hc0.1
  rw[ec0] at this
  rw[IntKind.wrap_u64,ec0];omega
 have hv:v*m=(((c0*18446744073709551616+o0)*18446744073709551616+o1)*18446744073709551616+o2)*18446744073709551616+o3:=by
  have e0:=hc0.2.2
  have e1:=hc1.2.2
  have e2:=hc2.2.2
  have e3:=hc3.2.2
  have ev:v*m=((a0*m*18446744073709551616+a1*m)*18446744073709551616+a2*m)*18446744073709551616+a3*m:=by
   rw[hV];simp only[Nat.add_mul,Nat.mul_right_comm]
  rw[ev]
  exact tm_chain e3 e2 e1 e0
 have hW4:W4 (v*m%2^256)=#[.int .u64 (o0:Int),.int .u64 (o1:Int),.int .u64 (o2:Int),.int .u64 (o3:Int)]:=by
  refine W4_of hc1.2.1 hc2.2.1 hc3.2.1 hc0.2.1 ?_
  rw[hv,show(2:Nat)^256=18446744073709551616*18446744073709551616*18446744073709551616*18446744073709551616 from rfl]
  exact tm_mod hc0.2.1 hc1.2.1 hc2.2.1 hc3.2.1
 rw[hW4,W4_of h1 h2 h3 h0 hV]
 have ho3:=hc3.2.1
 have ho2:=hc2.2.1
 have ho1:=hc1.2.1
 have ho0:=hc0.2.1
 clear hv hW4 hV HM ehi0 elo0 eo0 ek0 ec0 hp0 hc0 ehi1 elo1 eo1 ek1 ec1 hp1 hc1 ehi2 elo2 eo2 ek2 ec2 hp2 hc2 ehi3 elo3 eo3 ek3 ec3 hp3 hc3
 have hb0:Below w.heap.size w w:=Below.refl _ _
 go_enter Tryz.func38,Tryz.ntmps38
 go_wp2_with fail
 obtain⟨v1,E_,hv1,q1,q2,q3⟩:=Blk.a3 w 43 #[.int .u64 (a0:Int),.int .u64 (a1:Int),.int .u64 (a2:Int),.int .u64 (a3:Int)] 43 #[.int .u64 0,.int .u64 0,.int .u64 0,.int .u64 0] 43 #[.int .u64 0,.int .u64 0,.int .u64 0,.int .u64 0]
 replace hb0:=hb0.trans (hv1.mono hb0.size)
 rw[E_]
 clear hv1 E_
 obtain⟨q1c0,q1c1,q1c2,q1c3,q1z,q1f0,q1f1,q1f2,q1f3⟩:=q1.b4
 obtain⟨q2c0,q2c1,q2c2,q2c3,q2z,q2f0,q2f1,q2f2,q2f3⟩:=q2.b4
 obtain⟨q3c0,q3c1,q3c2,q3c3,q3z,q3f0,q3f1,q3f2,q3f3⟩:=q3.b4
 refine wp_loop_rounds 5 ?_
 rw[rounds_succ]
 go_wp2_with fail
 refine(hM3 _).mono ?_
 rintro e w2 ⟨rfl,rfl⟩
 go_wp2_with (simp only[hA3])
 rw[rounds_succ]
 go_wp2_with fail
 refine(hM2 _).mono ?_
 rintro e w2 ⟨rfl,rfl⟩
 go_wp2_with (simp only[hA2])
 rw[rounds_succ]
 go_wp2_with fail
 refine(hM1 _).mono ?_
 rintro e w2 ⟨rfl,rfl⟩
 go_wp2_with (simp only[hA1])
 rw[rounds_succ]
 go_wp2_with fail
 refine(hM0 _).mono ?_
 rintro e w2 ⟨rfl,rfl⟩
 go_wp2_with (simp only[hA0])
 rw[rounds_succ]
 go_wp2
 refine bodyPost_ret (v:=.agg #[.int .u64 (o0:Int),.int .u64 (o1:Int),.int .u64 (o2:Int),.int .u64 (o3:Int)]) ?_ rfl ⟨rfl,((((((((hb0.setCell (p:=⟨w.heap.size+2,3,none⟩) (by simp) _).setCell (p:=⟨w.heap.size+2,2,none⟩) (by simp) _).setCell (p:=⟨w.heap.size+2,1,none⟩) (by simp) _).setCell (p:=⟨w.heap.size+2,0,none⟩) (by simp) _).setCell (p:=⟨w.heap.size+1,0,none⟩) (by simp) _).setCell (p:=⟨w.heap.size+1,1,none⟩) (by simp) _).setCell (p:=⟨w.heap.size+1,2,none⟩) (by simp) _).setCell (p:=⟨w.heap.size+1,3,none⟩) (by simp) _)⟩
 refine results_cell_row rfl _ _ (w.heap.size+1) _ _ _ _ ?_ ((((((((q2.far (p:=⟨w.heap.size+2,3,none⟩) (by simp) _).far (p:=⟨w.heap.size+2,2,none⟩) (by simp) _).far (p:=⟨w.heap.size+2,1,none⟩) (by simp) _).far (p:=⟨w.heap.size+2,0,none⟩) (by simp) _).set_ 0 _).set_ 1 _).set_ 2 _).set_ 3 _) Tryz.underlying43 rfl (by kernel_rfl)
 rfl
theorem sure_times (v m:Nat) (hv:v<2^256) (hm:m<18446744073709551616) (w:World):
 Calls Tryz.prog 38 #[.agg (W4 v),.int .u64 (m:Int)] w (Says w (.agg (W4 (v*m%2^256)))):=by
 have h256:(2:Nat)^256=115792089237316195423570985008687907853269984665640564039457584007913129639936:=rfl
 refine times_walk (v/18446744073709551616/18446744073709551616/18446744073709551616) (v/18446744073709551616/18446744073709551616%18446744073709551616) (v/18446744073709551616%18446744073709551616) (v%18446744073709551616) v m ?_ ?_ ?_ ?_ hm ?_ w
 · rw[h256] at hv;omega
 · omega
 · omega
 · omega
 · omega

theorem eq_words (a0 a1 a2 a3 b0 b1 b2 b3:Int) (w:World):
 (Op.equalIn 10000 43 (.agg #[.int .u64 a0,.int .u64 a1,.int .u64 a2,.int .u64 a3]) (.agg #[.int .u64 b0,.int .u64 b1,.int .u64 b2,.int .u64 b3])).run Tryz.prog w=.ok (a0==b0&&(a1==b1&&(a2==b2&&a3==b3))) w:=by
 obtain⟨i,hi⟩:∃i,Tryz.prog.info? 24=some i:=Option.isSome_iff_exists.1 (show(Tryz.prog.info? 24).isSome=true by kernel_rfl)
 have hu:Tryz.prog.underlying 43=some (.array 4 24):=by kernel_rfl
 have hc:Tryz.prog.cellsOf 24=1:=by kernel_rfl
 have h64:Tryz.prog.underlying 24=some (.int .u64):=by kernel_rfl
 have hk:Tryz.prog.plainKey 24=true:=by kernel_rfl
 rw[show 10000=9998+1+1 from rfl,run_equalIn_array w (9998+1) _ _ hu hi,hc,show List.range 4=[0,1,2,3] from rfl]
 have hp:∀(x y z u:Value) (w:World),(Go.part 24 #[x,y,z,u] 0).run Tryz.prog w=.ok x w∧(Go.part 24 #[x,y,z,u] 1).run Tryz.prog w=.ok y w∧(Go.part 24 #[x,y,z,u] 2).run Tryz.prog w=.ok z w∧(Go.part 24 #[x,y,z,u] 3).run Tryz.prog w=.ok u w:=
  fun x y z u w=>⟨run_part_plain w hk rfl,run_part_plain w hk rfl,run_part_plain w hk rfl,run_part_plain w hk rfl⟩
 have he:∀(a b:Int) (w:World),(Op.equalIn (9998+1) 24 (.int .u64 a) (.int .u64 b)).run Tryz.prog w=.ok (a==b) w:=fun a b w=>run_equalIn_int w 9998 _ .u64 .u64 a b h64
 simp only[Op.eqItems,Sem.run_bind,Nat.mul_one,(hp _ _ _ _ _).1,(hp _ _ _ _ _).2.1,(hp _ _ _ _ _).2.2.1,(hp _ _ _ _ _).2.2.2,he,Result.andThen_ok]
 cases a0==b0
 · simp only[Bool.not_true,Bool.not_false,if_true,Bool.false_eq_true,if_false,Sem.run_pure,Sem.run_bind,(hp _ _ _ _ _).1,(hp _ _ _ _ _).2.1,(hp _ _ _ _ _).2.2.1,(hp _ _ _ _ _).2.2.2,he,Result.andThen_ok,Bool.true_and,Bool.false_and]
 · simp only[Bool.not_true,Bool.not_false,if_true,Bool.false_eq_true,if_false,Sem.run_pure,Sem.run_bind,(hp _ _ _ _ _).1,(hp _ _ _ _ _).2.1,(hp _ _ _ _ _).2.2.1,(hp _ _ _ _ _).2.2.2,he,Result.andThen_ok,Bool.true_and,Bool.false_and]
   cases a1==b1
   · simp only[Bool.not_true,Bool.not_false,if_true,Bool.false_eq_true,if_false,Sem.run_pure,Sem.run_bind,(hp _ _ _ _ _).1,(hp _ _ _ _ _).2.1,(hp _ _ _ _ _).2.2.1,(hp _ _ _ _ _).2.2.2,he,Result.andThen_ok,Bool.true_and,Bool.false_and]
   · simp only[Bool.not_true,Bool.not_false,if_true,Bool.false_eq_true,if_false,Sem.run_pure,Sem.run_bind,(hp _ _ _ _ _).1,(hp _ _ _ _ _).2.1,(hp _ _ _ _ _).2.2.1,(hp _ _ _ _ _).2.2.2,he,Result.andThen_ok,Bool.true_and,Bool.false_and]
     cases a2==b2
     · simp only[Bool.not_true,Bool.not_false,if_true,Bool.false_eq_true,if_false,Sem.run_pure,Sem.run_bind,(hp _ _ _ _ _).1,(hp _ _ _ _ _).2.1,(hp _ _ _ _ _).2.2.1,(hp _ _ _ _ _).2.2.2,he,Result.andThen_ok,Bool.true_and,Bool.false_and]
     · simp only[Bool.not_true,Bool.not_false,if_true,Bool.false_eq_true,if_false,Sem.run_pure,Sem.run_bind,(hp _ _ _ _ _).1,(hp _ _ _ _ _).2.1,(hp _ _ _ _ _).2.2.1,(hp _ _ _ _ _).2.2.2,he,Result.andThen_ok,Bool.true_and,Bool.false_and]
       cases a3==b3
       · simp only[Bool.not_true,Bool.not_false,if_true,Bool.false_eq_true,if_false,Sem.run_pure,Sem.run_bind,(hp _ _ _ _ _).1,(hp _ _ _ _ _).2.1,(hp _ _ _ _ _).2.2.1,(hp _ _ _ _ _).2.2.2,he,Result.andThen_ok,Bool.true_and,Bool.false_and]
       · simp only[Bool.not_true,Bool.not_false,if_true,Bool.false_eq_true,if_false,Sem.run_pure,Sem.run_bind,(hp _ _ _ _ _).1,(hp _ _ _ _ _).2.1,(hp _ _ _ _ _).2.2.1,(hp _ _ _ _ _).2.2.2,he,Result.andThen_ok,Bool.true_and,Bool.false_and]
end Go.Proofs.YtenekbfnlbipiaaGreatDoor
