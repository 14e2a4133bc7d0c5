/- Walks: layer 4's Value, the document's way. -/
import Derived.Test.YtenekbfnlbipiaaGreatDoorBgDA
import Derived.Test.YtenekbfnlbipiaaGreatDoorBgAF
import Derived.Test.YtenekbfnlbipiaaGreatDoorBgAL
namespace Go.Proofs.YtenekbfnlbipiaaGreatDoor
open Go.RowKit
set_option linter.unusedVariables false
set_option linter.unusedSimpArgs false
set_option maxHeartbeats 4000000
set_option maxRecDepth 100000
namespace Bg
theorem ref04_Bias (E F:Nat) (hE1:2≤E) (hE2:E≤11) (w:World):
 Calls Tryz.prog 168 #[.agg #[.int .i64 (E:Int),.int .i64 (F:Int)]] w (Says w (.int .i64 ((2^(E-1):Nat)-1:Int))):=by
 obtain⟨k,rfl⟩:∃k,E=k+1:=⟨E-1,by omega⟩
 have hk:k≤10:=by omega
 rw[show k+1-1=k from rfl]
 have hp:2^k≤1024:=Nat.le_trans (Nat.pow_le_pow_right (by decide) hk) (by decide)
 have hpos:0<2^k:=Nat.two_pow_pos k
 go_enter Tryz.func168,Tryz.ntmps168
 go_wp2
 go_ret
 have e1:(2:Int)^k=((2^k:Nat):Int):=by rw[Int.natCast_pow];rfl
 have e2:wrap64 (wrap64 ((2:Int)^k)-1)=((2^k:Nat):Int)-1:=by
  rw[e1];unfold wrap64;omega
 refine⟨?_,(Below.refl _ _).alloc nrf _⟩
 rw[←e2]
 rfl
theorem ref04_May (E F b:Nat) (hE2:2≤E) (hE:E≤11) (hF1:1≤F) (hF:F≤52) (hb64:b<18446744073709551616) (hb:b<2^(E+F)) (w:World):
 Calls Tryz.prog 164 #[.agg #[.int .i64 (E:Int),.int .i64 (F:Int)],.int .u64 (b:Int)] w (Says w (.int .i64 0)):=by
 have hw:IntKind.u64.wrap (1+(E:Int)+(F:Int))=((1+E+F:Nat):Int):=by rw[IntKind.wrap_u64];omega
 have g1:decide ((E:Int)<2)=false:=by simp;omega
 have g2:decide ((11:Int)<(E:Int))=false:=by simp;omega
 have g3:decide ((F:Int)<1)=false:=by simp;omega
 have g4:decide ((52:Int)<(F:Int))=false:=by simp;omega
 have hq:(b:Int)/2^(1+E+F)=0:=by
  have h1:b/2^(1+E+F)=0:=Nat.div_eq_of_lt (Nat.lt_of_lt_of_le hb (Nat.pow_le_pow_right (by decide) (by omega)))
  have:(b:Int)/2^(1+E+F)=((b/2^(1+E+F):Nat):Int):=by push_cast;rfl
  rw[this,h1];rfl
 clear hb
 by_cases h63:E+F<63
 · have g5:decide ((E:Int)+(F:Int)<63)=true:=by simp;omega
   obtain⟨v0,hv0,ha0,k1⟩:=Blk.al w 23 #[.int .i64 (E:Int),.int .i64 (F:Int)]
   have hs0:v0.heap.size=w.heap.size+1:=by rw[hv0];simp
   have hb0:=ha0
   go_enter Tryz.func164,Tryz.ntmps164
   go_upto_region 1 with fail
   rw[←hv0]
   clear hv0 hs0 ha0
   obtain⟨k1c0,k1c1,k1z,k1f0,k1f1⟩:=k1.b2
   go_wp2
   go_ret
   exact⟨rfl,hb0⟩
 · have g5:decide ((E:Int)+(F:Int)<63)=false:=by simp;omega
   obtain⟨v0,hv0,ha0,k1⟩:=Blk.al w 23 #[.int .i64 (E:Int),.int .i64 (F:Int)]
   have hs0:v0.heap.size=w.heap.size+1:=by rw[hv0];simp
   have hb0:=ha0
   go_enter Tryz.func164,Tryz.ntmps164
   go_upto_region 1 with fail
   rw[←hv0]
   clear hv0 hs0 ha0
   obtain⟨k1c0,k1c1,k1z,k1f0,k1f1⟩:=k1.b2
   go_wp2
   go_ret
   exact⟨rfl,hb0⟩
theorem ref04_Fields (E F b:Nat) (hE2:2≤E) (hE:E≤11) (hF1:1≤F) (hF:F≤52) (hb64:b<18446744073709551616) (hb:b<2^(E+F)) (X Y:Nat) (hX:X=b/2^F%2^E) (hY:Y=b%2^F) (w:World):
 Calls Tryz.prog 165 #[.agg #[.int .i64 (E:Int),.int .i64 (F:Int)],.int .u64 (b:Int)] w (Says w (.tuple #[.bool false,.int .i64 (X:Int),.int .u64 (Y:Int)])):=by
 have eQ:=u64_two (k:=F) (by omega)
 have eP:=u64_two (k:=E) (by omega)
 obtain⟨Q,hQ⟩:∃Q,Q=2^F:=⟨_,rfl⟩
 obtain⟨P,hP⟩:∃P,P=2^E:=⟨_,rfl⟩
 have hQ0:0<Q:=by rw[hQ];exact Nat.two_pow_pos F
 have hP0:0<P:=by rw[hP];exact Nat.two_pow_pos E
 have hQle:Q≤4503599627370496:=by rw[hQ];exact Nat.pow_le_pow_right (n:=2) (by decide) hF
 have hPle:P≤2048:=by rw[hP];exact Nat.le_trans (Nat.pow_le_pow_right (by decide) hE) (by decide)
 rw[←hQ] at eQ hY
 rw[←hP] at eP hX
 have hw:IntKind.u64.wrap ((E:Int)+(F:Int))=((E+F:Nat):Int):=by rw[IntKind.wrap_u64];omega
 have hz:(b:Int)/2^(E+F)=0:=by
  have:(b:Int)/2^(E+F)=((b/2^(E+F):Nat):Int):=by push_cast;rfl
  rw[this,Nat.div_eq_of_lt hb];rfl
 obtain⟨q,hq⟩:∃q,q=b/2^F:=⟨_,rfl⟩
 have hqe:(b:Int)/2^F=(q:Int):=by rw[hq];push_cast;rfl
 have hq64:q<18446744073709551616:=by rw[hq];exact Nat.lt_of_le_of_lt (Nat.div_le_self _ _) hb64
 rw[←hq] at hX
 have hXlt:X<P:=by rw[hX];exact Nat.mod_lt _ hP0
 have hYlt:Y<Q:=by rw[hY];exact Nat.mod_lt _ hQ0
 have hXm:(q:Int)%(P:Int)=(X:Int):=by rw[hX];rfl
 have hXn:q%P=X:=hX.symm
 have hYm:(b:Int)%(Q:Int)=(Y:Int):=by rw[hY];rfl
 have hYn:b%Q=Y:=hY.symm
 have hPn:¬P=0:=by omega
 have hQn:¬Q=0:=by omega
 have hPi:((P:Int)==0)=false:=by rw[beq_eq_false_iff_ne];omega
 have hQi:((Q:Int)==0)=false:=by rw[beq_eq_false_iff_ne];omega
 have HYM:=Lib.hid hYm
 clear hX hY hQ hP hq hb
 obtain⟨v0,hv0,ha0,k1⟩:=Blk.al w 23 #[.int .i64 (E:Int),.int .i64 (F:Int)]
 have hs0:v0.heap.size=w.heap.size+1:=by rw[hv0];simp
 have hb0:=ha0
 go_enter Tryz.func165,Tryz.ntmps165
 go_upto_region 1 with fail
 rw[←hv0]
 clear hv0 hs0 ha0
 obtain⟨k1c0,k1c1,k1z,k1f0,k1f1⟩:=k1.b2
 go_wp2
 go_returns
 refine⟨?_,hb0⟩
 show Ending.returned (.tuple #[_,_,.int .u64 ((b:Int)%(Q:Int))])=_
 rw[HYM.out]
 rfl
theorem ref04_Value_small (E F b:Nat) (hE2:2≤E) (hE:E≤11) (hF1:1≤F) (hF:F≤52) (hb64:b<18446744073709551616) (hb:b<2^(E+F)) (X Y H:Nat) (hX:X=b/2^F%2^E) (hY:Y=b%2^F) (hXm:X+1≠2^E) (hX0:X=0) (hH:H=2^(E-1)) (w:World):
 Calls Tryz.prog 119 #[.agg #[.int .i64 (E:Int),.int .i64 (F:Int)],.int .u64 (b:Int)] w (DyT w Y (2-(H:Int)-(F:Int))):=by
 have hMay:=fun W=>ref04_May E F b hE2 hE hF1 hF hb64 hb W
 have hFi:=fun W=>ref04_Fields E F b hE2 hE hF1 hF hb64 hb X Y hX hY W
 have hBi:=fun W=>ref04_Bias E F hE2 hE W
 clear hb
 rw[←hH] at hBi
 have eQ:=u64_two (k:=F) (by omega)
 have eP:=u64_two (k:=E) (by omega)
 obtain⟨Q,hQ⟩:∃Q,Q=2^F:=⟨_,rfl⟩
 obtain⟨P,hP⟩:∃P,P=2^E:=⟨_,rfl⟩
 have hQ0:0<Q:=by rw[hQ];exact Nat.two_pow_pos F
 have hP0:0<P:=by rw[hP];exact Nat.two_pow_pos E
 have hQle:Q≤4503599627370496:=by rw[hQ];exact Nat.pow_le_pow_right (n:=2) (by decide) hF
 have hPle:P≤2048:=by rw[hP];exact Nat.le_trans (Nat.pow_le_pow_right (by decide) hE) (by decide)
 have eI:=i64_two (k:=E) (by omega)
 have eW:=w64_two (k:=E) (by omega)
 rw[←hQ] at eQ hY
 rw[←hP] at eP hX eI eW hXm
 have hHle:H≤1024:=by rw[hH];exact Nat.le_trans (Nat.pow_le_pow_right (by decide) (by omega:E-1≤10)) (by decide)
 have hH2:2≤H:=by rw[hH];exact Nat.pow_le_pow_right (n:=2) (i:=1) (by decide) (by omega)
 have hXlt:X<P:=by rw[hX];exact Nat.mod_lt _ hP0
 have hYlt:Y<Q:=by rw[hY];exact Nat.mod_lt _ hQ0
 clear hX hY hP hQ hH
 have hXe:((X:Int)==(P:Int)-1)=false:=by rw[beq_eq_false_iff_ne];omega
 have hX0i:((X:Int)==0)=true:=by rw[hX0];rfl
 have hMk:∀A c W,Rd W A (limbs Y)→Calls Tryz.prog 166 #[.bool false,.agg #[.slice A (limbs Y).length c],.int .i64 (IntKind.i64.wrap (IntKind.i64.wrap (1-((H:Int)-1))-(F:Int)))] W (DyT W Y (2-(H:Int)-(F:Int))):=by
  intro A c W hW
  rw[show IntKind.i64.wrap (IntKind.i64.wrap (1-((H:Int)-1))-(F:Int))=2-(H:Int)-(F:Int) by simp only[IntKind.wrap_i64];omega]
  exact ref04_Make A Y c _ (by have:=limbs_two (n:=Y) (by omega);omega) (by omega) (by omega) W hW
 have hOf:=fun W=>ref_Of (Y:Int) Y rfl (by omega) W
 have hOf2:=hOf
 have hOf3:=hOf
 obtain⟨KV,hKV⟩:∃x,x=dyK Y:=⟨_,rfl⟩
 obtain⟨DE,hDE⟩:∃x,x=dyE Y (2-(H:Int)-(F:Int)):=⟨_,rfl⟩
 unfold DyT at hMk ⊢
 rw[←hKV, ←hDE] at hMk ⊢
 clear hKV hDE hXm
 subst hX0
 obtain⟨v0,hv0,ha0,k1⟩:=Blk.al w 23 #[.int .i64 (E:Int),.int .i64 (F:Int)]
 have hs0:v0.heap.size=w.heap.size+1:=by rw[hv0];simp
 have hb0:=ha0
 obtain⟨v1,hv1,ha1,k2⟩:=Blk.al v0 117 #[.bool false,.slice none 0 0,.int .i64 0]
 have hs1:v1.heap.size=v0.heap.size+1:=by rw[hv1];simp
 replace k1:=k1.below ha1 k1.lt
 replace hb0:=hb0.trans (ha1.mono hb0.size)
 rw[hs0] at k2
 go_enter Tryz.func119,Tryz.ntmps119
 go_upto_region 1 with fail
 rw[←hv0, ←hv1]
 clear hv0 hs0 ha0 hv1 hs1 ha1
 obtain⟨k1c0,k1c1,k1z,k1f0,k1f1⟩:=k1.b2
 go_wp2_with fail
 clear k1c0 k1f0 k1c1 k1f1 k1z
 refine(hMay _).mono ?_
 rintro e w1 ⟨rfl,hb1⟩
 replace k1:=k1.below hb1 k1.lt
 replace k2:=k2.below hb1 k2.lt
 replace hb0:=hb0.trans (hb1.mono hb0.size)
 clear hb1
 obtain⟨k1c0,k1c1,k1z,k1f0,k1f1⟩:=k1.b2
 go_wp2_with fail
 clear k1c0 k1f0 k1c1 k1f1 k1z
 refine(hFi _).mono ?_
 rintro e w2 ⟨rfl,hb2⟩
 replace k1:=k1.below hb2 k1.lt
 replace k2:=k2.below hb2 k2.lt
 replace hb0:=hb0.trans (hb2.mono hb0.size)
 clear hb2
 obtain⟨k1c0,k1c1,k1z,k1f0,k1f1⟩:=k1.b2
 obtain⟨k2c0,k2c1,k2c2,k2z,k2f0,k2f1,k2f2⟩:=k2.b3
 go_upto_region 8 with fail
 have zz:w.heap.size<w.heap.size+1:=Nat.lt_succ_self _
 go_region_held3 (fun w'=>w'.cell? ⟨w.heap.size,0,none⟩=some (.int .i64 (E:Int))∧w'.cell? ⟨w.heap.size,1,none⟩=some (.int .i64 (F:Int)))
  (first|exact⟨k1c0,k1c1⟩|exact⟨o0,o1⟩|exact⟨a0,a1⟩|exact⟨m0,m1⟩|exact⟨set_keep (set_keep (set_keep m0 zz) zz) zz,set_keep (set_keep (set_keep m1 zz) zz) zz⟩|go_keep)
  (first
   |(go_at_call 167;(first|(with_reducible refine(hOf _).mono ?_)|(with_reducible refine(hOf2 _).mono ?_)|(with_reducible refine(hOf3 _).mono ?_));rintro e wo ⟨A,c,rfl,ho,bo'⟩;have bo:Below w2.heap.size w2 wo:=(Below.refl w2.heap.size w2).drew.trans bo';have o0:=cell_keep bo k1c0;have o1:=cell_keep bo k1c1)
   |(go_at_call 168;(with_reducible refine(hBi _).mono ?_);rintro e wa ⟨rfl,ba⟩;have a0:=cell_keep ba o0;have a1:=cell_keep ba o1)
   |(go_at_call 166;(with_reducible refine(hMk A c _ (ho.rd.below ba)).mono ?_);rintro e wm ⟨B,k,rfl,hm,bm⟩;have m0:=cell_keep bm a0;have m1:=cell_keep bm a1;have kw:=((k2.below bo k2.lt).below ba (k2.below bo k2.lt).lt).below bm ((k2.below bo k2.lt).below ba (k2.below bo k2.lt).lt).lt;have x0:=kw.cell 0;have y0:=kw.frozen 0;have x1:=kw.cell 1;have y1:=kw.frozen 1;have x2:=kw.cell 2;have y2:=kw.frozen 2;have xz:=kw.lt;simp only[geCells] at x0 x1 x2)
   |fail)
 all_goals (
  have hbo:=hb0.trans (bo.mono hb0.size)
  have hba:=hbo.trans (ba.mono hbo.size)
  have hbm:=hba.trans (bm.mono hba.size)
  replace k2:=((k2.below bo k2.lt).below ba (k2.below bo k2.lt).lt)
  have zk:=k2.lt
  replace k2:=k2.below bm k2.lt
  clear k2c0 k2f0 k2c1 k2f1 k2c2 k2f2 k2z
  obtain⟨k2c0,k2c1,k2c2,k2z,k2f0,k2f1,k2f2⟩:=k2.b3
  go_wp2
  refine bodyPost_ret (v:=.tuple #[.agg #[.bool false,.slice B (limbs KV).length k,.int .i64 DE],.int .i64 0]) ?_ rfl ⟨B,k,rfl,(((hm.setCell zk _).setCell zk _).setCell zk _).mono hba.size,((bel3 hbm (w.heap.size+1) (by simp)))⟩
  refine results_cell_tmp rfl _ _ (w.heap.size+1) _ _ _ _ _ ?_ ?_ ((((k2.set_ 0 _).set_ 1 _).set_ 2 _)) Tryz.underlying117 rfl (by kernel_rfl)
  · rfl
  · rfl)
theorem ref04_Value_big (E F b:Nat) (hE2:2≤E) (hE:E≤11) (hF1:1≤F) (hF:F≤52) (hb64:b<18446744073709551616) (hb:b<2^(E+F)) (X Y H:Nat) (hX:X=b/2^F%2^E) (hY:Y=b%2^F) (hXm:X+1≠2^E) (hX0:X≠0) (hH:H=2^(E-1)) (w:World):
 Calls Tryz.prog 119 #[.agg #[.int .i64 (E:Int),.int .i64 (F:Int)],.int .u64 (b:Int)] w (DyT w (Y+2^F) ((X:Int)-((H:Int)-1)-(F:Int))):=by
 have hMay:=fun W=>ref04_May E F b hE2 hE hF1 hF hb64 hb W
 have hFi:=fun W=>ref04_Fields E F b hE2 hE hF1 hF hb64 hb X Y hX hY W
 have hBi:=fun W=>ref04_Bias E F hE2 hE W
 clear hb
 rw[←hH] at hBi
 have eQ:=u64_two (k:=F) (by omega)
 have eP:=u64_two (k:=E) (by omega)
 obtain⟨Q,hQ⟩:∃Q,Q=2^F:=⟨_,rfl⟩
 obtain⟨P,hP⟩:∃P,P=2^E:=⟨_,rfl⟩
 have hQ0:0<Q:=by rw[hQ];exact Nat.two_pow_pos F
 have hP0:0<P:=by rw[hP];exact Nat.two_pow_pos E
 have hQle:Q≤4503599627370496:=by rw[hQ];exact Nat.pow_le_pow_right (n:=2) (by decide) hF
 have hPle:P≤2048:=by rw[hP];exact Nat.le_trans (Nat.pow_le_pow_right (by decide) hE) (by decide)
 have eI:=i64_two (k:=E) (by omega)
 have eW:=w64_two (k:=E) (by omega)
 rw[←hQ] at eQ hY ⊢
 rw[←hP] at eP hX eI eW hXm
 have hHle:H≤1024:=by rw[hH];exact Nat.le_trans (Nat.pow_le_pow_right (by decide) (by omega:E-1≤10)) (by decide)
 have hH2:2≤H:=by rw[hH];exact Nat.pow_le_pow_right (n:=2) (i:=1) (by decide) (by omega)
 have hXlt:X<P:=by rw[hX];exact Nat.mod_lt _ hP0
 have hYlt:Y<Q:=by rw[hY];exact Nat.mod_lt _ hQ0
 clear hX hY hP hQ hH
 have hXe:((X:Int)==(P:Int)-1)=false:=by rw[beq_eq_false_iff_ne];omega
 have hX0i:((X:Int)==0)=false:=by rw[beq_eq_false_iff_ne];omega
 have hMk:∀A c W,Rd W A (limbs (Y+Q))→Calls Tryz.prog 166 #[.bool false,.agg #[.slice A (limbs (Y+Q)).length c],.int .i64 (IntKind.i64.wrap (IntKind.i64.wrap ((X:Int)-((H:Int)-1))-(F:Int)))] W (DyT W (Y+Q) ((X:Int)-((H:Int)-1)-(F:Int))):=by
  intro A c W hW
  rw[show IntKind.i64.wrap (IntKind.i64.wrap ((X:Int)-((H:Int)-1))-(F:Int))=(X:Int)-((H:Int)-1)-(F:Int) by simp only[IntKind.wrap_i64];omega]
  exact ref04_Make A (Y+Q) c _ (by have:=limbs_two (n:=(Y+Q)) (by omega);omega) (by omega) (by omega) W hW
 have hOf:=fun W=>ref_Of (IntKind.u64.wrap ((Q:Int)+(Y:Int))) (Y+Q) (by rw[IntKind.wrap_u64];omega) (by omega) W
 have hF64:(IntKind.u64.wrap (F:Int)).toNat=F:=by rw[IntKind.wrap_u64];omega
 have hOf2:=fun W=>ref_Of (IntKind.u64.wrap (IntKind.u64.wrap (2^min (IntKind.u64.wrap (F:Int)).toNat 64)+(Y:Int))) (Y+Q) (by rw[hF64,Nat.min_eq_left (by omega),eQ,IntKind.wrap_u64];omega) (by omega) W
 clear hF64
 have hOf3:=fun W=>ref_Of ((Q:Int)+(Y:Int)) (Y+Q) (by omega) (by omega) W
 obtain⟨KV,hKV⟩:∃x,x=dyK (Y+Q):=⟨_,rfl⟩
 obtain⟨DE,hDE⟩:∃x,x=dyE (Y+Q) ((X:Int)-((H:Int)-1)-(F:Int)):=⟨_,rfl⟩
 unfold DyT at hMk ⊢
 rw[←hKV, ←hDE] at hMk ⊢
 clear hKV hDE hXm
 obtain⟨v0,hv0,ha0,k1⟩:=Blk.al w 23 #[.int .i64 (E:Int),.int .i64 (F:Int)]
 have hs0:v0.heap.size=w.heap.size+1:=by rw[hv0];simp
 have hb0:=ha0
 obtain⟨v1,hv1,ha1,k2⟩:=Blk.al v0 117 #[.bool false,.slice none 0 0,.int .i64 0]
 have hs1:v1.heap.size=v0.heap.size+1:=by rw[hv1];simp
 replace k1:=k1.below ha1 k1.lt
 replace hb0:=hb0.trans (ha1.mono hb0.size)
 rw[hs0] at k2
 go_enter Tryz.func119,Tryz.ntmps119
 go_upto_region 1 with fail
 rw[←hv0, ←hv1]
 clear hv0 hs0 ha0 hv1 hs1 ha1
 obtain⟨k1c0,k1c1,k1z,k1f0,k1f1⟩:=k1.b2
 go_wp2_with fail
 clear k1c0 k1f0 k1c1 k1f1 k1z
 refine(hMay _).mono ?_
 rintro e w1 ⟨rfl,hb1⟩
 replace k1:=k1.below hb1 k1.lt
 replace k2:=k2.below hb1 k2.lt
 replace hb0:=hb0.trans (hb1.mono hb0.size)
 clear hb1
 obtain⟨k1c0,k1c1,k1z,k1f0,k1f1⟩:=k1.b2
 go_wp2_with fail
 clear k1c0 k1f0 k1c1 k1f1 k1z
 refine(hFi _).mono ?_
 rintro e w2 ⟨rfl,hb2⟩
 replace k1:=k1.below hb2 k1.lt
 replace k2:=k2.below hb2 k2.lt
 replace hb0:=hb0.trans (hb2.mono hb0.size)
 clear hb2
 obtain⟨k1c0,k1c1,k1z,k1f0,k1f1⟩:=k1.b2
 obtain⟨k2c0,k2c1,k2c2,k2z,k2f0,k2f1,k2f2⟩:=k2.b3
 go_upto_region 9 with fail
 have zz:w.heap.size<w.heap.size+1:=Nat.lt_succ_self _
 go_region_held3 (fun w'=>w'.cell? ⟨w.heap.size,0,none⟩=some (.int .i64 (E:Int))∧w'.cell? ⟨w.heap.size,1,none⟩=some (.int .i64 (F:Int)))
  (first|exact⟨k1c0,k1c1⟩|exact⟨o0,o1⟩|exact⟨a0,a1⟩|exact⟨m0,m1⟩|exact⟨set_keep (set_keep (set_keep m0 zz) zz) zz,set_keep (set_keep (set_keep m1 zz) zz) zz⟩|go_keep)
  (first
   |(go_at_call 167;(first|(with_reducible refine(hOf _).mono ?_)|(with_reducible refine(hOf2 _).mono ?_)|(with_reducible refine(hOf3 _).mono ?_));rintro e wo ⟨A,c,rfl,ho,bo'⟩;have bo:Below w2.heap.size w2 wo:=(Below.refl w2.heap.size w2).drew.trans bo';have o0:=cell_keep bo k1c0;have o1:=cell_keep bo k1c1)
   |(go_at_call 168;(with_reducible refine(hBi _).mono ?_);rintro e wa ⟨rfl,ba⟩;have a0:=cell_keep ba o0;have a1:=cell_keep ba o1)
   |(go_at_call 166;(with_reducible refine(hMk A c _ (ho.rd.below ba)).mono ?_);rintro e wm ⟨B,k,rfl,hm,bm⟩;have m0:=cell_keep bm a0;have m1:=cell_keep bm a1;have kw:=((k2.below bo k2.lt).below ba (k2.below bo k2.lt).lt).below bm ((k2.below bo k2.lt).below ba (k2.below bo k2.lt).lt).lt;have x0:=kw.cell 0;have y0:=kw.frozen 0;have x1:=kw.cell 1;have y1:=kw.frozen 1;have x2:=kw.cell 2;have y2:=kw.frozen 2;have xz:=kw.lt;simp only[geCells] at x0 x1 x2)
   |fail)
 all_goals (
  have hbo:=hb0.trans (bo.mono hb0.size)
  have hba:=hbo.trans (ba.mono hbo.size)
  have hbm:=hba.trans (bm.mono hba.size)
  replace k2:=((k2.below bo k2.lt).below ba (k2.below bo k2.lt).lt)
  have zk:=k2.lt
  replace k2:=k2.below bm k2.lt
  clear k2c0 k2f0 k2c1 k2f1 k2c2 k2f2 k2z
  obtain⟨k2c0,k2c1,k2c2,k2z,k2f0,k2f1,k2f2⟩:=k2.b3
  go_wp2
  refine bodyPost_ret (v:=.tuple #[.agg #[.bool false,.slice B (limbs KV).length k,.int .i64 DE],.int .i64 0]) ?_ rfl ⟨B,k,rfl,(((hm.setCell zk _).setCell zk _).setCell zk _).mono hba.size,((bel3 hbm (w.heap.size+1) (by simp)))⟩
  refine results_cell_tmp rfl _ _ (w.heap.size+1) _ _ _ _ _ ?_ ?_ ((((k2.set_ 0 _).set_ 1 _).set_ 2 _)) Tryz.underlying117 rfl (by kernel_rfl)
  · rfl
  · rfl)
theorem ref04_Value (E F b:Nat) (hE2:2≤E) (hE:E≤11) (hF1:1≤F) (hF:F≤52) (hb64:b<18446744073709551616) (hb:b<2^(E+F)) (X Y:Nat) (hX:X=b/2^F%2^E) (hY:Y=b%2^F) (hXm:X+1≠2^E) (w:World):
 Calls Tryz.prog 119 #[.agg #[.int .i64 (E:Int),.int .i64 (F:Int)],.int .u64 (b:Int)] w (DyT w (mF F X Y) (qF E F X)):=by
 by_cases h0:X=0
 · have:=ref04_Value_small E F b hE2 hE hF1 hF hb64 hb X Y _ hX hY hXm h0 rfl w
   unfold mF qF
   rw[if_pos h0,if_pos h0,Int.add_zero]
   exact this
 · have:=ref04_Value_big E F b hE2 hE hF1 hF hb64 hb X Y _ hX hY hXm h0 rfl w
   unfold mF qF
   rw[if_neg h0,if_neg h0,show 2-((2^(E-1):Nat):Int)-(F:Int)+((X:Int)-1)=(X:Int)-(((2^(E-1):Nat):Int)-1)-(F:Int) by omega]
   exact this
end Bg
end Go.Proofs.YtenekbfnlbipiaaGreatDoor
