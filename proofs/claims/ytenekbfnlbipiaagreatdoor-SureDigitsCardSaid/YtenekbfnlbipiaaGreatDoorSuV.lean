/- Walk: so many digits by 128 bits. -/
import Derived.Test.YtenekbfnlbipiaaGreatDoorSuN
import Derived.Test.YtenekbfnlbipiaaGreatDoorSuS
import Derived.Test.YtenekbfnlbipiaaGreatDoorBgAL
import Derived.Laws.Cover2
import Derived.Test.YtenekbfnlbipiaaGreatDoorRows
import Derived.ProofKit
import Derived.OpenShut
import Derived.ShutString
import Derived.ChangeOld
import Derived.SizedLaws
import Derived.Below
import Derived.LaidMore
import Derived.Lay
import Derived.Lib.SmallJoins
import Derived.Lib.LaidTab
import Derived.Stop.Joined
import Derived.Stop.LaidErr
namespace Go.Proofs.YtenekbfnlbipiaaGreatDoor
open Go.RowKit
set_option linter.unusedVariables false
set_option linter.unusedSimpArgs false
set_option maxHeartbeats 4000000
set_option maxRecDepth 100000

theorem law19_of (n:Bool) (s:ByteArray) (x:Int) (ok:Bool) (e:Int) (w:World):Calls Tryz.prog 5 #[.agg #[.bool n,.string s,.int .i64 x],.bool ok,.int .i64 e] w (Says w (.agg #[.bool n,.string s,.int .i64 x,.bool ok,.int .i64 e])):=by
 have hb0:Below w.heap.size w w:=Below.refl _ _
 go_enter Tryz.func5,Tryz.ntmps5
 go_wp2
 refine bodyPost_ret (v:=.agg #[.bool n,.string s,.int .i64 x,.bool ok,.int .i64 e]) ?_ rfl ⟨rfl,((Below.refl _ w).alloc nrf _).alloc (by simp) _⟩
 refine results_cell_row rfl _ _ (w.heap.size+1) _ _ _ _ ?_ (by have:=heap_alloc_new (w.alloc (.cells #[.bool n,.string s,.int .i64 x] 26)) (.cells #[.bool n,.string s,.int .i64 x,.bool ok,.int .i64 e] 29);simpa using this) Tryz.underlying29 rfl (by kernel_rfl)
 rfl
theorem fit_in {E F b:Nat} (hE1:2≤E) (hE2:E≤11) (hF1:1≤F) (hF2:F≤52) (hb:b<2^(1+E+F)):Fo.fitS (E:Int) (F:Int) b=0:=by
 have hc:Fo.chkF (E:Int) (F:Int)=0:=by unfold Fo.chkF;rw[if_neg (by omega)]
 unfold Fo.fitS
 rw[if_pos hc]
 unfold Fo.fitF
 rw[Int.toNat_natCast,Int.toNat_natCast,if_neg (by omega)]
theorem or_top (Y F:Nat) (hF:F≤52) (hY:Y<2^F):bits BinOp.or IntKind.u64 (Y:Int) ((2^F:Nat):Int)=((Y+2^F:Nat):Int):=by
 have h52:=Nat.pow_le_pow_right (n:=2) (by decide) hF
 rw[u64_or_nat _ _ (by omega) (by omega)]
 have:=Nat.two_pow_add_eq_or_of_lt hY 1
 rw[Nat.mul_one] at this
 rw[Nat.or_comm, ←this,Nat.add_comm]
theorem open_num {E F b X Y:Nat} {ng:Bool} (hE1:2≤E) (hE2:E≤11) (hF1:1≤F) (hF2:F≤52) (hb:b<2^(1+E+F)) (hs:Fo.splitF E F b=(ng,X,Y)) (hX:X+1≠2^E) (hz:¬(X=0∧Y=0)) (w:World):
 Calls Tryz.prog 10 #[.agg #[.int .i64 (E:Int),.int .i64 (F:Int)],.int .u64 (b:Int)] w (Says w (.tuple #[.agg #[.bool ng,.int .u64 ((mF F X Y:Nat):Int),.int .i64 (qF E F X),.bool (stF X Y)],.bool true,.agg #[.bool false,.string ⟨#[]⟩,.int .i64 0],.int .i64 0])):=by
 have h64:2^(1+E+F)≤2^64:=Nat.pow_le_pow_right (by decide) (by omega)
 have hfit:=fit_in hE1 hE2 hF1 hF2 hb
 have hsp:Fo.splitS (E:Int) (F:Int) b=((ng,X,Y),0):=by
  unfold Fo.splitS;rw[if_pos hfit,Int.toNat_natCast,Int.toNat_natCast,hs]
 have hcl:Fo.classS (E:Int) (F:Int) b=(Fo.classF E X Y,0):=by
  unfold Fo.classS;rw[if_pos hfit,hsp,Int.toNat_natCast]
 have hC:=fun W=>Fo.forms_Class (E:Int) (F:Int) b b rfl (by omega) W
 have hS:=fun W=>Fo.forms_Split (E:Int) (F:Int) b b rfl (by omega) W
 rw[hcl] at hC
 rw[hsp] at hS
 unfold Fo.splitF at hs
 have hXY:X=b/2^F%2^E∧Y=b%2^F:=by
  simp only[Prod.mk.injEq] at hs
  exact⟨hs.2.1.symm,hs.2.2.symm⟩
 have hXlt:X<2^E:=by rw[hXY.1];exact Nat.mod_lt _ (Nat.two_pow_pos _)
 have hYlt:Y<2^F:=by rw[hXY.2];exact Nat.mod_lt _ (Nat.two_pow_pos _)
 have hE10:=Nat.pow_le_pow_right (n:=2) (by decide) (show E-1≤10 by omega)
 have hE11:=Nat.pow_le_pow_right (n:=2) (by decide) hE2
 have hF52:=Nat.pow_le_pow_right (n:=2) (by decide) hF2
 have hi64:∀p:Nat,p≤2^10→IntKind.i64.wrap (p:Int)=(p:Int):=by intro p hp;rw[IntKind.wrap_i64];omega
 have hu64:∀p:Nat,p≤2^52→IntKind.u64.wrap (p:Int)=(p:Int):=by intro p hp;rw[IntKind.wrap_u64];omega
 have hP:IntKind.i64.wrap (2^(E-1))=((2^(E-1):Nat):Int):=by
  have h3:((2:Int)^(E-1))=((2^(E-1):Nat):Int):=by push_cast;rfl
  rw[h3];exact hi64 _ hE10
 have hQ:IntKind.u64.wrap (2^F)=((2^F:Nat):Int):=by
  have h3:((2:Int)^F)=((2^F:Nat):Int):=by push_cast;rfl
  rw[h3];exact hu64 _ hF52
 unfold Fo.classF at hC
 by_cases h0:X=0
 · subst h0
   have hY:¬Y=0:=fun h=>hz ⟨rfl,h⟩
   rw[if_pos rfl,if_neg hY] at hC
   have:=open_small (E:Int) (F:Int) b ng 0 Y (by omega) (E-1) (2^(E-1)) (by omega) hP (by omega) (by omega) hC hS w
   have e1:mF F 0 Y=Y:=rfl
   have e2:qF E F 0=2-((2^(E-1):Nat):Int)-(F:Int):=by unfold qF;rw[if_pos rfl];omega
   have e3:stF 0 Y=false:=rfl
   rw[e1,e2,e3]
   exact this
 · rw[if_neg h0,if_neg hX] at hC
   have e1:mF F X Y=Y+2^F:=by unfold mF;rw[if_neg h0]
   have e2:qF E F X=2-((2^(E-1):Nat):Int)-(F:Int)+((X:Int)-1):=by unfold qF;rw[if_neg h0]
   rw[e1,e2]
   have hor:=or_top Y F hF2 hYlt
   by_cases hY:Y=0
   · by_cases hX1:1<X
     · have e3:stF X Y=true:=by unfold stF;rw[decide_eq_true hX1,decide_eq_true hY];rfl
       rw[e3]
       exact open_norma (E:Int) F b ng X Y (by omega) (E-1) (2^(E-1)) (by omega) hP (by omega) (by omega) (2^F) (Y+2^F) (by omega) hQ hor (by simpa using hY) (by simp;omega) (by simpa using hX1) hC hS w
     · have e3:stF X Y=false:=by unfold stF;rw[decide_eq_false hX1];rfl
       rw[e3]
       exact open_normb (E:Int) F b ng X Y (by omega) (E-1) (2^(E-1)) (by omega) hP (by omega) (by omega) (2^F) (Y+2^F) (by omega) hQ hor (by simpa using hY) (by simp;omega) (by simpa using hX1) hC hS w
   · have e3:stF X Y=false:=by unfold stF;rw[decide_eq_false hY,Bool.and_false]
     rw[e3]
     exact open_normc (E:Int) F b ng X Y (by omega) (E-1) (2^(E-1)) (by omega) hP (by omega) (by omega) (2^F) (Y+2^F) (by omega) hQ hor (by simpa using hY) hC hS w
theorem open_bad {e f:Int} {b:Nat} (hb:b<18446744073709551616) (h:Fo.fitS e f b≠0) (w:World):
 Calls Tryz.prog 10 #[.agg #[.int .i64 e,.int .i64 f],.int .u64 (b:Int)] w (Says w (.tuple #[.agg #[.bool false,.int .u64 0,.int .i64 0,.bool false],.bool false,.agg #[.bool false,.string ⟨#[]⟩,.int .i64 0],.int .i64 (Fo.fitS e f b)])):=by
 have hC:=fun W=>Fo.forms_Class e f b b rfl hb W
 have hcl:Fo.classS e f b=(0,Fo.fitS e f b):=by unfold Fo.classS;rw[if_neg h]
 rw[hcl] at hC
 exact open_err e f b 0 _ (by simpa using h) hC w
theorem open_far {E F b X Y:Nat} {ng:Bool} (hE1:2≤E) (hE2:E≤11) (hF1:1≤F) (hF2:F≤52) (hb:b<2^(1+E+F)) (hs:Fo.splitF E F b=(ng,X,Y)) (hX:X+1=2^E) (w:World):
 Calls Tryz.prog 10 #[.agg #[.int .i64 (E:Int),.int .i64 (F:Int)],.int .u64 (b:Int)] w (Says w (.tuple #[.agg #[.bool false,.int .u64 0,.int .i64 0,.bool false],.bool false,.agg #[.bool false,.string ⟨#[]⟩,.int .i64 0],.int .i64 8])):=by
 have h64:2^(1+E+F)≤2^64:=Nat.pow_le_pow_right (by decide) (by omega)
 have hfit:=fit_in hE1 hE2 hF1 hF2 hb
 have hsp:Fo.splitS (E:Int) (F:Int) b=((ng,X,Y),0):=by
  unfold Fo.splitS;rw[if_pos hfit,Int.toNat_natCast,Int.toNat_natCast,hs]
 have hcl:Fo.classS (E:Int) (F:Int) b=(Fo.classF E X Y,0):=by
  unfold Fo.classS;rw[if_pos hfit,hsp,Int.toNat_natCast]
 have hC:=fun W=>Fo.forms_Class (E:Int) (F:Int) b b rfl (by omega) W
 have hS:=fun W=>Fo.forms_Split (E:Int) (F:Int) b b rfl (by omega) W
 rw[hcl] at hC
 rw[hsp] at hS
 have h1:1<2^E:=Nat.one_lt_two_pow (by omega)
 unfold Fo.classF at hC
 rw[if_neg (by omega),if_pos hX] at hC
 by_cases hY:Y=0
 · rw[if_pos hY] at hC
   exact open_inf4 _ _ b ng X Y hC hS w
 · rw[if_neg hY] at hC
   exact open_inf5 _ _ b ng X Y hC hS w
theorem open_nought {E F b:Nat} {ng:Bool} (hE1:2≤E) (hE2:E≤11) (hF1:1≤F) (hF2:F≤52) (hb:b<2^(1+E+F)) (hs:Fo.splitF E F b=(ng,0,0)) (w:World):
 Calls Tryz.prog 10 #[.agg #[.int .i64 (E:Int),.int .i64 (F:Int)],.int .u64 (b:Int)] w (Says w (.tuple #[.agg #[.bool false,.int .u64 0,.int .i64 0,.bool false],.bool false,.agg #[.bool ng,.string ⟨#[]⟩,.int .i64 0],.int .i64 0])):=by
 have h64:2^(1+E+F)≤2^64:=Nat.pow_le_pow_right (by decide) (by omega)
 have hfit:=fit_in hE1 hE2 hF1 hF2 hb
 have hsp:Fo.splitS (E:Int) (F:Int) b=((ng,0,0),0):=by
  unfold Fo.splitS;rw[if_pos hfit,Int.toNat_natCast,Int.toNat_natCast,hs]
 have hcl:Fo.classS (E:Int) (F:Int) b=(Fo.classF E 0 0,0):=by
  unfold Fo.classS;rw[if_pos hfit,hsp,Int.toNat_natCast]
 have hC:=fun W=>Fo.forms_Class (E:Int) (F:Int) b b rfl (by omega) W
 have hS:=fun W=>Fo.forms_Split (E:Int) (F:Int) b b rfl (by omega) W
 rw[hcl] at hC
 rw[hsp] at hS
 exact open_zero _ _ b ng 0 0 hC hS w
namespace Bg
theorem law_digits (e f:Int) (b:Nat) (n ok:Bool) (s:ByteArray) (x r:Int)
 (hA:∀W,Tab5 W→TabU W→Calls Tryz.prog 8 #[.agg #[.int .i64 e,.int .i64 f],.int .u64 (b:Int)] W (Says W (.tuple #[.agg #[.bool n,.string s,.int .i64 x],.bool ok,.int .i64 r])))
 (hB:∀W,Tz W→Calls Tryz.prog 9 #[.agg #[.int .i64 e,.int .i64 f],.int .u64 (b:Int)] W (Says W (.tuple #[.agg #[.bool n,.string s,.int .i64 x],.bool ok,.int .i64 r])))
 (w:World) (hT:Tab5 w) (hU:TabU w) (hZ:Tz w):
 Calls Tryz.prog 4 #[.agg #[.int .i64 e,.int .i64 f],.int .u64 (b:Int)] w (Says w (.bool true)):=by
 obtain⟨v0,hvv0,hv0,k1⟩:=Blk.al w 23 #[.int .i64 e,.int .i64 f]
 go_enter Tryz.func4,Tryz.ntmps4
 go_upto_region 1 with fail
 rw[←hvv0]
 clear hvv0
 have hTd:Tab5 v0.drew:=hT.below hv0.drew
 have hUd:TabU v0.drew:=hU.below hv0.drew
 have hZd:Tz v0:=hZ.below hv0
 obtain⟨c0,c1,kz, -⟩:=k1.b2
 go_region_held3 (fun w'=>w'.cell? ⟨w.heap.size,0,none⟩=some (.int .i64 e)∧w'.cell? ⟨w.heap.size,1,none⟩=some (.int .i64 f))
  (first|exact⟨c0,c1⟩|exact⟨a0,a1⟩|exact⟨o0,o1⟩|exact⟨p0,p1⟩|exact⟨q0,q1⟩|go_keep)
  (first
   |(go_at_call 8;(with_reducible refine(hA _ hTd hUd).mono ?_);rintro e wa ⟨rfl,ba'⟩;have ba:Below v0.heap.size v0 wa:=(Below.refl v0.heap.size v0).drew.trans ba';have a0:=cell_keep ba c0;have a1:=cell_keep ba c1)
   |(go_at_call 9;(with_reducible refine(hB _ ((hZd.below ba).below bo)).mono ?_);rintro e wp ⟨rfl,bp⟩;have p0:=cell_keep bp o0;have p1:=cell_keep bp o1)
   |(go_at_call 5;(with_reducible refine(law19_of _ _ _ _ _ _).mono ?_);rintro e wq ⟨rfl,bq⟩;have q0:=cell_keep bq p0;have q1:=cell_keep bq p1)
   |(go_at_call 5;(with_reducible refine(law19_of _ _ _ _ _ _).mono ?_);rintro e wo ⟨rfl,bo⟩;have o0:=cell_keep bo a0;have o1:=cell_keep bo a1)
   |fail)
 all_goals (
  go_wp2
  go_ret
  exact⟨rfl,(hv0.trans (ba.mono hv0.size)).trans (((bo.trans (bp.mono bo.size)).trans (bq.mono (bo.trans (bp.mono bo.size)).size)).mono (hv0.trans (ba.mono hv0.size)).size)⟩)
end Bg
end Go.Proofs.YtenekbfnlbipiaaGreatDoor
namespace Go.Proofs.YtenekbfnlbipiaaGreatDoor
open Go.ChangeShapes Go.WideShapes Go.ChangeAt Go.WideMaps Go.WideElems Go.RowKit
open Go.RowKit
set_option linter.unusedVariables false
set_option linter.unusedSimpArgs false
set_option maxHeartbeats 4000000
set_option maxRecDepth 100000

def laid6:List (String × DataW Unit):=[("math/bits.deBruijn32tab",Rows.laid_math_bits_deBruijn32tab),("math/bits.deBruijn64tab",Rows.laid_math_bits_deBruijn64tab),("internal/strconv.uint64pow10",Rows.laid_internal_strconv_uint64pow10),("unicode/utf8.acceptRanges",Rows.laid_unicode_utf8_acceptRanges),("numeral/power.fives",Rows.laid_numeral_power_fives),("unicode/utf8.first",Rows.laid_unicode_utf8_first)]
def fiveZ:List Int:=(List.range 28).map fun j=>((5^j:Nat):Int)
theorem g5:Tryz.prog.globalNamed "numeral/power.fives" =some 0:=by kernel_rfl
theorem t5:(Tryz.prog.globals[0]?).map (·.type)=some 201:=by kernel_rfl
theorem gU:Tryz.prog.globalNamed "internal/strconv.uint64pow10" =some 1:=by kernel_rfl
theorem tU:(Tryz.prog.globals[1]?).map (·.type)=some 216:=by kernel_rfl
theorem laid_fives {H:Type}:(Rows.laid_numeral_power_fives:DataW H)=Lib.tabData .u64 fiveZ:=rfl
theorem laid_tens {H:Type}:(Rows.laid_internal_strconv_uint64pow10:DataW H)=Lib.tabData .u64 Lib.pow10Tab:=rfl
def dB32:List Int:=Lib.deBruijn32tab.map fun n:Nat=>(n:Int)
theorem g32:Tryz.prog.globalNamed "math/bits.deBruijn32tab" =some 5:=by kernel_rfl
theorem t32:(Tryz.prog.globals[5]?).map (·.type)=some 241:=by kernel_rfl
theorem laid_32 {H:Type}:(Rows.laid_math_bits_deBruijn32tab:DataW H)=Lib.tabData .u8 dB32:=rfl
theorem tz_of6 {W:World} (h:laidMetH Tryz.prog laid6 W):Bg.Tz W:=by
 rw[MakeChecks.laidMetH_plain _ _ _ (by kernel_rfl)] at h
 unfold laid6 at h
 rw[laid_32] at h
 have ht:=Lib.tabIs_of_head g32 t32 Tryz.underlying241 Tryz.underlying5 (by kernel_rfl) (by kernel_rfl) h
 intro j hj
 have hl:dB32.length=Lib.deBruijn32tab.length:=by unfold dB32;simp
 have h1:=ht.cell g32 j (by rw[hl];exact hj)
 rw[h1]
 have:dB32.getD j 0=((Lib.deBruijn32tab.getD j 0:Nat):Int):=by
  unfold dB32
  rw[List.getD_eq_getElem?_getD,List.getElem?_map,List.getElem?_eq_getElem hj,List.getD_eq_getElem?_getD,List.getElem?_eq_getElem hj]
  rfl
 rw[this]
theorem tab5_of6 {W:World} (h:laidMetH Tryz.prog laid6 W):Tab5 W:=by
 rw[MakeChecks.laidMetH_plain _ _ _ (by kernel_rfl)] at h
 unfold laid6 at h
 have h5:=h.tail.tail.tail.tail
 rw[laid_fives] at h5
 have ht:=Lib.tabIs_of_head g5 t5 Tryz.underlying201 Tryz.underlying24 (by kernel_rfl) (by kernel_rfl) h5
 intro j hj
 have hl:fiveZ.length=28:=rfl
 have h1:=ht.cell g5 j (by rw[hl];exact hj)
 rw[h1]
 have:fiveZ.getD j 0=((5^j:Nat):Int):=by
  unfold fiveZ
  rw[List.getD_eq_getElem?_getD,List.getElem?_map,List.getElem?_range hj]
  rfl
 rw[this]
theorem tabU_of6 {W:World} (h:laidMetH Tryz.prog laid6 W):TabU W:=by
 rw[MakeChecks.laidMetH_plain _ _ _ (by kernel_rfl)] at h
 unfold laid6 at h
 have h5:=h.tail.tail
 rw[laid_tens] at h5
 exact Lib.tabIs_of_head gU tU Tryz.underlying216 Tryz.underlying24 (by kernel_rfl) (by kernel_rfl) h5
set_option maxRecDepth 100000 in
theorem door_met6 (os:Os) (args:Array Value):laidMetH Tryz.prog laid6 ((World.laidAll Tryz.prog os laid6).forCall (fun _ _=>0) ⟨#[],args,[]⟩).memory:=by
 rw[MakeChecks.laidMetH_plain _ _ _ (by kernel_rfl)]
 exact laidMet_laidAll _ (by kernel_rfl) (by kernel_rfl)
end Go.Proofs.YtenekbfnlbipiaaGreatDoor
