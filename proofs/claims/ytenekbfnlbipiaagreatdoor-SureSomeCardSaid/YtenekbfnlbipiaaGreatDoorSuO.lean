/- Walk: a number that is told by its ends. -/
import Derived.Test.YtenekbfnlbipiaaGreatDoorSuN
import Derived.Test.YtenekbfnlbipiaaGreatDoorProg
import Derived.Shelf.Strings.Trim
import Derived.Shelf.Strconv.Itoa3
import Derived.Lib.AppendIntMem
namespace Go.Proofs.YtenekbfnlbipiaaGreatDoor
open Go.RowKit
set_option linter.unusedVariables false
set_option linter.unusedSimpArgs false
set_option maxHeartbeats 4000000
set_option maxRecDepth 100000
theorem times_abs {W0 W:World} (hW:Below W0.heap.size W0 W) (v m:Nat) (hv:v<2^256) (hm:m<18446744073709551616):
 Calls Tryz.prog 38 #[.agg (W4 v),.int .u64 (m:Int)] W fun e w'=>e=.returned (.agg (W4 (v*m%2^256)))∧Below W0.heap.size W0 w':=
 (sure_times v m hv hm W).mono fun _ _ ⟨h1,h2⟩=>⟨h1,hW.trans (h2.mono hW.size)⟩
theorem set4_keep {w:World} {b o g:Nat} {v:Value} (h:w.cell? ⟨b,o,none⟩=some v) (hne:b≠g) (v0 v1 v2 v3:Value):((((w.setCell ⟨g,0,none⟩ v0).setCell ⟨g,1,none⟩ v1).setCell ⟨g,2,none⟩ v2).setCell ⟨g,3,none⟩ v3).cell? ⟨b,o,none⟩=some v:=by
 have hn:∀i,(⟨b,o,none⟩:Addr)≠⟨g,i,none⟩:=fun i e=>hne (congrArg Addr.block e)
 have k:∀(w:World) (i:Nat) (u:Value),w.cell? ⟨b,o,none⟩=some v→(w.setCell ⟨g,i,none⟩ u).cell? ⟨b,o,none⟩=some v:=fun w i u h=>(World.cell?_setCell_other w ⟨g,i,none⟩ ⟨b,o,none⟩ u (fun e=>hn i e.symm)).trans h
 exact k _ _ _ (k _ _ _ (k _ _ _ (k _ _ _ h)))

theorem sure_side (ng st:Bool) (m m' lo hi:Nat) (q X s by_:Int) (hq1: -5000≤q) (hq2:q≤5000) (hX1: -5000≤X) (hX2:X≤5000) (hm:m<4611686018427387904) (hm':m'<18446744073709551616) (hmm:(m':Int)=4*m+by_)
 (hlo:lo<2^256) (hhi:hi<2^256) (hla:lo*m'<2^256) (hlb:hi*m'<2^256) (w:World):
 Calls Tryz.prog 13 #[.agg #[.bool ng,.int .u64 (m:Int),.int .i64 q,.bool st],.agg (W4 lo++W4 hi++#[.int .i64 X,.int .i64 s]),.int .i64 by_] w (Says w (.tuple #[.agg (W4 (lo*m')),.agg (W4 (hi*m')),.int .i64 (-(X+q-2))])):=by
 have hA:=fun (W0 W:World) (hW:Below W0.heap.size W0 W)=>times_abs hW lo m' hlo hm'
 have hB:=fun (W0 W:World) (hW:Below W0.heap.size W0 W)=>times_abs hW hi m' hhi hm'
 rw[Nat.mod_eq_of_lt hla] at hA
 rw[Nat.mod_eq_of_lt hlb] at hB
 obtain⟨x0,x1,x2,x3,hx⟩:∃x0 x1 x2 x3:Nat,W4 lo=#[.int .u64 (x0:Int),.int .u64 (x1:Int),.int .u64 (x2:Int),.int .u64 (x3:Int)]:=⟨_,_,_,_,rfl⟩
 obtain⟨y0,y1,y2,y3,hy⟩:∃x0 x1 x2 x3:Nat,W4 hi=#[.int .u64 (x0:Int),.int .u64 (x1:Int),.int .u64 (x2:Int),.int .u64 (x3:Int)]:=⟨_,_,_,_,rfl⟩
 obtain⟨p0,p1,p2,p3,hp⟩:∃x0 x1 x2 x3:Nat,W4 (lo*m')=#[.int .u64 (x0:Int),.int .u64 (x1:Int),.int .u64 (x2:Int),.int .u64 (x3:Int)]:=⟨_,_,_,_,rfl⟩
 obtain⟨r0,r1,r2,r3,hr⟩:∃x0 x1 x2 x3:Nat,W4 (hi*m')=#[.int .u64 (x0:Int),.int .u64 (x1:Int),.int .u64 (x2:Int),.int .u64 (x3:Int)]:=⟨_,_,_,_,rfl⟩
 rw[hx,hp] at hA
 rw[hy,hr] at hB
 rw[hx,hy,hp,hr]
 obtain⟨bw,hbw⟩:∃bw:Int,IntKind.u64.wrap by_=bw:=⟨_,rfl⟩
 have hwm:IntKind.u64.wrap (4*(m:Int)+bw)=(m':Int):=by
  rw[←hbw,IntKind.wrap_u64,IntKind.wrap_u64];omega
 have h4:4*(m:Int)≤18446744073709551615:=by omega
 show Calls _ _ #[_,.agg #[.int .u64 (x0:Int),.int .u64 (x1:Int),.int .u64 (x2:Int),.int .u64 (x3:Int),.int .u64 (y0:Int),.int .u64 (y1:Int),.int .u64 (y2:Int),.int .u64 (y3:Int),.int .i64 X,.int .i64 s],_] w _
 clear hx hy hp hr hla hlb hlo hhi hmm
 have hb0:Below w.heap.size w w:=Below.refl _ _
 go_enter Tryz.func13,Tryz.ntmps13
 go_upto_region 1 with fail
 obtain⟨v1,E_,hv1,k1,k2,k3,k4⟩:=Blk.a4 w 37 #[.bool ng,.int .u64 (m:Int),.int .i64 q,.bool st] 45 #[.int .u64 (x0:Int),.int .u64 (x1:Int),.int .u64 (x2:Int),.int .u64 (x3:Int),.int .u64 (y0:Int),.int .u64 (y1:Int),.int .u64 (y2:Int),.int .u64 (y3:Int),.int .i64 X,.int .i64 s] 43 #[.int .u64 0,.int .u64 0,.int .u64 0,.int .u64 0] 43 #[.int .u64 0,.int .u64 0,.int .u64 0,.int .u64 0]
 replace hb0:=hb0.trans (hv1.mono hb0.size)
 rw[E_]
 clear hv1 E_
 have k1c0:=k1.cell 0
 have k1f0:=k1.frozen 0
 have k1c1:=k1.cell 1
 have k1f1:=k1.frozen 1
 have k1c2:=k1.cell 2
 have k1f2:=k1.frozen 2
 have k1c3:=k1.cell 3
 have k1f3:=k1.frozen 3
 have k1z:=k1.lt
 have k2c0:=k2.cell 0
 have k2f0:=k2.frozen 0
 have k2c1:=k2.cell 1
 have k2f1:=k2.frozen 1
 have k2c2:=k2.cell 2
 have k2f2:=k2.frozen 2
 have k2c3:=k2.cell 3
 have k2f3:=k2.frozen 3
 have k2c4:=k2.cell 4
 have k2f4:=k2.frozen 4
 have k2c5:=k2.cell 5
 have k2f5:=k2.frozen 5
 have k2c6:=k2.cell 6
 have k2f6:=k2.frozen 6
 have k2c7:=k2.cell 7
 have k2f7:=k2.frozen 7
 have k2c8:=k2.cell 8
 have k2f8:=k2.frozen 8
 have k2c9:=k2.cell 9
 have k2f9:=k2.frozen 9
 have k2z:=k2.lt
 have k3c0:=k3.cell 0
 have k3f0:=k3.frozen 0
 have k3c1:=k3.cell 1
 have k3f1:=k3.frozen 1
 have k3c2:=k3.cell 2
 have k3f2:=k3.frozen 2
 have k3c3:=k3.cell 3
 have k3f3:=k3.frozen 3
 have k3z:=k3.lt
 have k4c0:=k4.cell 0
 have k4f0:=k4.frozen 0
 have k4c1:=k4.cell 1
 have k4f1:=k4.frozen 1
 have k4c2:=k4.cell 2
 have k4f2:=k4.frozen 2
 have k4c3:=k4.cell 3
 have k4f3:=k4.frozen 3
 have k4z:=k4.lt
 simp only[geCells] at k1c0 k1c1 k1c2 k1c3 k2c0 k2c1 k2c2 k2c3 k2c4 k2c5 k2c6 k2c7 k2c8 k2c9 k3c0 k3c1 k3c2 k3c3 k4c0 k4c1 k4c2 k4c3
 go_upto_region 2 with fail
 have hW0:Below v1.heap.size v1 v1.drew:=(Below.refl _ _).drew
 go_region_held3 (fun w'=>w'.cell? ⟨w.heap.size,1,none⟩=some (.int .u64 (m:Int))∧w'.cell? ⟨w.heap.size,2,none⟩=some (.int .i64 q)∧w'.cell? ⟨w.heap.size+1,0,none⟩=some (.int .u64 (x0:Int))∧w'.cell? ⟨w.heap.size+1,1,none⟩=some (.int .u64 (x1:Int))∧w'.cell? ⟨w.heap.size+1,2,none⟩=some (.int .u64 (x2:Int))∧w'.cell? ⟨w.heap.size+1,3,none⟩=some (.int .u64 (x3:Int))∧w'.cell? ⟨w.heap.size+1,4,none⟩=some (.int .u64 (y0:Int))∧w'.cell? ⟨w.heap.size+1,5,none⟩=some (.int .u64 (y1:Int))∧w'.cell? ⟨w.heap.size+1,6,none⟩=some (.int .u64 (y2:Int))∧w'.cell? ⟨w.heap.size+1,7,none⟩=some (.int .u64 (y3:Int))∧w'.cell? ⟨w.heap.size+1,8,none⟩=some (.int .i64 X))
  (first|(with_reducible exact⟨Fo.cellsB (by assumption) k1c1,Fo.cellsB (by assumption) k1c2,Fo.cellsB (by assumption) k2c0,Fo.cellsB (by assumption) k2c1,Fo.cellsB (by assumption) k2c2,Fo.cellsB (by assumption) k2c3,Fo.cellsB (by assumption) k2c4,Fo.cellsB (by assumption) k2c5,Fo.cellsB (by assumption) k2c6,Fo.cellsB (by assumption) k2c7,Fo.cellsB (by assumption) k2c8⟩)|(with_reducible exact⟨set4_keep (Fo.cellsB (by assumption) k1c1) (by omega) _ _ _ _,set4_keep (Fo.cellsB (by assumption) k1c2) (by omega) _ _ _ _,set4_keep (Fo.cellsB (by assumption) k2c0) (by omega) _ _ _ _,set4_keep (Fo.cellsB (by assumption) k2c1) (by omega) _ _ _ _,set4_keep (Fo.cellsB (by assumption) k2c2) (by omega) _ _ _ _,set4_keep (Fo.cellsB (by assumption) k2c3) (by omega) _ _ _ _,set4_keep (Fo.cellsB (by assumption) k2c4) (by omega) _ _ _ _,set4_keep (Fo.cellsB (by assumption) k2c5) (by omega) _ _ _ _,set4_keep (Fo.cellsB (by assumption) k2c6) (by omega) _ _ _ _,set4_keep (Fo.cellsB (by assumption) k2c7) (by omega) _ _ _ _,set4_keep (Fo.cellsB (by assumption) k2c8) (by omega) _ _ _ _⟩)|(with_reducible exact⟨set4_keep (set4_keep (Fo.cellsB (by assumption) k1c1) (by omega) _ _ _ _) (by omega) _ _ _ _,set4_keep (set4_keep (Fo.cellsB (by assumption) k1c2) (by omega) _ _ _ _) (by omega) _ _ _ _,set4_keep (set4_keep (Fo.cellsB (by assumption) k2c0) (by omega) _ _ _ _) (by omega) _ _ _ _,set4_keep (set4_keep (Fo.cellsB (by assumption) k2c1) (by omega) _ _ _ _) (by omega) _ _ _ _,set4_keep (set4_keep (Fo.cellsB (by assumption) k2c2) (by omega) _ _ _ _) (by omega) _ _ _ _,set4_keep (set4_keep (Fo.cellsB (by assumption) k2c3) (by omega) _ _ _ _) (by omega) _ _ _ _,set4_keep (set4_keep (Fo.cellsB (by assumption) k2c4) (by omega) _ _ _ _) (by omega) _ _ _ _,set4_keep (set4_keep (Fo.cellsB (by assumption) k2c5) (by omega) _ _ _ _) (by omega) _ _ _ _,set4_keep (set4_keep (Fo.cellsB (by assumption) k2c6) (by omega) _ _ _ _) (by omega) _ _ _ _,set4_keep (set4_keep (Fo.cellsB (by assumption) k2c7) (by omega) _ _ _ _) (by omega) _ _ _ _,set4_keep (set4_keep (Fo.cellsB (by assumption) k2c8) (by omega) _ _ _ _) (by omega) _ _ _ _⟩)|go_keep)
  (first
   |(go_at_call 38;with_reducible refine(hA v1 _ (by assumption)).mono ?_;rintro r wa ⟨rfl,hba⟩;have hbac30:=Fo.cellsB hba k3c0;have hbaf30:=Fo.frozenB hba k3z k3f0;have hbac31:=Fo.cellsB hba k3c1;have hbaf31:=Fo.frozenB hba k3z k3f1;have hbac32:=Fo.cellsB hba k3c2;have hbaf32:=Fo.frozenB hba k3z k3f2;have hbac33:=Fo.cellsB hba k3c3;have hbaf33:=Fo.frozenB hba k3z k3f3;have hbac40:=Fo.cellsB hba k4c0;have hbaf40:=Fo.frozenB hba k4z k4f0;have hbac41:=Fo.cellsB hba k4c1;have hbaf41:=Fo.frozenB hba k4z k4f1;have hbac42:=Fo.cellsB hba k4c2;have hbaf42:=Fo.frozenB hba k4z k4f2;have hbac43:=Fo.cellsB hba k4c3;have hbaf43:=Fo.frozenB hba k4z k4f3;have hbaz3:=Nat.lt_of_lt_of_le k3z hba.size;have hbaz4:=Nat.lt_of_lt_of_le k4z hba.size)
   |(go_at_call 38;with_reducible refine(hB v1 _ (by assumption)).mono ?_;rintro r wb ⟨rfl,hbb⟩;have hbbc30:=Fo.cellsB hbb k3c0;have hbbf30:=Fo.frozenB hbb k3z k3f0;have hbbc31:=Fo.cellsB hbb k3c1;have hbbf31:=Fo.frozenB hbb k3z k3f1;have hbbc32:=Fo.cellsB hbb k3c2;have hbbf32:=Fo.frozenB hbb k3z k3f2;have hbbc33:=Fo.cellsB hbb k3c3;have hbbf33:=Fo.frozenB hbb k3z k3f3;have hbbc40:=Fo.cellsB hbb k4c0;have hbbf40:=Fo.frozenB hbb k4z k4f0;have hbbc41:=Fo.cellsB hbb k4c1;have hbbf41:=Fo.frozenB hbb k4z k4f1;have hbbc42:=Fo.cellsB hbb k4c2;have hbbf42:=Fo.frozenB hbb k4z k4f2;have hbbc43:=Fo.cellsB hbb k4c3;have hbbf43:=Fo.frozenB hbb k4z k4f3;have hbbz3:=Nat.lt_of_lt_of_le k3z hbb.size;have hbbz4:=Nat.lt_of_lt_of_le k4z hbb.size))
 go_wp2
 have hN:IntKind.i64.wrap (-IntKind.i64.wrap (IntKind.i64.wrap (X+q)-2))= -(X+q-2):=by
  rw[IntKind.wrap_i64,IntKind.wrap_i64,IntKind.wrap_i64];omega
 refine bodyPost_ret (v:=.tuple #[.agg #[.int .u64 (p0:Int),.int .u64 (p1:Int),.int .u64 (p2:Int),.int .u64 (p3:Int)],.agg #[.int .u64 (r0:Int),.int .u64 (r1:Int),.int .u64 (r2:Int),.int .u64 (r3:Int)],.int .i64 (-(X+q-2))]) ?_ rfl ⟨rfl,(((((((((hb0.trans (hbb.mono hb0.size)).setCell (p:=⟨w.heap.size+2,0,none⟩) (by simp) _).setCell (p:=⟨w.heap.size+2,1,none⟩) (by simp) _).setCell (p:=⟨w.heap.size+2,2,none⟩) (by simp) _).setCell (p:=⟨w.heap.size+2,3,none⟩) (by simp) _).setCell (p:=⟨w.heap.size+3,0,none⟩) (by simp) _).setCell (p:=⟨w.heap.size+3,1,none⟩) (by simp) _).setCell (p:=⟨w.heap.size+3,2,none⟩) (by simp) _).setCell (p:=⟨w.heap.size+3,3,none⟩) (by simp) _)⟩
 refine results_cells_tmp rfl _ _ (w.heap.size+2) (w.heap.size+3) _ _ _ _ _ _ _ _ _ ?_ ?_ ?_ (((((((((k3.below hbb k3z).set_ 0 _).set_ 1 _).set_ 2 _).set_ 3 _).far (p:=⟨w.heap.size+3,0,none⟩) (by simp) _).far (p:=⟨w.heap.size+3,1,none⟩) (by simp) _).far (p:=⟨w.heap.size+3,2,none⟩) (by simp) _).far (p:=⟨w.heap.size+3,3,none⟩) (by simp) _) (((((((((k4.below hbb k4z).far (p:=⟨w.heap.size+2,0,none⟩) (by simp) _).far (p:=⟨w.heap.size+2,1,none⟩) (by simp) _).far (p:=⟨w.heap.size+2,2,none⟩) (by simp) _).far (p:=⟨w.heap.size+2,3,none⟩) (by simp) _).set_ 0 _).set_ 1 _).set_ 2 _).set_ 3 _) Tryz.underlying43 rfl (by kernel_rfl) Tryz.underlying43 rfl (by kernel_rfl)
 · rfl
 · rfl
 · rw[←hN];rfl
end Go.Proofs.YtenekbfnlbipiaaGreatDoor
namespace Go.Proofs.YtenekbfnlbipiaaGreatDoor
open Go.RowKit
set_option linter.unusedVariables false
set_option linter.unusedSimpArgs false
set_option maxHeartbeats 4000000
set_option maxRecDepth 100000
open Go.Shelf
def lays284_ren:Ren:=
{
 f:=fun x=>
  match x with
  |284=>143
  |129=>33
  |317=>194
  |318=>195
  |n=>n,
 t:=fun x=>
  match x with
  |53=>24
  |3=>3
  |212=>216
  |0=>0
  |4=>4
  |46=>93
  |5=>5
  |9=>9
  |n=>n,
 g:=fun x=>
  match x with
  |17=>1
  |n=>n }
theorem lays284:LaysM.n284 Tryz.prog lays284_ren:=
{ mixed:=Eq.refl true,f129:=Eq.trans Tryz.func33 (congrArg some (Eq.refl (Body.n129 lays284_ren))),
  f284:=Eq.trans Tryz.func143 (congrArg some (Eq.refl (Body.n284 lays284_ren))),
  f317:=Eq.trans Tryz.func194 (congrArg some (Eq.refl (Body.n317 lays284_ren))),
  f318:=Eq.trans Tryz.func195 (congrArg some (Eq.refl (Body.n318 lays284_ren))),t0:=Tryz.underlying0,
  a0:=Tryz.isAgg0,z0:=Tryz.sizeOf0,v0:=Tryz.zeroValue0,t3:=Tryz.underlying3,a3:=Tryz.isAgg3,
  z3:=Tryz.sizeOf3,v3:=Tryz.zeroValue3,t4:=Tryz.underlying4,a4:=Tryz.isAgg4,z4:=Tryz.sizeOf4,
  v4:=Tryz.zeroValue4,t5:=Tryz.underlying5,a5:=Tryz.isAgg5,z5:=Tryz.sizeOf5,v5:=Tryz.zeroValue5,
  t9:=Tryz.underlying9,a9:=Tryz.isAgg9,z9:=Tryz.sizeOf9,v9:=Tryz.zeroValue9,t46:=Tryz.underlying93,
  a46:=Tryz.isAgg93,z46:=Tryz.sizeOf93,v46:=Tryz.zeroValue93,t53:=Tryz.underlying24,a53:=Tryz.isAgg24,
  z53:=Tryz.sizeOf24,v53:=Tryz.zeroValue24,t212:=Tryz.underlying216,a212:=Tryz.isAgg216,
  z212:=Tryz.sizeOf216,v212:=Tryz.zeroValue216,g17:=by kernel_rfl,
  i0:=Eq.refl (some (some (Value.tuple #[]),1,0)),i3:=Eq.refl (some (some (Value.int IntKind.i64 0),1,8)),
  i4:=Eq.refl (some (some (Value.bool false),1,1)),i5:=Eq.refl (some (some (Value.int IntKind.u8 0),1,1)),
  i9:=Eq.refl (some (some (Value.string { data:=#[] }),1,16)),
  i46:=Eq.refl (some (some (Value.int IntKind.u64 0),1,8)),
  i53:=Eq.refl (some (some (Value.int IntKind.u64 0),1,8)),
  i212:=
   Eq.refl
    (some
      (some
        (Value.agg
          #[Value.int IntKind.u64 0,Value.int IntKind.u64 0,Value.int IntKind.u64 0,Value.int IntKind.u64 0,
            Value.int IntKind.u64 0,Value.int IntKind.u64 0,Value.int IntKind.u64 0,Value.int IntKind.u64 0,
            Value.int IntKind.u64 0,Value.int IntKind.u64 0,Value.int IntKind.u64 0,Value.int IntKind.u64 0,
            Value.int IntKind.u64 0,Value.int IntKind.u64 0,Value.int IntKind.u64 0,Value.int IntKind.u64 0,
            Value.int IntKind.u64 0,Value.int IntKind.u64 0,Value.int IntKind.u64 0,Value.int IntKind.u64 0]),
        20,160)),
  m17:=by kernel_rfl }
def lays285_ren:Ren:=
{
 f:=fun x=>
  match x with
  |285=>144
  |n=>n,
 t:=fun x=>
  match x with
  |37=>180
  |53=>24
  |3=>3
  |4=>4
  |51=>153
  |9=>9
  |5=>5
  |0=>0
  |n=>n,
 g:=fun x=>
  have n:=x;
  n }
theorem lays285:Lays.n285 Tryz.prog lays285_ren:=
{ mixed:=Eq.refl true,f285:=Eq.trans Tryz.func144 (congrArg some (Eq.refl (Body.n285 lays285_ren))),
  t0:=Tryz.underlying0,a0:=Tryz.isAgg0,z0:=Tryz.sizeOf0,v0:=Tryz.zeroValue0,t3:=Tryz.underlying3,
  a3:=Tryz.isAgg3,z3:=Tryz.sizeOf3,v3:=Tryz.zeroValue3,t4:=Tryz.underlying4,a4:=Tryz.isAgg4,
  z4:=Tryz.sizeOf4,v4:=Tryz.zeroValue4,t5:=Tryz.underlying5,a5:=Tryz.isAgg5,z5:=Tryz.sizeOf5,
  v5:=Tryz.zeroValue5,t9:=Tryz.underlying9,a9:=Tryz.isAgg9,z9:=Tryz.sizeOf9,v9:=Tryz.zeroValue9,
  t37:=Tryz.underlying180,a37:=Tryz.isAgg180,z37:=Tryz.sizeOf180,v37:=Tryz.zeroValue180,
  t51:=Tryz.underlying153,a51:=Tryz.isAgg153,z51:=Tryz.sizeOf153,v51:=Tryz.zeroValue153,
  t53:=Tryz.underlying24,a53:=Tryz.isAgg24,z53:=Tryz.sizeOf24,v53:=Tryz.zeroValue24 }
def lays283_ren:Ren:=
{
 f:=fun x=>
  match x with
  |283=>142
  |n=>n,
 t:=fun x=>
  match x with
  |3=>3
  |9=>9
  |4=>4
  |n=>n,
 g:=fun x=>
  have n:=x;
  n }
theorem lays283:Lays.n283 Tryz.prog lays283_ren:=
{ mixed:=Eq.refl true,f283:=Eq.trans Tryz.func142 (congrArg some (Eq.refl (Body.n283 lays283_ren))),
  t3:=Tryz.underlying3,a3:=Tryz.isAgg3,z3:=Tryz.sizeOf3,v3:=Tryz.zeroValue3,t4:=Tryz.underlying4,
  a4:=Tryz.isAgg4,z4:=Tryz.sizeOf4,v4:=Tryz.zeroValue4,t9:=Tryz.underlying9,a9:=Tryz.isAgg9,
  z9:=Tryz.sizeOf9,v9:=Tryz.zeroValue9 }
def lays162_ren:Ren:=
{
 f:=fun x=>
  match x with
  |162=>87
  |232=>135
  |227=>136
  |234=>137
  |236=>138
  |228=>190
  |271=>191
  |151=>192
  |120=>226
  |197=>193
  |152=>227
  |260=>228
  |137=>234
  |119=>235
  |224=>236
  |225=>237
  |217=>238
  |266=>239
  |n=>n,
 t:=fun x=>
  match x with
  |9=>9
  |4=>4
  |3=>3
  |5=>5
  |117=>174
  |116=>173
  |0=>0
  |124=>177
  |21=>21
  |105=>211
  |46=>93
  |119=>237
  |139=>240
  |138=>239
  |n=>n,
 g:=fun x=>
  match x with
  |3=>3
  |4=>4
  |n=>n }
theorem lays162:Lays.n162 Tryz.prog lays162_ren:=
{ mixed:=Eq.refl true,f119:=Eq.trans Tryz.func235 (congrArg some (Eq.refl (Body.n119 lays162_ren))),
  f120:=Eq.trans Tryz.func226 (congrArg some (Eq.refl (Body.n120 lays162_ren))),
  f137:=Eq.trans Tryz.func234 (congrArg some (Eq.refl (Body.n137 lays162_ren))),
  f151:=Eq.trans Tryz.func192 (congrArg some (Eq.refl (Body.n151 lays162_ren))),
  f152:=Eq.trans Tryz.func227 (congrArg some (Eq.refl (Body.n152 lays162_ren))),
  f162:=Eq.trans Tryz.func87 (congrArg some (Eq.refl (Body.n162 lays162_ren))),
  f197:=Eq.trans Tryz.func193 (congrArg some (Eq.refl (Body.n197 lays162_ren))),
  f217:=Eq.trans Tryz.func238 (congrArg some (Eq.refl (Body.n217 lays162_ren))),
  f224:=Eq.trans Tryz.func236 (congrArg some (Eq.refl (Body.n224 lays162_ren))),
  f225:=Eq.trans Tryz.func237 (congrArg some (Eq.refl (Body.n225 lays162_ren))),
  f227:=Eq.trans Tryz.func136 (congrArg some (Eq.refl (Body.n227 lays162_ren))),
  f228:=Eq.trans Tryz.func190 (congrArg some (Eq.refl (Body.n228 lays162_ren))),
  f232:=Eq.trans Tryz.func135 (congrArg some (Eq.refl (Body.n232 lays162_ren))),
  f234:=Eq.trans Tryz.func137 (congrArg some (Eq.refl (Body.n234 lays162_ren))),
  f236:=Eq.trans Tryz.func138 (congrArg some (Eq.refl (Body.n236 lays162_ren))),
  f260:=Eq.trans Tryz.func228 (congrArg some (Eq.refl (Body.n260 lays162_ren))),
  f266:=Eq.trans Tryz.func239 (congrArg some (Eq.refl (Body.n266 lays162_ren))),
  f271:=Eq.trans Tryz.func191 (congrArg some (Eq.refl (Body.n271 lays162_ren))),t0:=Tryz.underlying0,
  a0:=Tryz.isAgg0,z0:=Tryz.sizeOf0,v0:=Tryz.zeroValue0,t3:=Tryz.underlying3,a3:=Tryz.isAgg3,
  z3:=Tryz.sizeOf3,v3:=Tryz.zeroValue3,t4:=Tryz.underlying4,a4:=Tryz.isAgg4,z4:=Tryz.sizeOf4,
  v4:=Tryz.zeroValue4,t5:=Tryz.underlying5,a5:=Tryz.isAgg5,z5:=Tryz.sizeOf5,v5:=Tryz.zeroValue5,
  t9:=Tryz.underlying9,a9:=Tryz.isAgg9,z9:=Tryz.sizeOf9,v9:=Tryz.zeroValue9,t21:=Tryz.underlying21,
  a21:=Tryz.isAgg21,z21:=Tryz.sizeOf21,v21:=Tryz.zeroValue21,t46:=Tryz.underlying93,a46:=Tryz.isAgg93,
  z46:=Tryz.sizeOf93,v46:=Tryz.zeroValue93,t105:=Tryz.underlying211,a105:=Tryz.isAgg211,
  z105:=Tryz.sizeOf211,v105:=Tryz.zeroValue211,t116:=Tryz.underlying173,a116:=Tryz.isAgg173,
  z116:=Tryz.sizeOf173,t117:=Tryz.underlying174,a117:=Tryz.isAgg174,z117:=Tryz.sizeOf174,
  v117:=Tryz.zeroValue174,t119:=Tryz.underlying237,a119:=Tryz.isAgg237,z119:=Tryz.sizeOf237,
  t124:=Tryz.underlying177,a124:=Tryz.isAgg177,z124:=Tryz.sizeOf177,v124:=Tryz.zeroValue177,
  t138:=Tryz.underlying239,a138:=Tryz.isAgg239,z138:=Tryz.sizeOf239,v138:=Tryz.zeroValue239,
  t139:=Tryz.underlying240,a139:=Tryz.isAgg240,z139:=Tryz.sizeOf240,v139:=Tryz.zeroValue240,
  g3:=by kernel_rfl,g4:=by kernel_rfl }
def lays161_ren:Ren:=
{
 f:=fun x=>
  match x with
  |161=>88
  |231=>139
  |227=>136
  |233=>140
  |235=>141
  |228=>190
  |197=>193
  |151=>192
  |260=>228
  |152=>227
  |137=>234
  |119=>235
  |224=>236
  |225=>237
  |217=>238
  |266=>239
  |n=>n,
 t:=fun x=>
  match x with
  |9=>9
  |4=>4
  |3=>3
  |5=>5
  |117=>174
  |116=>173
  |0=>0
  |124=>177
  |105=>211
  |21=>21
  |119=>237
  |46=>93
  |139=>240
  |138=>239
  |n=>n,
 g:=fun x=>
  match x with
  |3=>3
  |4=>4
  |n=>n }
theorem lays161:Lays.n161 Tryz.prog lays161_ren:=
{ mixed:=Eq.refl true,f119:=Eq.trans Tryz.func235 (congrArg some (Eq.refl (Body.n119 lays161_ren))),
  f137:=Eq.trans Tryz.func234 (congrArg some (Eq.refl (Body.n137 lays161_ren))),
  f151:=Eq.trans Tryz.func192 (congrArg some (Eq.refl (Body.n151 lays161_ren))),
  f152:=Eq.trans Tryz.func227 (congrArg some (Eq.refl (Body.n152 lays161_ren))),
  f161:=Eq.trans Tryz.func88 (congrArg some (Eq.refl (Body.n161 lays161_ren))),
  f197:=Eq.trans Tryz.func193 (congrArg some (Eq.refl (Body.n197 lays161_ren))),
  f217:=Eq.trans Tryz.func238 (congrArg some (Eq.refl (Body.n217 lays161_ren))),
  f224:=Eq.trans Tryz.func236 (congrArg some (Eq.refl (Body.n224 lays161_ren))),
  f225:=Eq.trans Tryz.func237 (congrArg some (Eq.refl (Body.n225 lays161_ren))),
  f227:=Eq.trans Tryz.func136 (congrArg some (Eq.refl (Body.n227 lays161_ren))),
  f228:=Eq.trans Tryz.func190 (congrArg some (Eq.refl (Body.n228 lays161_ren))),
  f231:=Eq.trans Tryz.func139 (congrArg some (Eq.refl (Body.n231 lays161_ren))),
  f233:=Eq.trans Tryz.func140 (congrArg some (Eq.refl (Body.n233 lays161_ren))),
  f235:=Eq.trans Tryz.func141 (congrArg some (Eq.refl (Body.n235 lays161_ren))),
  f260:=Eq.trans Tryz.func228 (congrArg some (Eq.refl (Body.n260 lays161_ren))),
  f266:=Eq.trans Tryz.func239 (congrArg some (Eq.refl (Body.n266 lays161_ren))),t0:=Tryz.underlying0,
  a0:=Tryz.isAgg0,z0:=Tryz.sizeOf0,v0:=Tryz.zeroValue0,t3:=Tryz.underlying3,a3:=Tryz.isAgg3,
  z3:=Tryz.sizeOf3,v3:=Tryz.zeroValue3,t4:=Tryz.underlying4,a4:=Tryz.isAgg4,z4:=Tryz.sizeOf4,
  v4:=Tryz.zeroValue4,t5:=Tryz.underlying5,a5:=Tryz.isAgg5,z5:=Tryz.sizeOf5,v5:=Tryz.zeroValue5,
  t9:=Tryz.underlying9,a9:=Tryz.isAgg9,z9:=Tryz.sizeOf9,v9:=Tryz.zeroValue9,t21:=Tryz.underlying21,
  a21:=Tryz.isAgg21,z21:=Tryz.sizeOf21,v21:=Tryz.zeroValue21,t46:=Tryz.underlying93,a46:=Tryz.isAgg93,
  z46:=Tryz.sizeOf93,v46:=Tryz.zeroValue93,t105:=Tryz.underlying211,a105:=Tryz.isAgg211,
  z105:=Tryz.sizeOf211,v105:=Tryz.zeroValue211,t116:=Tryz.underlying173,a116:=Tryz.isAgg173,
  z116:=Tryz.sizeOf173,t117:=Tryz.underlying174,a117:=Tryz.isAgg174,z117:=Tryz.sizeOf174,
  v117:=Tryz.zeroValue174,t119:=Tryz.underlying237,a119:=Tryz.isAgg237,z119:=Tryz.sizeOf237,
  t124:=Tryz.underlying177,a124:=Tryz.isAgg177,z124:=Tryz.sizeOf177,v124:=Tryz.zeroValue177,
  t138:=Tryz.underlying239,a138:=Tryz.isAgg239,z138:=Tryz.sizeOf239,v138:=Tryz.zeroValue239,
  t139:=Tryz.underlying240,a139:=Tryz.isAgg240,z139:=Tryz.sizeOf240,v139:=Tryz.zeroValue240,
  g3:=by kernel_rfl,g4:=by kernel_rfl }
end Go.Proofs.YtenekbfnlbipiaaGreatDoor
namespace Go.Proofs.YtenekbfnlbipiaaGreatDoor
open Go.RowKit
set_option linter.unusedVariables false
set_option linter.unusedSimpArgs false
set_option maxHeartbeats 4000000
set_option maxRecDepth 100000
open Go.Sort

def TabU (w:World):Prop:=Lib.TabIs Tryz.prog w "internal/strconv.uint64pow10" .u64 Lib.pow10Tab
theorem below_put {w:World} {o:Obj} {dk:Array UInt8} {k off:Nat}:Below w.heap.size w ((putRow (fun (b:UInt8)=>Value.int .u8 (b.toNat:Int)) (w.alloc o) w.heap.size off dk).drewN k):=by
 obtain⟨os,e⟩:=Lib.fin_at w o dk k off
 rw[e]
 have h1:∀(W:World) (os:Array Obj),Below W.heap.size W (grow W os):=fun W os=>⟨rfl,rfl,rfl,by simp[grow],fun k hk=>heap_grow_old W os hk⟩
 exact(bdn (Below.refl _ w) k).trans (h1 (w.drewN k) os)
theorem fmt_inner (u:Nat) (hu:u<18446744073709551616) (w:World) (hU:TabU w):
 Calls Tryz.prog 90 #[.int .u64 (u:Int),.int .i64 10] w (Says w (.string ⟨(Lib.decDigits u).toArray⟩)):=by
 by_cases h1:u<100
 · have hg:decide ((u:Int)<100)=true:=by simp;omega
   have hS:=fun W=>Any.internal_strconv_small lays283 u h1 W
   go_enter Tryz.func90,Tryz.ntmps90
   go_wp2_with fail
   refine(hS _).mono ?_
   rintro e w1 ⟨rfl,rfl⟩
   go_wp2
   go_ret
   exact⟨rfl,Below.refl _ _⟩
 · have hg:decide ((u:Int)<100)=false:=by simp;omega
   have hnd20:Lib.nDigits u≤20:=by have:=Lib.numDigits_eq u (by omega) hu;split at this <;> omega
   have hN:=fun W hT=>Any.internal_strconv_numDigits lays284 u (by omega) hu W hT
   have hal:Tryz.prog.arrayLen 178=24:=by kernel_rfl
   have hsl:∀W,(Instr.sliceAt 178 (.pointer (some ⟨w.heap.size,0,none⟩)) none (some (.int .i64 (Lib.nDigits u:Int))) none).run Tryz.prog W=.ok (.slice (some ⟨w.heap.size,0,none⟩) (Lib.nDigits u) 24) W:=fun W=>by
    rw[run_sliceAt_array_h W 178 ⟨w.heap.size,0,none⟩ Tryz.underlying178 .i64 (Lib.nDigits u:Int) (by omega) (by rw[hal];omega)]
    go_simp
   have hH0:=Lib.holds_zero0 w 178 (Lib.nDigits u) (by omega)
   have hfmt:=Any.internal_strconv_formatBase10 lays285 w.heap.size 0 24 u (Array.replicate (Lib.nDigits u) 0) (w.alloc (.cells Lib.zeros24 178)) hH0 (by rw[Array.size_replicate];exact Lib.lt_pow_nDigits u) hu (by rw[Array.size_replicate];omega)
   rw[Array.size_replicate] at hfmt
   have HH0:=Lib.hid hH0
   clear hH0 hal
   go_enter Tryz.func90,Tryz.ntmps90
   go_wp2_with fail
   refine(hN _ (Lib.tabIs_alloc hU _)).mono ?_
   rintro e w1 ⟨rfl,rfl⟩
   go_wp2_with fail
   refine hfmt.mono ?_
   rintro e w1 ⟨rfl,k,v',dk,rfl,hF⟩
   have hcv:(convert 180 9 (.slice (some ⟨w.heap.size,0,none⟩) (Lib.nDigits u) 24)).run Tryz.prog ((putRow (fun (b:UInt8)=>Value.int .u8 (b.toNat:Int)) (w.alloc (.cells Lib.zeros24 178)) w.heap.size 0 dk).drewN k)=.ok (.string ⟨(Lib.decDigits u).toArray⟩) ((putRow (fun (b:UInt8)=>Value.int .u8 (b.toNat:Int)) (w.alloc (.cells Lib.zeros24 178)) w.heap.size 0 dk).drewN k):=by
    have h:=run_convert_bytes_back (P:=Tryz.prog) ((putRow (fun (b:UInt8)=>Value.int .u8 (b.toNat:Int)) (w.alloc (.cells Lib.zeros24 178)) w.heap.size 0 dk).drewN k) 180 9 5 ⟨w.heap.size,0,none⟩ 24 (Lib.decDigits u) Tryz.underlying180 Tryz.underlying5 Tryz.underlying9 (fun j hj=>by
     rw[Lib.row_is_numeral hF j hj,Lib.add_plain,World.cell?_drewN]
     exact cell?_putRow (fun (b:UInt8)=>Value.int .u8 (b.toNat:Int)) _ w.heap.size 0 _ dk HH0.out (by rw[hF.size,Array.size_replicate]) j (by rw[hF.size];rw[Lib.decDigits_length] at hj;exact hj))
    rw[Lib.decDigits_length] at h
    exact h
   have hbp:=below_put (w:=w) (o:=.cells Lib.zeros24 178) (dk:=dk) (k:=k) (off:=0)
   generalize (putRow (fun (b:UInt8)=>Value.int .u8 (b.toNat:Int)) (w.alloc (.cells Lib.zeros24 178)) w.heap.size 0 dk).drewN k=W1 at*
   go_wp2
   go_ret
   exact⟨rfl,hbp⟩
theorem fmt_uint (u:Nat) (hu:u<18446744073709551616) (w:World) (hU:TabU w):
 Calls Tryz.prog 42 #[.int .u64 (u:Int),.int .i64 10] w (Says w (.string ⟨(Lib.decDigits u).toArray⟩)):=by
 go_enter Tryz.func42,Tryz.ntmps42
 go_wp2_with fail
 refine(fmt_inner u hu _ hU).mono ?_
 rintro e w1 ⟨rfl,hb1⟩
 go_wp2
 go_ret
 exact⟨rfl,hb1⟩
end Go.Proofs.YtenekbfnlbipiaaGreatDoor
