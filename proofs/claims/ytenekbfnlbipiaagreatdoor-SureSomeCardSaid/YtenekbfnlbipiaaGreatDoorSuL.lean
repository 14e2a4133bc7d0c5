/- Walks: what nearest, least, greatest ask of each end. -/
import Derived.Test.YtenekbfnlbipiaaGreatDoorSuJ
namespace Go.Proofs.YtenekbfnlbipiaaGreatDoor
open Go.RowKit
set_option linter.unusedVariables false
set_option linter.unusedSimpArgs false
set_option maxHeartbeats 4000000
set_option maxRecDepth 100000

def ceilS (inn:Bool) (v n:Nat):Nat:=if v%2^n=0∧inn=true then v/2^n else v/2^n+1
def floorS (inn:Bool) (v n:Nat):Nat:=if v%2^n=0∧inn=false then v/2^n-1 else v/2^n
def nearS (v n:Nat):Nat:=if halfS v n=1∨(halfS v n=0∧v/2^n%2=1) then v/2^n+1 else v/2^n
theorem half_cases (v n:Nat):halfS v n= -1∨halfS v n=0∨halfS v n=1:=by
 unfold halfS;split
 · exact .inl rfl
 · split
   · exact .inr (.inl rfl)
   · exact .inr (.inr rfl)
theorem and1n (a:Nat) (h:a<18446744073709551616):bits BinOp.and IntKind.u64 (a:Int) 1=((a%2:Nat):Int):=by
 have:=u64_and_nat a 1 h (by decide)
 rw[Nat.and_one_is_mod] at this
 exact this
theorem clo_up (v n:Nat) (hv:v<2^192) (n1:64≤n) (n2:n<192) (hq:v/2^n<18446744073709551615) (inn:Bool) (Bn Bi:Nat) (w:World) (cn:w.cell? ⟨Bn,0,none⟩=some (.int .i64 (n:Int))) (ci:w.cell? ⟨Bi,0,none⟩=some (.bool inn)):
 Calls Tryz.prog 66 #[.agg (W4 v),.pointer (some ⟨Bn,0,none⟩),.pointer (some ⟨Bi,0,none⟩)] w (Says w (.int .u64 ((ceilS inn v n:Nat):Int))):=by
 have hC:=fun W=>sure_cut v n hv n1 n2 W
 rw[Nat.mod_eq_of_lt (show v/2^n<18446744073709551616 by omega)] at hC
 obtain⟨x0,x1,x2,x3,hx⟩:∃x0 x1 x2 x3:Nat,W4 v=#[.int .u64 (x0:Int),.int .u64 (x1:Int),.int .u64 (x2:Int),.int .u64 (x3:Int)]:=⟨_,_,_,_,rfl⟩
 rw[hx] at hC ⊢
 unfold ceilS
 generalize v/2^n=Q at*
 generalize v%2^n=R at*
 clear hx hv
 have hw:IntKind.u64.wrap ((Q:Int)+1)=((Q+1:Nat):Int):=by rw[IntKind.wrap_u64];omega
 by_cases hR:R=0
 · rw[decide_eq_true hR] at hC
   cases inn
   · rw[if_neg (by simp)]
     clear hR
     have hb0:Below w.heap.size w w:=Below.refl _ _
     go_enter Tryz.func66,Tryz.ntmps66
     go_upto_region 1 with fail
     have ca:=fun o:Obj=>(show(w.alloc o).cell? ⟨Bn,0,none⟩=w.cell? ⟨Bn,0,none⟩ from World.cell?_alloc_lt _ _ _ (cell_lt cn)).trans cn
     have cb:=fun o:Obj=>(show(w.alloc o).cell? ⟨Bi,0,none⟩=w.cell? ⟨Bi,0,none⟩ from World.cell?_alloc_lt _ _ _ (cell_lt ci)).trans ci
     replace cn:=ca (.cells #[.int .u64 (x0:Int),.int .u64 (x1:Int),.int .u64 (x2:Int),.int .u64 (x3:Int)] 43)
     replace ci:=cb (.cells #[.int .u64 (x0:Int),.int .u64 (x1:Int),.int .u64 (x2:Int),.int .u64 (x3:Int)] 43)
     clear ca cb
     have hv1:Below w.heap.size w (w.alloc (.cells #[.int .u64 (x0:Int),.int .u64 (x1:Int),.int .u64 (x2:Int),.int .u64 (x3:Int)] 43)):=(Below.refl _ _).alloc (by first|exact Nat.le_refl _|(simp;done)|(simp;omega)) _
     have k1:Blk (w.alloc (.cells #[.int .u64 (x0:Int),.int .u64 (x1:Int),.int .u64 (x2:Int),.int .u64 (x3:Int)] 43)) (w.heap.size) 43 #[.int .u64 (x0:Int),.int .u64 (x1:Int),.int .u64 (x2:Int),.int .u64 (x3:Int)]:=Blk.new w 43 #[.int .u64 (x0:Int),.int .u64 (x1:Int),.int .u64 (x2:Int),.int .u64 (x3:Int)]
     replace hb0:=hb0.trans (hv1.mono hb0.size)
     generalize (w.alloc (.cells #[.int .u64 (x0:Int),.int .u64 (x1:Int),.int .u64 (x2:Int),.int .u64 (x3:Int)] 43))=v1 at*
     clear hv1
     obtain⟨k1c0,k1c1,k1c2,k1c3,k1z,k1f0,k1f1,k1f2,k1f3⟩:=k1.b4
     go_wp2_with fail
     clear k1c0 k1f0 k1c1 k1f1 k1c2 k1f2 k1c3 k1f3 k1z
     refine(hC _).mono ?_
     rintro e w2 ⟨rfl,hb2⟩
     replace hb0:=hb0.trans (hb2.mono hb0.size)
     replace k1:=k1.below hb2 k1.lt
     replace cn:=cell_keep hb2 cn
     replace ci:=cell_keep hb2 ci
     clear hb2
     obtain⟨k1c0,k1c1,k1c2,k1c3,k1z,k1f0,k1f1,k1f2,k1f3⟩:=k1.b4
     go_wp2
     go_ret
     exact⟨rfl,hb0⟩
   · rw[if_pos ⟨hR,rfl⟩]
     clear hR hw
     have hb0:Below w.heap.size w w:=Below.refl _ _
     go_enter Tryz.func66,Tryz.ntmps66
     go_upto_region 1 with fail
     have ca:=fun o:Obj=>(show(w.alloc o).cell? ⟨Bn,0,none⟩=w.cell? ⟨Bn,0,none⟩ from World.cell?_alloc_lt _ _ _ (cell_lt cn)).trans cn
     have cb:=fun o:Obj=>(show(w.alloc o).cell? ⟨Bi,0,none⟩=w.cell? ⟨Bi,0,none⟩ from World.cell?_alloc_lt _ _ _ (cell_lt ci)).trans ci
     replace cn:=ca (.cells #[.int .u64 (x0:Int),.int .u64 (x1:Int),.int .u64 (x2:Int),.int .u64 (x3:Int)] 43)
     replace ci:=cb (.cells #[.int .u64 (x0:Int),.int .u64 (x1:Int),.int .u64 (x2:Int),.int .u64 (x3:Int)] 43)
     clear ca cb
     have hv1:Below w.heap.size w (w.alloc (.cells #[.int .u64 (x0:Int),.int .u64 (x1:Int),.int .u64 (x2:Int),.int .u64 (x3:Int)] 43)):=(Below.refl _ _).alloc (by first|exact Nat.le_refl _|(simp;done)|(simp;omega)) _
     have k1:Blk (w.alloc (.cells #[.int .u64 (x0:Int),.int .u64 (x1:Int),.int .u64 (x2:Int),.int .u64 (x3:Int)] 43)) (w.heap.size) 43 #[.int .u64 (x0:Int),.int .u64 (x1:Int),.int .u64 (x2:Int),.int .u64 (x3:Int)]:=Blk.new w 43 #[.int .u64 (x0:Int),.int .u64 (x1:Int),.int .u64 (x2:Int),.int .u64 (x3:Int)]
     replace hb0:=hb0.trans (hv1.mono hb0.size)
     generalize (w.alloc (.cells #[.int .u64 (x0:Int),.int .u64 (x1:Int),.int .u64 (x2:Int),.int .u64 (x3:Int)] 43))=v1 at*
     clear hv1
     obtain⟨k1c0,k1c1,k1c2,k1c3,k1z,k1f0,k1f1,k1f2,k1f3⟩:=k1.b4
     go_wp2_with fail
     clear k1c0 k1f0 k1c1 k1f1 k1c2 k1f2 k1c3 k1f3 k1z
     refine(hC _).mono ?_
     rintro e w2 ⟨rfl,hb2⟩
     replace hb0:=hb0.trans (hb2.mono hb0.size)
     replace k1:=k1.below hb2 k1.lt
     replace cn:=cell_keep hb2 cn
     replace ci:=cell_keep hb2 ci
     clear hb2
     obtain⟨k1c0,k1c1,k1c2,k1c3,k1z,k1f0,k1f1,k1f2,k1f3⟩:=k1.b4
     go_wp2
     go_ret
     exact⟨rfl,hb0⟩
 · rw[decide_eq_false hR] at hC
   rw[if_neg (by simp[hR])]
   clear hR
   have hb0:Below w.heap.size w w:=Below.refl _ _
   go_enter Tryz.func66,Tryz.ntmps66
   go_upto_region 1 with fail
   have ca:=fun o:Obj=>(show(w.alloc o).cell? ⟨Bn,0,none⟩=w.cell? ⟨Bn,0,none⟩ from World.cell?_alloc_lt _ _ _ (cell_lt cn)).trans cn
   have cb:=fun o:Obj=>(show(w.alloc o).cell? ⟨Bi,0,none⟩=w.cell? ⟨Bi,0,none⟩ from World.cell?_alloc_lt _ _ _ (cell_lt ci)).trans ci
   replace cn:=ca (.cells #[.int .u64 (x0:Int),.int .u64 (x1:Int),.int .u64 (x2:Int),.int .u64 (x3:Int)] 43)
   replace ci:=cb (.cells #[.int .u64 (x0:Int),.int .u64 (x1:Int),.int .u64 (x2:Int),.int .u64 (x3:Int)] 43)
   clear ca cb
   have hv1:Below w.heap.size w (w.alloc (.cells #[.int .u64 (x0:Int),.int .u64 (x1:Int),.int .u64 (x2:Int),.int .u64 (x3:Int)] 43)):=(Below.refl _ _).alloc (by first|exact Nat.le_refl _|(simp;done)|(simp;omega)) _
   have k1:Blk (w.alloc (.cells #[.int .u64 (x0:Int),.int .u64 (x1:Int),.int .u64 (x2:Int),.int .u64 (x3:Int)] 43)) (w.heap.size) 43 #[.int .u64 (x0:Int),.int .u64 (x1:Int),.int .u64 (x2:Int),.int .u64 (x3:Int)]:=Blk.new w 43 #[.int .u64 (x0:Int),.int .u64 (x1:Int),.int .u64 (x2:Int),.int .u64 (x3:Int)]
   replace hb0:=hb0.trans (hv1.mono hb0.size)
   generalize (w.alloc (.cells #[.int .u64 (x0:Int),.int .u64 (x1:Int),.int .u64 (x2:Int),.int .u64 (x3:Int)] 43))=v1 at*
   clear hv1
   obtain⟨k1c0,k1c1,k1c2,k1c3,k1z,k1f0,k1f1,k1f2,k1f3⟩:=k1.b4
   go_wp2_with fail
   clear k1c0 k1f0 k1c1 k1f1 k1c2 k1f2 k1c3 k1f3 k1z
   refine(hC _).mono ?_
   rintro e w2 ⟨rfl,hb2⟩
   replace hb0:=hb0.trans (hb2.mono hb0.size)
   replace k1:=k1.below hb2 k1.lt
   replace cn:=cell_keep hb2 cn
   replace ci:=cell_keep hb2 ci
   clear hb2
   obtain⟨k1c0,k1c1,k1c2,k1c3,k1z,k1f0,k1f1,k1f2,k1f3⟩:=k1.b4
   go_wp2
   go_ret
   exact⟨rfl,hb0⟩

theorem clo_down (v n:Nat) (hv:v<2^192) (n1:64≤n) (n2:n<192) (hq:v/2^n<18446744073709551615) (inn:Bool) (Bn Bi:Nat) (w:World) (cn:w.cell? ⟨Bn,0,none⟩=some (.int .i64 (n:Int))) (ci:w.cell? ⟨Bi,0,none⟩=some (.bool inn)) (h0:v≠0):
 Calls Tryz.prog 67 #[.agg (W4 v),.pointer (some ⟨Bn,0,none⟩),.pointer (some ⟨Bi,0,none⟩)] w (Says w (.int .u64 ((floorS inn v n:Nat):Int))):=by
 have hC:=fun W=>sure_cut v n hv n1 n2 W
 rw[Nat.mod_eq_of_lt (show v/2^n<18446744073709551616 by omega)] at hC
 obtain⟨x0,x1,x2,x3,hx⟩:∃x0 x1 x2 x3:Nat,W4 v=#[.int .u64 (x0:Int),.int .u64 (x1:Int),.int .u64 (x2:Int),.int .u64 (x3:Int)]:=⟨_,_,_,_,rfl⟩
 rw[hx] at hC ⊢
 unfold floorS
 have hQ0:v%2^n=0→0<v/2^n:=fun h=>by
  have:=Nat.div_add_mod v (2^n)
  rcases Nat.eq_zero_or_pos (v/2^n) with h1|h1
  · rw[h1,h] at this;simp at this;omega
  · exact h1
 generalize v/2^n=Q at*
 generalize v%2^n=R at*
 clear hx hv
 by_cases hR:R=0
 · rw[decide_eq_true hR] at hC
   have hQ1:=hQ0 hR
   have hw:IntKind.u64.wrap ((Q:Int)-1)=((Q-1:Nat):Int):=by rw[IntKind.wrap_u64];omega
   cases inn
   · rw[if_pos ⟨hR,rfl⟩]
     clear hR hQ0
     have hb0:Below w.heap.size w w:=Below.refl _ _
     go_enter Tryz.func67,Tryz.ntmps67
     go_upto_region 1 with fail
     have ca:=fun o:Obj=>(show(w.alloc o).cell? ⟨Bn,0,none⟩=w.cell? ⟨Bn,0,none⟩ from World.cell?_alloc_lt _ _ _ (cell_lt cn)).trans cn
     have cb:=fun o:Obj=>(show(w.alloc o).cell? ⟨Bi,0,none⟩=w.cell? ⟨Bi,0,none⟩ from World.cell?_alloc_lt _ _ _ (cell_lt ci)).trans ci
     replace cn:=ca (.cells #[.int .u64 (x0:Int),.int .u64 (x1:Int),.int .u64 (x2:Int),.int .u64 (x3:Int)] 43)
     replace ci:=cb (.cells #[.int .u64 (x0:Int),.int .u64 (x1:Int),.int .u64 (x2:Int),.int .u64 (x3:Int)] 43)
     clear ca cb
     have hv1:Below w.heap.size w (w.alloc (.cells #[.int .u64 (x0:Int),.int .u64 (x1:Int),.int .u64 (x2:Int),.int .u64 (x3:Int)] 43)):=(Below.refl _ _).alloc (by first|exact Nat.le_refl _|(simp;done)|(simp;omega)) _
     have k1:Blk (w.alloc (.cells #[.int .u64 (x0:Int),.int .u64 (x1:Int),.int .u64 (x2:Int),.int .u64 (x3:Int)] 43)) (w.heap.size) 43 #[.int .u64 (x0:Int),.int .u64 (x1:Int),.int .u64 (x2:Int),.int .u64 (x3:Int)]:=Blk.new w 43 #[.int .u64 (x0:Int),.int .u64 (x1:Int),.int .u64 (x2:Int),.int .u64 (x3:Int)]
     replace hb0:=hb0.trans (hv1.mono hb0.size)
     generalize (w.alloc (.cells #[.int .u64 (x0:Int),.int .u64 (x1:Int),.int .u64 (x2:Int),.int .u64 (x3:Int)] 43))=v1 at*
     clear hv1
     obtain⟨k1c0,k1c1,k1c2,k1c3,k1z,k1f0,k1f1,k1f2,k1f3⟩:=k1.b4
     go_wp2_with fail
     clear k1c0 k1f0 k1c1 k1f1 k1c2 k1f2 k1c3 k1f3 k1z
     refine(hC _).mono ?_
     rintro e w2 ⟨rfl,hb2⟩
     replace hb0:=hb0.trans (hb2.mono hb0.size)
     replace k1:=k1.below hb2 k1.lt
     replace cn:=cell_keep hb2 cn
     replace ci:=cell_keep hb2 ci
     clear hb2
     obtain⟨k1c0,k1c1,k1c2,k1c3,k1z,k1f0,k1f1,k1f2,k1f3⟩:=k1.b4
     go_wp2
     go_ret
     exact⟨rfl,hb0⟩
   · rw[if_neg (by simp)]
     clear hR hw hQ0
     have hb0:Below w.heap.size w w:=Below.refl _ _
     go_enter Tryz.func67,Tryz.ntmps67
     go_upto_region 1 with fail
     have ca:=fun o:Obj=>(show(w.alloc o).cell? ⟨Bn,0,none⟩=w.cell? ⟨Bn,0,none⟩ from World.cell?_alloc_lt _ _ _ (cell_lt cn)).trans cn
     have cb:=fun o:Obj=>(show(w.alloc o).cell? ⟨Bi,0,none⟩=w.cell? ⟨Bi,0,none⟩ from World.cell?_alloc_lt _ _ _ (cell_lt ci)).trans ci
     replace cn:=ca (.cells #[.int .u64 (x0:Int),.int .u64 (x1:Int),.int .u64 (x2:Int),.int .u64 (x3:Int)] 43)
     replace ci:=cb (.cells #[.int .u64 (x0:Int),.int .u64 (x1:Int),.int .u64 (x2:Int),.int .u64 (x3:Int)] 43)
     clear ca cb
     have hv1:Below w.heap.size w (w.alloc (.cells #[.int .u64 (x0:Int),.int .u64 (x1:Int),.int .u64 (x2:Int),.int .u64 (x3:Int)] 43)):=(Below.refl _ _).alloc (by first|exact Nat.le_refl _|(simp;done)|(simp;omega)) _
     have k1:Blk (w.alloc (.cells #[.int .u64 (x0:Int),.int .u64 (x1:Int),.int .u64 (x2:Int),.int .u64 (x3:Int)] 43)) (w.heap.size) 43 #[.int .u64 (x0:Int),.int .u64 (x1:Int),.int .u64 (x2:Int),.int .u64 (x3:Int)]:=Blk.new w 43 #[.int .u64 (x0:Int),.int .u64 (x1:Int),.int .u64 (x2:Int),.int .u64 (x3:Int)]
     replace hb0:=hb0.trans (hv1.mono hb0.size)
     generalize (w.alloc (.cells #[.int .u64 (x0:Int),.int .u64 (x1:Int),.int .u64 (x2:Int),.int .u64 (x3:Int)] 43))=v1 at*
     clear hv1
     obtain⟨k1c0,k1c1,k1c2,k1c3,k1z,k1f0,k1f1,k1f2,k1f3⟩:=k1.b4
     go_wp2_with fail
     clear k1c0 k1f0 k1c1 k1f1 k1c2 k1f2 k1c3 k1f3 k1z
     refine(hC _).mono ?_
     rintro e w2 ⟨rfl,hb2⟩
     replace hb0:=hb0.trans (hb2.mono hb0.size)
     replace k1:=k1.below hb2 k1.lt
     replace cn:=cell_keep hb2 cn
     replace ci:=cell_keep hb2 ci
     clear hb2
     obtain⟨k1c0,k1c1,k1c2,k1c3,k1z,k1f0,k1f1,k1f2,k1f3⟩:=k1.b4
     go_wp2
     go_ret
     exact⟨rfl,hb0⟩
 · rw[decide_eq_false hR] at hC
   rw[if_neg (by simp[hR])]
   clear hR hQ0
   have hb0:Below w.heap.size w w:=Below.refl _ _
   go_enter Tryz.func67,Tryz.ntmps67
   go_upto_region 1 with fail
   have ca:=fun o:Obj=>(show(w.alloc o).cell? ⟨Bn,0,none⟩=w.cell? ⟨Bn,0,none⟩ from World.cell?_alloc_lt _ _ _ (cell_lt cn)).trans cn
   have cb:=fun o:Obj=>(show(w.alloc o).cell? ⟨Bi,0,none⟩=w.cell? ⟨Bi,0,none⟩ from World.cell?_alloc_lt _ _ _ (cell_lt ci)).trans ci
   replace cn:=ca (.cells #[.int .u64 (x0:Int),.int .u64 (x1:Int),.int .u64 (x2:Int),.int .u64 (x3:Int)] 43)
   replace ci:=cb (.cells #[.int .u64 (x0:Int),.int .u64 (x1:Int),.int .u64 (x2:Int),.int .u64 (x3:Int)] 43)
   clear ca cb
   have hv1:Below w.heap.size w (w.alloc (.cells #[.int .u64 (x0:Int),.int .u64 (x1:Int),.int .u64 (x2:Int),.int .u64 (x3:Int)] 43)):=(Below.refl _ _).alloc (by first|exact Nat.le_refl _|(simp;done)|(simp;omega)) _
   have k1:Blk (w.alloc (.cells #[.int .u64 (x0:Int),.int .u64 (x1:Int),.int .u64 (x2:Int),.int .u64 (x3:Int)] 43)) (w.heap.size) 43 #[.int .u64 (x0:Int),.int .u64 (x1:Int),.int .u64 (x2:Int),.int .u64 (x3:Int)]:=Blk.new w 43 #[.int .u64 (x0:Int),.int .u64 (x1:Int),.int .u64 (x2:Int),.int .u64 (x3:Int)]
   replace hb0:=hb0.trans (hv1.mono hb0.size)
   generalize (w.alloc (.cells #[.int .u64 (x0:Int),.int .u64 (x1:Int),.int .u64 (x2:Int),.int .u64 (x3:Int)] 43))=v1 at*
   clear hv1
   obtain⟨k1c0,k1c1,k1c2,k1c3,k1z,k1f0,k1f1,k1f2,k1f3⟩:=k1.b4
   go_wp2_with fail
   clear k1c0 k1f0 k1c1 k1f1 k1c2 k1f2 k1c3 k1f3 k1z
   refine(hC _).mono ?_
   rintro e w2 ⟨rfl,hb2⟩
   replace hb0:=hb0.trans (hb2.mono hb0.size)
   replace k1:=k1.below hb2 k1.lt
   replace cn:=cell_keep hb2 cn
   replace ci:=cell_keep hb2 ci
   clear hb2
   obtain⟨k1c0,k1c1,k1c2,k1c3,k1z,k1f0,k1f1,k1f2,k1f3⟩:=k1.b4
   go_wp2
   go_ret
   exact⟨rfl,hb0⟩

theorem clo_near (v n:Nat) (hv:v<2^192) (n1:64≤n) (n2:n<192) (hq:v/2^n<18446744073709551615) (Bn:Nat) (w:World) (cn:w.cell? ⟨Bn,0,none⟩=some (.int .i64 (n:Int))):
 Calls Tryz.prog 39 #[.agg (W4 v),.pointer (some ⟨Bn,0,none⟩)] w (Says w (.int .u64 ((nearS v n:Nat):Int))):=by
 have hC:=fun W=>sure_cut v n hv n1 n2 W
 rw[Nat.mod_eq_of_lt (show v/2^n<18446744073709551616 by omega)] at hC
 obtain⟨x0,x1,x2,x3,hx⟩:∃x0 x1 x2 x3:Nat,W4 v=#[.int .u64 (x0:Int),.int .u64 (x1:Int),.int .u64 (x2:Int),.int .u64 (x3:Int)]:=⟨_,_,_,_,rfl⟩
 rw[hx] at hC ⊢
 unfold nearS
 have hh:=half_cases v n
 generalize halfS v n=h at*
 generalize v/2^n=Q at*
 generalize v%2^n=R at*
 clear hx hv
 have hw:IntKind.u64.wrap ((Q:Int)+1)=((Q+1:Nat):Int):=by rw[IntKind.wrap_u64];omega
 generalize decide (R=0)=NB at hC
 rcases hh with rfl|rfl|rfl
 · rw[if_neg (by omega)]
   clear hw
   have hb0:Below w.heap.size w w:=Below.refl _ _
   go_enter Tryz.func39,Tryz.ntmps39
   go_upto_region 1 with fail
   have ca:=fun o:Obj=>(show(w.alloc o).cell? ⟨Bn,0,none⟩=w.cell? ⟨Bn,0,none⟩ from World.cell?_alloc_lt _ _ _ (cell_lt cn)).trans cn
   replace cn:=ca (.cells #[.int .u64 (x0:Int),.int .u64 (x1:Int),.int .u64 (x2:Int),.int .u64 (x3:Int)] 43)
   clear ca
   have hv1:Below w.heap.size w (w.alloc (.cells #[.int .u64 (x0:Int),.int .u64 (x1:Int),.int .u64 (x2:Int),.int .u64 (x3:Int)] 43)):=(Below.refl _ _).alloc (by first|exact Nat.le_refl _|(simp;done)|(simp;omega)) _
   have k1:Blk (w.alloc (.cells #[.int .u64 (x0:Int),.int .u64 (x1:Int),.int .u64 (x2:Int),.int .u64 (x3:Int)] 43)) (w.heap.size) 43 #[.int .u64 (x0:Int),.int .u64 (x1:Int),.int .u64 (x2:Int),.int .u64 (x3:Int)]:=Blk.new w 43 #[.int .u64 (x0:Int),.int .u64 (x1:Int),.int .u64 (x2:Int),.int .u64 (x3:Int)]
   replace hb0:=hb0.trans (hv1.mono hb0.size)
   generalize (w.alloc (.cells #[.int .u64 (x0:Int),.int .u64 (x1:Int),.int .u64 (x2:Int),.int .u64 (x3:Int)] 43))=v1 at*
   clear hv1
   obtain⟨k1c0,k1c1,k1c2,k1c3,k1z,k1f0,k1f1,k1f2,k1f3⟩:=k1.b4
   go_wp2_with fail
   clear k1c0 k1f0 k1c1 k1f1 k1c2 k1f2 k1c3 k1f3 k1z
   refine(hC _).mono ?_
   rintro e w2 ⟨rfl,hb2⟩
   replace hb0:=hb0.trans (hb2.mono hb0.size)
   replace k1:=k1.below hb2 k1.lt
   replace cn:=cell_keep hb2 cn
   clear hb2
   obtain⟨k1c0,k1c1,k1c2,k1c3,k1z,k1f0,k1f1,k1f2,k1f3⟩:=k1.b4
   go_wp2
   go_ret
   exact⟨rfl,hb0⟩
 · have hand:=and1n Q (by omega)
   by_cases hQ2:Q%2=1
   · rw[if_pos (by omega)]
     rw[hQ2] at hand
     clear hQ2
     have hb0:Below w.heap.size w w:=Below.refl _ _
     go_enter Tryz.func39,Tryz.ntmps39
     go_upto_region 1 with fail
     have ca:=fun o:Obj=>(show(w.alloc o).cell? ⟨Bn,0,none⟩=w.cell? ⟨Bn,0,none⟩ from World.cell?_alloc_lt _ _ _ (cell_lt cn)).trans cn
     replace cn:=ca (.cells #[.int .u64 (x0:Int),.int .u64 (x1:Int),.int .u64 (x2:Int),.int .u64 (x3:Int)] 43)
     clear ca
     have hv1:Below w.heap.size w (w.alloc (.cells #[.int .u64 (x0:Int),.int .u64 (x1:Int),.int .u64 (x2:Int),.int .u64 (x3:Int)] 43)):=(Below.refl _ _).alloc (by first|exact Nat.le_refl _|(simp;done)|(simp;omega)) _
     have k1:Blk (w.alloc (.cells #[.int .u64 (x0:Int),.int .u64 (x1:Int),.int .u64 (x2:Int),.int .u64 (x3:Int)] 43)) (w.heap.size) 43 #[.int .u64 (x0:Int),.int .u64 (x1:Int),.int .u64 (x2:Int),.int .u64 (x3:Int)]:=Blk.new w 43 #[.int .u64 (x0:Int),.int .u64 (x1:Int),.int .u64 (x2:Int),.int .u64 (x3:Int)]
     replace hb0:=hb0.trans (hv1.mono hb0.size)
     generalize (w.alloc (.cells #[.int .u64 (x0:Int),.int .u64 (x1:Int),.int .u64 (x2:Int),.int .u64 (x3:Int)] 43))=v1 at*
     clear hv1
     obtain⟨k1c0,k1c1,k1c2,k1c3,k1z,k1f0,k1f1,k1f2,k1f3⟩:=k1.b4
     go_wp2_with fail
     clear k1c0 k1f0 k1c1 k1f1 k1c2 k1f2 k1c3 k1f3 k1z
     refine(hC _).mono ?_
     rintro e w2 ⟨rfl,hb2⟩
     replace hb0:=hb0.trans (hb2.mono hb0.size)
     replace k1:=k1.below hb2 k1.lt
     replace cn:=cell_keep hb2 cn
     clear hb2
     obtain⟨k1c0,k1c1,k1c2,k1c3,k1z,k1f0,k1f1,k1f2,k1f3⟩:=k1.b4
     go_wp2
     go_ret
     exact⟨rfl,hb0⟩
   · rw[if_neg (by omega)]
     rw[show Q%2=0 by omega] at hand
     clear hQ2 hw
     have hb0:Below w.heap.size w w:=Below.refl _ _
     go_enter Tryz.func39,Tryz.ntmps39
     go_upto_region 1 with fail
     have ca:=fun o:Obj=>(show(w.alloc o).cell? ⟨Bn,0,none⟩=w.cell? ⟨Bn,0,none⟩ from World.cell?_alloc_lt _ _ _ (cell_lt cn)).trans cn
     replace cn:=ca (.cells #[.int .u64 (x0:Int),.int .u64 (x1:Int),.int .u64 (x2:Int),.int .u64 (x3:Int)] 43)
     clear ca
     have hv1:Below w.heap.size w (w.alloc (.cells #[.int .u64 (x0:Int),.int .u64 (x1:Int),.int .u64 (x2:Int),.int .u64 (x3:Int)] 43)):=(Below.refl _ _).alloc (by first|exact Nat.le_refl _|(simp;done)|(simp;omega)) _
     have k1:Blk (w.alloc (.cells #[.int .u64 (x0:Int),.int .u64 (x1:Int),.int .u64 (x2:Int),.int .u64 (x3:Int)] 43)) (w.heap.size) 43 #[.int .u64 (x0:Int),.int .u64 (x1:Int),.int .u64 (x2:Int),.int .u64 (x3:Int)]:=Blk.new w 43 #[.int .u64 (x0:Int),.int .u64 (x1:Int),.int .u64 (x2:Int),.int .u64 (x3:Int)]
     replace hb0:=hb0.trans (hv1.mono hb0.size)
     generalize (w.alloc (.cells #[.int .u64 (x0:Int),.int .u64 (x1:Int),.int .u64 (x2:Int),.int .u64 (x3:Int)] 43))=v1 at*
     clear hv1
     obtain⟨k1c0,k1c1,k1c2,k1c3,k1z,k1f0,k1f1,k1f2,k1f3⟩:=k1.b4
     go_wp2_with fail
     clear k1c0 k1f0 k1c1 k1f1 k1c2 k1f2 k1c3 k1f3 k1z
     refine(hC _).mono ?_
     rintro e w2 ⟨rfl,hb2⟩
     replace hb0:=hb0.trans (hb2.mono hb0.size)
     replace k1:=k1.below hb2 k1.lt
     replace cn:=cell_keep hb2 cn
     clear hb2
     obtain⟨k1c0,k1c1,k1c2,k1c3,k1z,k1f0,k1f1,k1f2,k1f3⟩:=k1.b4
     go_wp2
     go_ret
     exact⟨rfl,hb0⟩
 · rw[if_pos (by omega)]
   have hb0:Below w.heap.size w w:=Below.refl _ _
   go_enter Tryz.func39,Tryz.ntmps39
   go_upto_region 1 with fail
   have ca:=fun o:Obj=>(show(w.alloc o).cell? ⟨Bn,0,none⟩=w.cell? ⟨Bn,0,none⟩ from World.cell?_alloc_lt _ _ _ (cell_lt cn)).trans cn
   replace cn:=ca (.cells #[.int .u64 (x0:Int),.int .u64 (x1:Int),.int .u64 (x2:Int),.int .u64 (x3:Int)] 43)
   clear ca
   have hv1:Below w.heap.size w (w.alloc (.cells #[.int .u64 (x0:Int),.int .u64 (x1:Int),.int .u64 (x2:Int),.int .u64 (x3:Int)] 43)):=(Below.refl _ _).alloc (by first|exact Nat.le_refl _|(simp;done)|(simp;omega)) _
   have k1:Blk (w.alloc (.cells #[.int .u64 (x0:Int),.int .u64 (x1:Int),.int .u64 (x2:Int),.int .u64 (x3:Int)] 43)) (w.heap.size) 43 #[.int .u64 (x0:Int),.int .u64 (x1:Int),.int .u64 (x2:Int),.int .u64 (x3:Int)]:=Blk.new w 43 #[.int .u64 (x0:Int),.int .u64 (x1:Int),.int .u64 (x2:Int),.int .u64 (x3:Int)]
   replace hb0:=hb0.trans (hv1.mono hb0.size)
   generalize (w.alloc (.cells #[.int .u64 (x0:Int),.int .u64 (x1:Int),.int .u64 (x2:Int),.int .u64 (x3:Int)] 43))=v1 at*
   clear hv1
   obtain⟨k1c0,k1c1,k1c2,k1c3,k1z,k1f0,k1f1,k1f2,k1f3⟩:=k1.b4
   go_wp2_with fail
   clear k1c0 k1f0 k1c1 k1f1 k1c2 k1f2 k1c3 k1f3 k1z
   refine(hC _).mono ?_
   rintro e w2 ⟨rfl,hb2⟩
   replace hb0:=hb0.trans (hb2.mono hb0.size)
   replace k1:=k1.below hb2 k1.lt
   replace cn:=cell_keep hb2 cn
   clear hb2
   obtain⟨k1c0,k1c1,k1c2,k1c3,k1z,k1f0,k1f1,k1f2,k1f3⟩:=k1.b4
   go_wp2
   go_ret
   exact⟨rfl,hb0⟩

end Go.Proofs.YtenekbfnlbipiaaGreatDoor
