/- Walks of numeralbig: a number's object. -/
import Derived.Test.YtenekbfnlbipiaaGreatDoorBgH
import Derived.Deep.RegionHeld3
import Derived.Lib.Hide
namespace Go.Proofs.YtenekbfnlbipiaaGreatDoor
open Go.RowKit
set_option linter.unusedVariables false
set_option linter.unusedSimpArgs false
set_option maxHeartbeats 4000000
set_option maxRecDepth 100000
namespace Bg
theorem big_by (A B:Option Addr) (u v:Nat) (c d:Nat) (hv:v≠0) (hc:(limbs u).length≤c) (hlu:(limbs u).length≤20000) (w:World) (ha:Own w 153 0 A c (limbs u)) (hb:Own w 153 0 B d (limbs v)):
 Calls Tryz.prog 148 #[.slice A (limbs u).length c,.slice B (limbs v).length d] w fun e w'=>∃C k,e=.returned (.slice C (limbs (u/v)).length k)∧(limbs (u/v)).length≤k∧Own w' 153 0 C k (limbs (u/v))∧Below w.heap.size w w':=by
 have h1:=big_one B (limbs v) _ d rfl
 have hD:=big_div A B u v c d hv hlu
 by_cases h:limbs v=[1]
 · have hv1:v=1:=by have:=congrArg val h;rw[val_limbs] at this;simpa [val] using this
   subst hv1
   rw[Nat.div_one]
   have hd:decide (limbs 1=[1])=true:=by rw[h];rfl
   go_enter Tryz.func148,Tryz.ntmps148
   go_wp2_with fail
   refine(h1 _ hb.rd).mono ?_
   rintro e w1 ⟨rfl,rfl⟩
   go_wp2
   go_ret
   exact⟨_,_,rfl,hc,ha,Below.refl _ _⟩
 · have hd:decide (limbs v=[1])=false:=by rw[decide_eq_false_iff_not];exact h
   go_enter Tryz.func148,Tryz.ntmps148
   go_wp2_with fail
   refine(h1 _ hb.rd).mono ?_
   rintro e w1 ⟨rfl,rfl⟩
   go_wp2_with fail
   refine(hD _ ha.rd hb.rd).mono ?_
   rintro e w2 ⟨C,k,D,m,rfl,hk,hC,hm,hDD,hbl⟩
   go_wp2
   go_ret
   exact⟨_,_,rfl,hk,hC.mono (Nat.zero_le _),hbl⟩
theorem big_fromUint (x:Nat) (hx:x<18446744073709551616) (w:World):
 Calls Tryz.prog 95 #[.int .u64 (x:Int)] w (LimbsOne w x):=by
 have hsm:Sm [x%4294967296,x/4294967296]:=by intro y hy;simp at hy;omega
 have hv:val [x%4294967296,x/4294967296]=x:=by simp[val];omega
 have HV:=Lib.hid hv
 clear hv
 go_enter Tryz.func95,Tryz.ntmps95
 go_wp2_with fail
 have hal:Below w.heap.size w (w.alloc (.cells #[.int .u32 ((x%4294967296:Nat):Int),.int .u32 ((x/4294967296:Nat):Int)] 153)):=(Below.refl _ _).alloc nrf _
 have hrow:Row (w.alloc (.cells #[.int .u32 ((x%4294967296:Nat):Int),.int .u32 ((x/4294967296:Nat):Int)] 153)) 153 w.heap.size [x%4294967296,x/4294967296]:=row_new rfl rfl
 refine(big_trim (some ⟨w.heap.size,0,none⟩) [x%4294967296,x/4294967296] 2 2 rfl nrf _ (hrow.rd0 hsm (by simp))).mono ?_
 rintro e w3 ⟨rfl,rfl⟩
 rw[HV.out]
 go_wp2
 go_ret
 have ho:=(hrow.own hsm (by simp) nrf 2 nrf nrf).trim
 have hle:=limbs_length_le hsm
 rw[HV.out] at hle
 rw[List.take_of_length_le (by simp),HV.out] at ho
 exact⟨_,_,rfl,hle,ho,hal⟩
def Ob (w:World) (z:Nat) (T:TypeId) (s:Bool) (v:Nat) (rest:List Value):Prop:=
 ∃A c,Blk w z T (.bool s :: .slice A (limbs v).length c :: rest).toArray∧(limbs v).length≤c∧Own w 153 0 A c (limbs v)
def At (w:World) (z:Nat) (T:TypeId) (rest:List Value):Prop:=∃x y,Blk w z T (x :: y :: rest).toArray
theorem Ob.at_ {w:World} {z:Nat} {T:TypeId} {s:Bool} {v:Nat} {rest:List Value} (h:Ob w z T s v rest):At w z T rest:=by
 obtain⟨A,c,hb,_⟩:=h;exact⟨_,_,hb⟩
theorem At.lt {w:World} {z:Nat} {T:TypeId} {rest:List Value} (h:At w z T rest):z<w.heap.size:=by obtain⟨x,y,h⟩:=h;exact h.lt
theorem Ob.lt {w:World} {z:Nat} {T:TypeId} {s:Bool} {v:Nat} {rest:List Value} (h:Ob w z T s v rest):z<w.heap.size:=h.at_.lt
theorem own_hole {w w':World} {z:Nat} {T:TypeId} {cs:Array Value} {B c:Nat} {A:Option Addr} {l:List Nat} (h:Own w 153 B A c l) (hz:Blk w z T cs) (hT:T≠153) (k:Hole z w w'):Own w' 153 B A c l:=by
 refine⟨h.1,h.2.1,?_⟩
 rcases h.2.2 with h|⟨g,cur,e,hB,hb,r⟩
 · exact .inl h
 · refine .inr ⟨g,cur,e,hB,k.blk hb ?_,r⟩
   rintro rfl
   unfold Blk at hb hz
   rw[hb] at hz
   injection hz with hz
   injection hz with _ hz
   exact hT hz.symm
theorem At.below {w w':World} {z:Nat} {T:TypeId} {rest:List Value} (h:At w z T rest) {B:Nat} (k:Below B w w') (hB:z<B):At w' z T rest:=by
 obtain⟨x,y,h⟩:=h;exact⟨x,y,h.below k hB⟩
theorem Ob.hole {w w':World} {z g:Nat} {T T':TypeId} {s:Bool} {v:Nat} {rest rest':List Value} (h:Ob w g T s v rest) (hz:At w z T' rest') (hT:T'≠153) (hg:g≠z) (k:Hole z w w'):Ob w' g T s v rest:=by
 obtain⟨A,c,hb,hc,ho⟩:=h
 obtain⟨x,y,hz⟩:=hz
 exact⟨A,c,k.blk hb hg,hc,own_hole ho hz hT k⟩
theorem Ob.below {w w':World} {g:Nat} {T:TypeId} {s:Bool} {v:Nat} {rest:List Value} (h:Ob w g T s v rest) (k:Below w.heap.size w w'):Ob w' g T s v rest:=by
 obtain⟨A,c,hb,hc,ho⟩:=h
 exact⟨A,c,hb.below k hb.lt,hc,ho.below k nrf⟩
theorem At.drew {w:World} {g:Nat} {T:TypeId} {rest:List Value} (h:At w g T rest):At w.drew g T rest:=h
theorem blk_set0 {w:World} {z:Nat} {T:TypeId} {x y:Value} {rest:List Value} (h:Blk w z T (x :: y :: rest).toArray) (u:Value):Blk (w.setCell ⟨z,0,none⟩ u) z T (u :: y :: rest).toArray:=by
 have:=h.set_ 0 u;simpa using this
theorem blk_set1 {w:World} {z:Nat} {T:TypeId} {x y:Value} {rest:List Value} (h:Blk w z T (x :: y :: rest).toArray) (u:Value):Blk (w.setCell ⟨z,1,none⟩ u) z T (x :: u :: rest).toArray:=by
 have:=h.set_ 1 u;simpa using this
def Sets (w:World) (z:Nat) (T:TypeId) (rest:List Value) (s:Bool) (v:Nat) (e:Ending) (w':World):Prop:=
 e=.returned (.pointer (some ⟨z,0,none⟩))∧Hole z w w'∧Ob w' z T s v rest
theorem int_set (z:Nat) (T:TypeId) (rest:List Value) (hT:T≠153) (s:Bool) (A:Option Addr) (l:List Nat) (n c:Nat) (hn:n=l.length) (hc:n≤c) (w:World) (hz:At w z T rest) (h:Own w 153 0 A c l):
 Calls Tryz.prog 94 #[.pointer (some ⟨z,0,none⟩),.bool s,.slice A n c] w (Sets w z T rest (s&&decide (val l≠0)) (val l)):=by
 subst hn
 obtain⟨x,y,hz⟩:=hz
 have c0:=hz.cell 0
 have c1:=hz.cell 1
 have f0:=hz.frozen 0
 have f1:=hz.frozen 1
 simp at c0 c1
 have h1:=blk_set1 hz (.slice A (limbs (val l)).length c)
 have c11:=h1.cell 1
 simp at c11
 have hh:Hole z w (w.setCell ⟨z,1,none⟩ (.slice A (limbs (val l)).length c)):=(Hole.refl z w).setCell rfl _
 have ho:=own_hole h.trim hz hT hh
 have hle:(limbs (val l)).length≤c:=Nat.le_trans (limbs_length_le h.sm) hc
 have hcond:∀b:Bool,(b&&decide (0<(limbs (val l)).length))=(b&&decide (val l≠0)):=by
  intro b
  congr 1
  rw[decide_eq_decide,List.length_pos_iff,ne_eq,limbs_eq_nil]
 cases s
 · go_enter Tryz.func94,Tryz.ntmps94
   go_wp2_with fail
   refine(big_trim A l _ c rfl hc _ h.rd).mono ?_
   rintro e w1 ⟨rfl,rfl⟩
   go_wp2
   go_ret
   have h0:=blk_set0 h1 (.bool false)
   exact⟨rfl,hh.setCell rfl _,_,_,h0,hle,own_hole ho h1 hT ((Hole.refl z _).setCell rfl _)⟩
 · go_enter Tryz.func94,Tryz.ntmps94
   go_wp2_with fail
   refine(big_trim A l _ c rfl hc _ h.rd).mono ?_
   rintro e w1 ⟨rfl,rfl⟩
   go_wp2
   go_ret
   refine⟨rfl,hh.setCell rfl _,_,_,?_,hle,own_hole ho h1 hT ((Hole.refl z _).setCell rfl _)⟩
   have hc1:(true&&decide (val l≠0))=!decide (val l=0):=by simp
   rw[hc1]
   exact blk_set0 h1 _
end Bg
namespace Bg
def Makes (w:World) (T:TypeId) (rest:List Value) (s:Bool) (v:Nat) (e:Ending) (w':World):Prop:=
 ∃z,e=.returned (.pointer (some ⟨z,0,none⟩))∧w.heap.size≤z∧Ob w' z T s v rest∧Below w.heap.size w w'
theorem Ob.cells {w:World} {z:Nat} {T:TypeId} {s:Bool} {v:Nat} {rest:List Value} (h:Ob w z T s v rest):∃A c,w.cell? ⟨z,0,none⟩=some (.bool s)∧w.cell? ⟨z,1,none⟩=some (.slice A (limbs v).length c)∧(limbs v).length≤c∧Own w 153 0 A c (limbs v):=by
 obtain⟨A,c,hb,hc,ho⟩:=h
 have c0:=hb.cell 0
 have c1:=hb.cell 1
 simp at c0 c1
 exact⟨A,c,c0,c1,hc,ho⟩
theorem at_of_below {w w':World} {z:Nat} {T:TypeId} {rest:List Value} (h:At w z T rest) (k:Below w.heap.size w w'):At w' z T rest:=h.below k h.lt
theorem hole_of {w w1 w2:World} {z:Nat} (h1:Below w.heap.size w w1) (h2:Hole z w1 w2):Hole z w w2:=(Hole.of_below z h1).trans h2
theorem hole_fresh {w w1 w2:World} {z:Nat} (h1:Below w.heap.size w w1) (h2:Hole z w1 w2) (hz:w.heap.size≤z):Below w.heap.size w w2:=Hole.below h1 h2 hz h1.size
theorem nofalse {b:Bool}:(false&&b)=false:=rfl
theorem int_SetUint64 (z:Nat) (T:TypeId) (rest:List Value) (hT:T≠153) (x:Nat) (hx:x<18446744073709551616) (w:World) (hz:At w z T rest):
 Calls Tryz.prog 46 #[.pointer (some ⟨z,0,none⟩),.int .u64 (x:Int)] w (Sets w z T rest false x):=by
 go_enter Tryz.func46,Tryz.ntmps46
 go_wp2_with fail
 refine(big_fromUint x hx _).mono ?_
 rintro e w1 ⟨A,c,rfl,hc,ho,hb⟩
 go_wp2_with fail
 refine(int_set z T rest hT false A (limbs x) _ c rfl hc _ (at_of_below hz hb) (ho.mono (Nat.zero_le _))).mono ?_
 rintro e w2 ⟨rfl,hh,hob⟩
 rw[val_limbs] at hob
 go_wp2
 go_ret
 exact⟨rfl,hole_of hb hh,by simpa using hob⟩
theorem int_SetInt64 (z:Nat) (T:TypeId) (rest:List Value) (hT:T≠153) (x:Nat) (hx:x<9223372036854775808) (w:World) (hz:At w z T rest):
 Calls Tryz.prog 111 #[.pointer (some ⟨z,0,none⟩),.int .i64 (x:Int)] w (Sets w z T rest false x):=by
 go_enter Tryz.func111,Tryz.ntmps111
 go_wp2_with fail
 refine(big_fromUint x (by omega) _).mono ?_
 rintro e w1 ⟨A,c,rfl,hc,ho,hb⟩
 go_wp2_with fail
 refine(int_set z T rest hT false A (limbs x) _ c rfl hc _ (at_of_below hz hb) (ho.mono (Nat.zero_le _))).mono ?_
 rintro e w2 ⟨rfl,hh,hob⟩
 rw[val_limbs] at hob
 go_wp2
 go_ret
 exact⟨rfl,hole_of hb hh,by simpa using hob⟩
theorem big_NewInt (x:Nat) (hx:x<9223372036854775808) (w:World):
 Calls Tryz.prog 57 #[.int .i64 (x:Int)] w (Makes w 95 [] false x):=by
 go_enter Tryz.func57,Tryz.ntmps57
 go_wp2_with fail
 have hal:Below w.heap.size w (w.alloc (.cells #[.bool false,.slice none 0 0] 95)):=(Below.refl _ _).alloc nrf _
 have hat:At (w.alloc (.cells #[.bool false,.slice none 0 0] 95)) w.heap.size 95 []:=⟨_,_,Blk.new w _ _⟩
 refine(int_SetInt64 w.heap.size _ [] (by decide) x hx _ hat).mono ?_
 rintro e w2 ⟨rfl,hh,hob⟩
 go_wp2
 go_ret
 exact⟨_,rfl,Nat.le_refl _,hob,hole_fresh hal hh nrf⟩
theorem int_Set (z x:Nat) (T TX:TypeId) (rest restx:List Value) (hT:T≠153) (v:Nat) (w:World) (hz:At w z T rest) (hx:Ob w x TX false v restx):
 Calls Tryz.prog 55 #[.pointer (some ⟨z,0,none⟩),.pointer (some ⟨x,0,none⟩)] w (Sets w z T rest false v):=by
 obtain⟨A,c,c0,c1,hc,ho⟩:=hx.cells
 go_enter Tryz.func55,Tryz.ntmps55
 go_wp2_with fail
 go_region_with
  (first
   |(go_at_call 109;(with_reducible refine(big_copied A (limbs v) _ c rfl _ ho.rd.drew).mono ?_);rintro e w1 ⟨g,rfl,hg,hrow,hb⟩;have hb2:Below w.heap.size w w1:=(Below.refl w.heap.size w).drew.trans hb;have d0:=cell_keep hb2 c0;have d1:=cell_keep hb2 c1)
   |(go_at_call 94;(with_reducible refine(int_set z T rest hT false (some ⟨g,0,none⟩) (limbs v) _ _ rfl nrf _ (at_of_below hz hb2) (by have:=hrow.own (sm_limbs v) ho.rd.len (Nat.zero_le _) (limbs v).length nrf nrf;rw[List.take_length] at this;exact this)).mono ?_);rintro e w2 ⟨rfl,hh,hob⟩))
 all_goals (
  rw[val_limbs] at hob
  go_wp2
  go_ret
  exact⟨rfl,hole_of hb2 hh,by simpa using hob⟩)
end Bg
end Go.Proofs.YtenekbfnlbipiaaGreatDoor
namespace Go.Proofs.YtenekbfnlbipiaaGreatDoor
open Go.RowKit
set_option linter.unusedVariables false
set_option linter.unusedSimpArgs false
namespace Bg
section
variable {P:Program} {ops:Array Oper} {Q:Exit→Act→World→Prop} {md:Region.Mode} {S:World→Prop} {L:Nat}
def Until (P:Program) (md:Region.Mode) (ops:Array Oper) (Q:Exit→Act→World→Prop) (S:World→Prop) (L:Nat):Nat→Array Bool→Act→World→Prop
 |0,d,a,w=>Region.ready md ops d=[]∧Q .normal a w
 |n+1,d,a,w=>(Region.ready md ops d=[]→Q .normal a w)∧∀i ∈ Region.ready md ops d,wpOp P ops Q i (fun a' w'=>((d.setIfInBounds i true).getD L false=true∨S w')∧Until P md ops Q S L n (d.setIfInBounds i true) a' w') a w
theorem Until.any:∀(n:Nat) (d:Array Bool) (a:Act) (w:World),Until P md ops Q S L n d a w→wpAny P md ops Q n d a w
 |0,_,_,_,h=>h
 |n+1,d,_,_,h=>⟨h.1,fun i hi=>wpOp_mono (fun _ _ k=>Until.any n _ _ _ k.2) (h.2 i hi)⟩
def waitsAll (md:Region.Mode) (ops:Array Oper) (d:Array Bool) (L i:Nat) (D:List Nat):Bool:=
 D.contains i&&D.contains L&&!(i==L)&&D.all (fun j=>!(d.getD j true))&&D.all (fun j=>j==i||(match ops[j]? with|some o=>o.after.any (fun e=>Region.binds md e&&D.contains e.on)|none=>false))
def waiting (md:Region.Mode) (ops:Array Oper) (i:Nat):List Nat:=
 (List.range ops.size).foldl (fun D j=>match ops[j]? with|some o=>if i<j&&o.after.any (fun e=>Region.binds md e&&D.contains e.on) then j :: D else D|none=>D) [i]
theorem Until.first {i:Nat} {oi:Oper} {v:Value} {D:List Nat} (hi:ops[i]?=some oi) (hsel:∀(j:Nat) (o:Oper) cs b,ops[j]?=some o→o.op≠ .select cs b)
 (hQ:∀c a w,Q (.panic c) (a.put oi.dst v) w→Q (.panic c) a w) (hDL:L ∈ D) (hiL:i≠L)
 (hDw:∀j ∈ D,j≠i→∃o,ops[j]?=some o∧∃e ∈ o.after,Region.binds md e=true∧e.on ∈ D):
 ∀(n:Nat) (d:Array Bool) (a:Act) (w:World),
  (∀j oj,ops[j]?=some oj→j≠i→d.getD j true=false→(∀e ∈ oj.after,Region.binds md e=true→e.on≠i)→oi.apart ops oj=true)→
  (∀j ∈ D,d.getD j true=false)→i ∈ Region.ready md ops d→YieldsIf P ops S oi v a→S w→
  Until P md ops Q S L n (d.setIfInBounds i true) (a.put oi.dst v) w→Until P md ops Q S L (n+1) d a w:=by
 intro n
 induction n with
 |zero=>
  intro d a w _ _ hr hy hS H
  refine⟨fun h0=>by(rw[h0] at hr;cases hr),fun j hj=>?_⟩
  by_cases e:j=i
  · subst e;exact hy.wpOp hi hS ⟨.inr hS,H⟩
  · have h1:=ready_mono hj e
    rw[H.1] at h1
    cases h1
 |succ n ih=>
  intro d a w hfree hDd hr hy hS H
  refine⟨fun h0=>by(rw[h0] at hr;cases hr),fun j hj=>?_⟩
  by_cases e:j=i
  · subst e;exact hy.wpOp hi hS ⟨.inr hS,H⟩
  · obtain⟨hju,oj,hoj,hall⟩:=mem_ready.1 hj
    have hlt:∀k,d.getD k false=true→d.getD k true=true:=fun k hk=>by
     rcases Nat.lt_or_ge k d.size with h|h
     · simp[h] at hk ⊢;exact hk
     · simp[Array.getElem?_eq_none h] at hk
    have hjD:j ∉ D:=fun hm=>by
     obtain⟨o,ho,x,hx,hb,hxD⟩:=hDw j hm e
     rw[hoj] at ho
     cases ho
     have h1:=hlt _ (hall x hx hb)
     rw[hDd _ hxD] at h1
     cases h1
    have hjL:j≠L:=fun h=>hjD (h ▸ hDL)
    have hnot:∀x ∈ oj.after,Region.binds md x=true→x.on≠i:=fun x hx hb h=>by
     have h1:=hlt _ (hall x hx hb)
     rw[h,(mem_ready.1 hr).1] at h1
     cases h1
    have h2:=wpOp_putIf hoj (hfree j oj hoj e hju hnot) (fun cs b=>hsel i oi cs b hi) (fun cs b=>hsel j oj cs b hoj) hQ hy (H.2 j (ready_mono hj e))
    refine wpOp_mono (fun a' w' k=>?_) h2
    have hS':S w':=k.2.1.resolve_left (fun h=>by
     rw[getD_set_ne false hjL,getD_set_ne false hiL] at h
     have h1:=hlt _ h
     rw[hDd _ hDL] at h1
     cases h1)
    refine⟨.inr hS',ih (d.setIfInBounds j true) a' w' (fun m om hm hmi hu hno=>?_) (fun m hm=>?_) (ready_mono hr (Ne.symm e)) k.1 hS' ?_⟩
    · refine hfree m om hm hmi ?_ hno
      by_cases hjm:j=m
      · subst hjm;exact hju
      · rw[getD_set_ne true hjm] at hu;exact hu
    · rw[getD_set_ne true (show j≠m by rintro rfl;exact hjD hm)];exact hDd m hm
    · rw[Array.setIfInBounds_comm _ _ e];exact k.2.2
theorem Until.take {n i:Nat} {oi:Oper} {v:Value} {d:Array Bool} {a:Act} {w:World} (hi:ops[i]?=some oi)
 (hs:Region.noSelect ops=true) (hf:Region.free md ops d i=true) (hr:(Region.ready md ops d).contains i=true) (hD:waitsAll md ops d L i (waiting md ops i)=true)
 (hQ:∀c a w,Q (.panic c) (a.put oi.dst v) w→Q (.panic c) a w) (hS:S w) (hy:YieldsIf P ops S oi v a)
 (h:Until P md ops Q S L n (d.setIfInBounds i true) (a.put oi.dst v) w):Until P md ops Q S L (n+1) d a w:=by
 unfold waitsAll at hD
 simp only[Bool.and_eq_true,List.all_eq_true,List.contains_iff_mem,Bool.not_eq_true',beq_eq_false_iff_ne,Bool.or_eq_true,beq_iff_eq] at hD
 obtain⟨⟨⟨⟨_,hL⟩,hiL⟩,hu⟩,hw⟩:=hD
 refine Until.first (D:=waiting md ops i) hi (Region.noSelect_spec hs) hQ hL hiL (fun j hj hne=>?_) n d a w (Region.free_spec hi hf) hu (by simpa using hr) hy hS h
 have h1:=(hw j hj).resolve_left hne
 cases ho:ops[j]? with
 |none=>rw[ho] at h1;cases h1
 |some o=>
  rw[ho] at h1
  simp only[Array.any_eq_true] at h1
  obtain⟨k,hk,h1⟩:=h1
  simp only[Bool.and_eq_true,List.contains_iff_mem] at h1
  exact⟨o,rfl,o.after[k],Array.getElem_mem hk,h1.1,h1.2⟩
theorem Until.tk {n i:Nat} {oi:Oper} {v:Value} {d:Array Bool} {a:Act} {w:World} (hi:ops[i]?=some oi) (hS:S w) (hy:YieldsIf P ops S oi v a)
 (h:Until P md ops Q S L n (d.setIfInBounds i true) (a.put oi.dst v) w)
 (hs:Region.noSelect ops=true:=by kernel_rfl) (hf:Region.free md ops d i=true:=by kernel_rfl) (hr:(Region.ready md ops d).contains i=true:=by kernel_rfl) (hD:waitsAll md ops d L i (waiting md ops i)=true:=by kernel_rfl)
 (hQ:∀c a w,Q (.panic c) (a.put oi.dst v) w→Q (.panic c) a w:=by exact fun _ _ _ h=>h):Until P md ops Q S L (n+1) d a w:=Until.take hi hs hf hr hD hQ hS hy h
theorem Until.one {n c:Nat} {o:Oper} {d:Array Bool} {a:Act} {w:World} (hr:Region.ready md ops d=[c]) (ho:ops[c]?=some o) (hw:Region.wanted o (yielded ops a.tmps)=true)
 (h:∀K:Act→World→Prop,Hid (∀a' w',((d.setIfInBounds c true).getD L false=true∨S w')→Until P md ops Q S L n (d.setIfInBounds c true) a' w'→K a' w')→Oper.wp P o a w K Q):Until P md ops Q S L (n+1) d a w:=by
 refine⟨fun h0=>by(rw[h0] at hr;cases hr),fun i hi=>?_⟩
 rw[hr] at hi
 obtain rfl:i=c:=by simpa using hi
 unfold wpOp
 simp only[ho,hw,if_true]
 exact .inl (h _ (fun a' w' h1 h2=>⟨h1,h2⟩))
theorem Until.done {d:Array Bool} {a:Act} {w:World} (hr:Region.ready md ops d=[]) (h:Q .normal a w):∀n,Until P md ops Q S L n d a w
 |0=>⟨hr,h⟩
 |_+1=>⟨fun _=>h,by rw[hr];simp⟩
theorem region_until {id:Nat} {a:Act} {w:World} (L:Nat) (S:World→Prop) (hm:P.follows .mixedOrders=true) (h:Until P .any ops Q S L ops.size (Array.replicate ops.size false) a w.drew):(Code.region id ops true).wp P Q a w:=
 wp_region_any hm (Until.any _ _ _ _ h)
end
end Bg
end Go.Proofs.YtenekbfnlbipiaaGreatDoor
