/- Walk: a decimal is made of a number's digits. -/
import Derived.Test.YtenekbfnlbipiaaGreatDoorSuO
import Derived.Test.YtenekbfnlbipiaaGreatDoorBgAN
import Derived.Test.YtenekbfnlbipiaaGreatDoorBgAB
import Derived.Test.YtenekbfnlbipiaaGreatDoorBgA
namespace Go.Proofs.YtenekbfnlbipiaaGreatDoor
open Go.RowKit
set_option linter.unusedVariables false
set_option linter.unusedSimpArgs false
set_option maxHeartbeats 4000000
set_option maxRecDepth 100000

theorem dec_far (n:Int) (h1: -1073741824≤n) (h2:n≤1073741824) (w:World):Calls Tryz.prog 89 #[.int .i64 n] w fun e w'=>e=.returned (.bool false)∧w=w':=by
 have g1:decide (n< -1073741824)=false:=by simp;omega
 have g2:decide (1073741824<n)=false:=by simp;omega
 go_enter Tryz.func89,Tryz.ntmps89
 go_wp2
 go_ret
 exact⟨rfl,rfl⟩
theorem dec_digits (l:List UInt8) (hl:l.length≤65536) (hd:∀i (h:i<l.length),48≤l[i].toNat∧l[i].toNat≤57) (w:World):
 Calls Tryz.prog 86 #[.string ⟨l.toArray⟩] w (Says w (.bool true)):=by
 have hsz:(⟨l.toArray⟩:ByteArray).size=l.length:=by simp[ByteArray.size]
 go_enter Tryz.func86,Tryz.ntmps86
 go_wp2
 go_loopw [3,6] (fun v3 v6 wr=>∃k:Nat,k≤l.length∧v6=.int .i64 (k:Int)∧Below w.heap.size w wr) (fun _ v6 _=>l.length-(intOf v6).toNat)
 case atStart=>exact⟨0,Nat.zero_le _,rfl,Below.refl _ _⟩
 case round=>
  obtain⟨k,hk,rfl,hb⟩:=hrel
  by_cases hk1:k<l.length
  · have hx:=hd k hk1
    have hg:decide ((k:Int)<(l.length:Int))=true:=by simp;omega
    have hg2:decide ((9:Int)<((((⟨l.toArray⟩:ByteArray)[k]'(by rw[hsz];exact hk1)).toNat:Int)-48)%256)=false:=by
     have e:(⟨l.toArray⟩:ByteArray)[k]'(by rw[hsz];exact hk1)=l[k]:=rfl
     rw[e,decide_eq_false_iff_not];omega
    go_wp2
    go_roundw
    case rel=>exact⟨k+1,hk1,rfl,hb⟩
    case measure=>first|(simp[intOf];done)|(simp[intOf];omega)
  · obtain rfl:k=l.length:=by omega
    have hg:decide ((l.length:Int)<(l.length:Int))=false:=by simp
    go_wp2
    go_ret
    exact⟨rfl,hb⟩
def mkD (D:List UInt8) (x:Int):List UInt8 × Int:=
 if Lib.trimLeftB (Lib.trimRightB D 48) 48=[] then ([],0) else (Lib.trimLeftB (Lib.trimRightB D 48) 48,x+((D.length:Int)-((Lib.trimRightB D 48).length:Int)))
theorem dec_Make (ng:Bool) (l:List UInt8) (x:Int) (hl:l.length≤1000) (hx1: -10000≤x) (hx2:x≤10000) (hd:∀i (h:i<l.length),48≤l[i].toNat∧l[i].toNat≤57) (w:World):
 Calls Tryz.prog 41 #[.bool ng,.string ⟨l.toArray⟩,.int .i64 x] w (Says w (.tuple #[.agg #[.bool ng,.string ⟨(mkD l x).1.toArray⟩,.int .i64 (mkD l x).2],.int .i64 0])):=by
 have hsz:(⟨l.toArray⟩:ByteArray).size=l.length:=by simp[ByteArray.size]
 have hDg:=fun W=>dec_digits l (by omega) hd W
 have hRlen:(Lib.trimRightB l 48).length≤l.length:=by
  unfold Lib.trimRightB
  rw[List.length_reverse]
  have:=(List.dropWhile_sublist (· ==(48:UInt8)) (l:=l.reverse)).length_le
  rwa [List.length_reverse] at this
 have hR:∀W,Calls Tryz.prog 87 #[.string ⟨l.toArray⟩,.string ⟨#[48]⟩] W fun e w'=>e=.returned (.string ⟨(Lib.trimRightB l 48).toArray⟩)∧w'=W:=fun W=>Any.strings_TrimRight_one lays162 ⟨l.toArray⟩ 48 (by decide) W (by rw[hsz];omega)
 have hL:∀W,Calls Tryz.prog 88 #[.string ⟨(Lib.trimRightB l 48).toArray⟩,.string ⟨#[48]⟩] W fun e w'=>e=.returned (.string ⟨(Lib.trimLeftB (Lib.trimRightB l 48) 48).toArray⟩)∧w'=W:=fun W=>Any.strings_TrimLeft_one lays161 ⟨(Lib.trimRightB l 48).toArray⟩ 48 (by decide) W
 unfold mkD
 generalize Lib.trimRightB l 48=R at*
 generalize Lib.trimLeftB R 48=T at*
 have hszR:(⟨R.toArray⟩:ByteArray).size=R.length:=by simp[ByteArray.size]
 have hFar:=fun W=>dec_far (x+((l.length:Int)-(R.length:Int))) (by omega) (by omega) W
 have hg0:decide ((65536:Int)<(l.length:Int))=false:=by simp;omega
 clear hd
 by_cases hT:T=[]
 · subst hT
   rw[if_pos rfl]
   have hb0:Below w.heap.size w w:=Below.refl _ _
   go_enter Tryz.func41,Tryz.ntmps41
   go_wp2_with fail
   obtain⟨v1,E_,hv1,k1⟩:=Blk.a1 w 26 #[.bool false,.string ⟨#[]⟩,.int .i64 0]
   replace hb0:=hb0.trans (hv1.mono hb0.size)
   rw[E_]
   clear hv1 E_
   refine(hDg _).mono ?_
   rintro e w2 ⟨rfl,hb2⟩
   replace hb0:=hb0.trans (hb2.mono hb0.size)
   replace k1:=k1.below hb2 k1.lt
   clear hb2
   obtain⟨k1c0,k1c1,k1c2,k1z,k1f0,k1f1,k1f2⟩:=k1.b3
   go_wp2_with fail
   clear k1c0 k1f0 k1c1 k1f1 k1c2 k1f2 k1z
   refine(hR _).mono ?_
   rintro e w3 ⟨rfl,rfl⟩
   obtain⟨k1c0,k1c1,k1c2,k1z,k1f0,k1f1,k1f2⟩:=k1.b3
   go_wp2_with fail
   clear k1c0 k1f0 k1c1 k1f1 k1c2 k1f2 k1z
   refine(hL _).mono ?_
   rintro e w3 ⟨rfl,rfl⟩
   obtain⟨k1c0,k1c1,k1c2,k1z,k1f0,k1f1,k1f2⟩:=k1.b3
   go_wp2
   refine bodyPost_ret (v:=.tuple #[.agg #[.bool ng,.string ⟨#[]⟩,.int .i64 0],.int .i64 0]) ?_ rfl ⟨rfl,((hb0.setCell (p:=⟨w.heap.size,0,none⟩) nrf _).setCell (p:=⟨w.heap.size,1,none⟩) nrf _).setCell (p:=⟨w.heap.size,2,none⟩) nrf _⟩
   refine results_cell_tmp rfl _ _ w.heap.size _ _ _ _ _ ?_ ?_ (((k1.set_ 0 _).set_ 1 _).set_ 2 _) Tryz.underlying26 rfl (by kernel_rfl)
   · rfl
   · rfl
 · rw[if_neg hT]
   have hTs:T.isEmpty=false:=by cases T with|nil=>exact absurd rfl hT|cons _ _=>rfl
   have hx3:decide ((1073741824:Int)<x)=false:=by simp;omega
   have hx4:decide (x<(-2147483648:Int))=false:=by simp;omega
   clear hT
   have hb0:Below w.heap.size w w:=Below.refl _ _
   go_enter Tryz.func41,Tryz.ntmps41
   go_wp2_with fail
   obtain⟨v1,E_,hv1,k1⟩:=Blk.a1 w 26 #[.bool false,.string ⟨#[]⟩,.int .i64 0]
   replace hb0:=hb0.trans (hv1.mono hb0.size)
   rw[E_]
   clear hv1 E_
   refine(hDg _).mono ?_
   rintro e w2 ⟨rfl,hb2⟩
   replace hb0:=hb0.trans (hb2.mono hb0.size)
   replace k1:=k1.below hb2 k1.lt
   clear hb2
   obtain⟨k1c0,k1c1,k1c2,k1z,k1f0,k1f1,k1f2⟩:=k1.b3
   go_wp2_with fail
   clear k1c0 k1f0 k1c1 k1f1 k1c2 k1f2 k1z
   refine(hR _).mono ?_
   rintro e w3 ⟨rfl,rfl⟩
   obtain⟨k1c0,k1c1,k1c2,k1z,k1f0,k1f1,k1f2⟩:=k1.b3
   go_wp2_with fail
   clear k1c0 k1f0 k1c1 k1f1 k1c2 k1f2 k1z
   refine(hL _).mono ?_
   rintro e w3 ⟨rfl,rfl⟩
   obtain⟨k1c0,k1c1,k1c2,k1z,k1f0,k1f1,k1f2⟩:=k1.b3
   go_wp2_with fail
   refine(hFar _).mono ?_
   rintro e w4 ⟨rfl,rfl⟩
   go_wp2
   refine bodyPost_ret (v:=.tuple #[.agg #[.bool ng,.string ⟨T.toArray⟩,.int .i64 (x+((l.length:Int)-(R.length:Int)))],.int .i64 0]) ?_ rfl ⟨rfl,((hb0.setCell (p:=⟨w.heap.size,0,none⟩) nrf _).setCell (p:=⟨w.heap.size,1,none⟩) nrf _).setCell (p:=⟨w.heap.size,2,none⟩) nrf _⟩
   refine results_cell_tmp rfl _ _ w.heap.size _ _ _ _ _ ?_ ?_ (((k1.set_ 0 _).set_ 1 _).set_ 2 _) Tryz.underlying26 rfl (by kernel_rfl)
   · rfl
   · rfl
namespace Bg
theorem digs_cons {n:Nat} (h:n≠0):digs n=n%10 :: digs (n/10):=by
 have hv:dval (n%10 :: digs (n/10))=n:=by
  show n%10+10*dval (digs (n/10))=n
  rw[dval_digs];omega
 have:=digs_of (l:=n%10 :: digs (n/10)) (Dg.cons (Nat.mod_lt _ (by decide)) (dg_digs _)) (.inr (by
  rw[hv,List.length_cons,Nat.add_sub_cancel]
  by_cases h1:n/10=0
  · rw[h1,digs_nil.2 rfl];simp;omega
  · have h2:=digs_low h1
    have hp:0<(digs (n/10)).length:=by
     rcases Nat.eq_zero_or_pos (digs (n/10)).length with h|h
     · exact absurd (digs_nil.1 (List.eq_nil_of_length_eq_zero h)) h1
     · exact h
    have e:10^(digs (n/10)).length=10^((digs (n/10)).length-1)*10:=by rw[←Nat.pow_succ];congr 1;omega
    rw[e];omega))
 rw[hv] at this
 exact this
theorem text_dec (u:Nat):(textL u).map UInt8.ofNat=Lib.decDigits u:=by
 induction u using Nat.strongRecOn with
 |ind u ih=>
  by_cases h0:u=0
  · subst h0;rw[Lib.decDigits_one (by decide)];rfl
  · by_cases h1:u<10
    · rw[Lib.decDigits_one h1,textL_pos h0,digs_cons h0,show u/10=0 by omega,digs_nil.2 rfl,show u%10=u by omega]
      rfl
    · have h2:u/10≠0:=by omega
      have:=ih (u/10) (by omega)
      rw[Lib.decDigits,dif_neg h1, ←this,textL_pos h0,textL_pos h2,digs_cons h0]
      simp
theorem bstr_text (u:Nat):bstr (textL u)=⟨(Lib.decDigits u).toArray⟩:=by unfold bstr;rw[text_dec]
theorem all48 {l:List UInt8} (h:∀j (hj:j<l.length),l[j]=48):∀a ∈ l,(a==(48:UInt8))=true:=by
 intro a ha
 obtain⟨j,hj,rfl⟩:=List.getElem_of_mem ha
 rw[h j hj];rfl
theorem mk_none {l:List UInt8} (h:∀j (hj:j<l.length),l[j]=48) (x:Int):mkD l x=([],0):=by
 unfold mkD Lib.trimLeftB Lib.trimRightB
 have h1:∀a ∈ l.reverse,(a==(48:UInt8))=true:=fun a ha=>all48 h a (List.mem_reverse.1 ha)
 have h2:l.reverse.dropWhile (· ==(48:UInt8))=[]:=by
  have:=List.dropWhile_append_of_pos (p:=(· ==(48:UInt8))) (l₂:=[]) h1
  simpa using this
 rw[h2]
 rfl
theorem mk_parts {l:List UInt8} {k t:Nat} (hk:k<t) (ht:t≤l.length) (h1:∀j (h:j<l.length),j<k→l[j]=48) (h2:l[k]'(by omega)≠48) (h3:l[t-1]'(by omega)≠48) (h4:∀j (h:j<l.length),t≤j→l[j]=48) (x:Int):
 mkD l x=((l.drop k).take (t-k),x+((l.length:Int)-(t:Int))):=by
 have hR:Lib.trimRightB l 48=l.take t:=by
  unfold Lib.trimRightB
  have e:l.reverse=(l.drop t).reverse++(l.take t).reverse:=by
   rw[←List.reverse_append,List.take_append_drop]
  have e2:(l.take t).reverse=l[t-1]'(by omega) :: (l.take (t-1)).reverse:=by
   have:l.take t=l.take (t-1)++[l[t-1]'(by omega)]:=by
    rw[List.take_append_getElem];congr 1;omega
   rw[this];simp
  rw[e,List.dropWhile_append_of_pos,e2,List.dropWhile_cons_of_neg (by simpa using h3), ←e2,List.reverse_reverse]
  intro a ha
  rw[List.mem_reverse] at ha
  obtain⟨j,hj,rfl⟩:=List.getElem_of_mem ha
  rw[List.getElem_drop,h4 _ _ (by omega)];rfl
 have hL:Lib.trimLeftB (l.take t) 48=(l.drop k).take (t-k):=by
  unfold Lib.trimLeftB
  have e:l.take t=l.take k++(l.drop k).take (t-k):=by
   rw[←List.take_add,show k+(t-k)=t by omega]
  have e2:(l.drop k).take (t-k)=l[k]'(by omega) :: (l.drop (k+1)).take (t-k-1):=by
   rw[List.drop_eq_getElem_cons (by omega),show t-k=(t-k-1)+1 by omega,List.take_succ_cons];rfl
  rw[e,List.dropWhile_append_of_pos,e2,List.dropWhile_cons_of_neg (by simpa using h2)]
  intro a ha
  obtain⟨j,hj,rfl⟩:=List.getElem_of_mem ha
  rw[List.length_take] at hj
  rw[List.getElem_take,h1 _ _ (by omega)];rfl
 unfold mkD
 rw[hR,hL,if_neg,List.length_take,Nat.min_eq_left ht]
 intro e
 have:=congrArg List.length e
 rw[List.length_take,List.length_drop,List.length_nil] at this
 omega
end Bg
namespace Bg
theorem int_Text (x:Nat) (T:TypeId) (rest:List Value) (v:Nat) (hl:(limbs v).length≤40) (w:World) (hx:Ob w x T false v rest):
 Calls Tryz.prog 117 #[.pointer (some ⟨x,0,none⟩),.int .i64 10] w (Says w (.string (bstr (textL v)))):=by
 obtain⟨A,c,c0,c1,hc,ho⟩:=hx.cells
 have hcan:limbs v=limbs (val (limbs v)):=by rw[val_limbs]
 have hT:=fun W hW=>big_tell A (limbs v) _ c rfl hl hcan W hW
 rw[val_limbs] at hT
 have HT:=Lib.hid hT
 clear hT hcan
 go_enter Tryz.func117,Tryz.ntmps117
 go_wp2_with fail
 refine(HT.out _ ho.rd).mono ?_
 rintro e w1 ⟨g,rfl,hg,hrow,hb⟩
 have d0:=cell_keep hb c0
 have hcv:=run_bytes w1 180 5 9 under_u8s under_u8 under_str g 0 (textL v).length (textL v).length (textL v) rfl (fun j hj=>by rw[Nat.zero_add];exact hrow.cell j hj)
 go_wp2
 go_ret
 exact⟨rfl,hb⟩
theorem int_String (x:Nat) (T:TypeId) (rest:List Value) (v:Nat) (hl:(limbs v).length≤40) (w:World) (hx:Ob w x T false v rest):
 Calls Tryz.prog 65 #[.pointer (some ⟨x,0,none⟩)] w (Says w (.string ⟨(Lib.decDigits v).toArray⟩)):=by
 have hT:=fun W hW=>int_Text x T rest v hl W hW
 rw[bstr_text] at hT
 go_enter Tryz.func65,Tryz.ntmps65
 go_wp2_with fail
 refine(hT _ hx).mono ?_
 rintro e w1 ⟨rfl,hb⟩
 go_wp2
 go_ret
 exact⟨rfl,hb⟩
theorem ref10_far (n:Int) (h1: -1073741824≤n) (h2:n≤1073741824) (w:World):Calls Tryz.prog 116 #[.int .i64 n] w fun e w'=>e=.returned (.bool false)∧w=w':=by
 have g1:decide (n< -1073741824)=false:=by simp;omega
 have g2:decide (1073741824<n)=false:=by simp;omega
 go_enter Tryz.func116,Tryz.ntmps116
 go_wp2
 go_ret
 exact⟨rfl,rfl⟩
theorem ref10_digits (l:List UInt8) (hl:l.length≤65536) (hd:∀i (h:i<l.length),48≤l[i].toNat∧l[i].toNat≤57) (w:World):
 Calls Tryz.prog 115 #[.string ⟨l.toArray⟩] w (Says w (.bool true)):=by
 have hsz:(⟨l.toArray⟩:ByteArray).size=l.length:=by simp[ByteArray.size]
 go_enter Tryz.func115,Tryz.ntmps115
 go_wp2
 go_loopw [3] (fun v3 wr=>∃k:Nat,k≤l.length∧v3=.int .i64 (k:Int)∧Below w.heap.size w wr) (fun v3 _=>l.length-(intOf v3).toNat)
 case atStart=>exact⟨0,Nat.zero_le _,rfl,Below.refl _ _⟩
 case round=>
  obtain⟨k,hk,rfl,hb⟩:=hrel
  by_cases hk1:k<l.length
  · have hx:=hd k hk1
    have hg:decide ((k:Int)<(l.length:Int))=true:=by simp;omega
    have e0:(⟨l.toArray⟩:ByteArray)[k]'(by rw[hsz];exact hk1)=l[k]:=rfl
    have hg2:decide ((((⟨l.toArray⟩:ByteArray)[k]'(by rw[hsz];exact hk1)).toNat:Int)<48)=false:=by
     rw[e0,decide_eq_false_iff_not];omega
    have hg3:decide ((57:Int)<(((⟨l.toArray⟩:ByteArray)[k]'(by rw[hsz];exact hk1)).toNat:Int))=false:=by
     rw[e0,decide_eq_false_iff_not];omega
    clear e0
    go_wp2
    go_roundw
    case rel=>exact⟨k+1,hk1,rfl,hb⟩
    case measure=>first|(simp[intOf];done)|(simp[intOf];omega)
  · obtain rfl:k=l.length:=by omega
    have hg:decide ((l.length:Int)<(l.length:Int))=false:=by simp
    go_wp2
    go_ret
    exact⟨rfl,hb⟩
end Bg
namespace Bg
theorem ref10_Make (ng:Bool) (l:List UInt8) (x:Int) (hl:l.length≤1000) (hx1: -10000≤x) (hx2:x≤10000) (hd:∀i (h:i<l.length),48≤l[i].toNat∧l[i].toNat≤57) (w:World):
 Calls Tryz.prog 64 #[.bool ng,.string ⟨l.toArray⟩,.int .i64 x] w (Says w (.tuple #[.agg #[.bool ng,.string ⟨(mkD l x).1.toArray⟩,.int .i64 (mkD l x).2],.int .i64 0])):=by
 have hsz:(⟨l.toArray⟩:ByteArray).size=l.length:=by simp[ByteArray.size]
 have hDg:=fun W=>ref10_digits l (by omega) hd W
 have hg0:decide ((65536:Int)<(l.length:Int))=false:=by simp;omega
 have hFar:=fun (n:Int) h1 h2 W=>ref10_far n h1 h2 W
 have hb0:Below w.heap.size w w:=Below.refl _ _
 have hmk:=mk_none (l:=l)
 have hmp:=fun k t h1 h2 h3 h4 h5 h6=>mk_parts (l:=l) (k:=k) (t:=t) h1 h2 h3 h4 h5 h6 x
 have HMK:=Lib.hid hmk
 have HMP:=Lib.hid hmp
 have HFAR:=Lib.hid hFar
 clear hd hmk hmp hFar
 obtain⟨MK,hMK⟩:∃MK,MK=mkD l x:=⟨_,rfl⟩
 rw[←hMK]
 have HMKE:=Lib.hid hMK
 clear hMK
 go_enter Tryz.func64,Tryz.ntmps64
 go_wp2_with fail
 obtain⟨v1,E_,hv1,k1⟩:=Blk.a1 w 26 #[.bool false,.string ⟨#[]⟩,.int .i64 0]
 replace hb0:=hb0.trans (hv1.mono hb0.size)
 rw[E_]
 clear hv1 E_
 refine(hDg _).mono ?_
 rintro e w2 ⟨rfl,hb2⟩
 replace hb0:=hb0.trans (hb2.mono hb0.size)
 replace k1:=k1.below hb2 k1.lt
 clear hb2 hDg
 go_wp2
 go_loopw [8] (fun v8 wr=>∃k:Nat,k≤l.length∧v8=.int .i64 (k:Int)∧(∀j (h:j<l.length),j<k→l[j]=48)∧Blk wr w.heap.size 26 #[.bool false,.string ⟨#[]⟩,.int .i64 0]∧Below w.heap.size w wr) (fun v8 _=>l.length-(intOf v8).toNat)
 case atStart=>exact⟨0,Nat.zero_le _,rfl,fun j h h2=>by omega,k1,hb0⟩
 case round=>
  clear k1 hb0
  obtain⟨k,hk,rfl,hz0,k1,hb0⟩:=hrel
  have HZ0:=Lib.hid hz0
  clear hz0
  by_cases hk1:k<l.length
  · have hg:decide ((k:Int)<(l.length:Int))=true:=by simp;omega
    by_cases hz:l[k]=48
    · have hg2:((((⟨l.toArray⟩:ByteArray)[k]'(by rw[hsz];exact hk1)).toNat:Int)==48)=true:=by
       have e0:(⟨l.toArray⟩:ByteArray)[k]'(by rw[hsz];exact hk1)=l[k]:=rfl
       rw[e0,hz];rfl
      have HZ1:Hid (∀j (h:j<l.length),j<k+1→l[j]=48):=fun j h h2=>by
       by_cases e:j=k
       · subst e;exact hz
       · exact HZ0.out j h (by omega)
      clear hz
      go_wp2
      go_roundw
      case rel=>exact⟨k+1,hk1,rfl,HZ1.out,k1,hb0⟩
      case measure=>first|(simp[intOf];done)|(simp[intOf];omega)
    · have hg2:((((⟨l.toArray⟩:ByteArray)[k]'(by rw[hsz];exact hk1)).toNat:Int)==48)=false:=by
       have e0:(⟨l.toArray⟩:ByteArray)[k]'(by rw[hsz];exact hk1)=l[k]:=rfl
       rw[e0,beq_eq_false_iff_ne]
       intro e
       apply hz
       apply UInt8.toNat_inj.1
       have:(48:UInt8).toNat=48:=rfl
       omega
      have HZK:=Lib.hid hz
      clear hz
      go_wp2
      go_loopw [9] (fun v9 wr=>∃t:Nat,k<t∧t≤l.length∧v9=.int .i64 (t:Int)∧(∀j (h:j<l.length),t≤j→l[j]=48)∧Blk wr w.heap.size 26 #[.bool false,.string ⟨#[]⟩,.int .i64 0]∧Below w.heap.size w wr) (fun v9 _=>(intOf v9).toNat)
      case atStart=>exact⟨l.length,hk1,Nat.le_refl _,rfl,fun j h h2=>by omega,k1,hb0⟩
      case round=>
       clear k1 hb0
       obtain⟨t,hkt,htl,rfl,ht0,k1,hb0⟩:=hrel
       have HT0:=Lib.hid ht0
       clear ht0
       obtain⟨t,rfl⟩:∃j,t=j+1:=⟨t-1,by omega⟩
       have htl':t<l.length:=by omega
       have hgt:decide ((k:Int)<((t+1:Nat):Int))=true:=by simp;omega
       by_cases hzt:l[t]=48
       · have hg3:((((⟨l.toArray⟩:ByteArray)[t]'(by rw[hsz];exact htl')).toNat:Int)==48)=true:=by
          have e0:(⟨l.toArray⟩:ByteArray)[t]'(by rw[hsz];exact htl')=l[t]:=rfl
          rw[e0,hzt];rfl
         have hkt2:k<t:=by
          have:k≠t:=by rintro rfl;exact HZK.out hzt
          omega
         have HT1:Hid (∀j (h:j<l.length),t≤j→l[j]=48):=fun j h h2=>by
          by_cases e:j=t
          · subst e;exact hzt
          · exact HT0.out j h (by omega)
         clear hzt
         go_wp2
         go_roundw
         case rel=>exact⟨t,hkt2,by omega,by go_num,HT1.out,k1,hb0⟩
         case measure=>first|(simp[intOf];done)|(simp[intOf];omega)
       · have hg3:((((⟨l.toArray⟩:ByteArray)[t]'(by rw[hsz];exact htl')).toNat:Int)==48)=false:=by
          have e0:(⟨l.toArray⟩:ByteArray)[t]'(by rw[hsz];exact htl')=l[t]:=rfl
          rw[e0,beq_eq_false_iff_ne]
          intro e
          apply hzt
          apply UInt8.toNat_inj.1
          have:(48:UInt8).toNat=48:=rfl
          omega
         have hm:=HMP.out k (t+1) hkt htl HZ0.out HZK.out hzt HT0.out
         have HM:=Lib.hid hm
         have hne:((k:Int)==((t+1:Nat):Int))=false:=by rw[beq_eq_false_iff_ne];omega
         have hne2:((k:Int)==(t:Int)+1)=false:=by rw[beq_eq_false_iff_ne];omega
         have hx3:decide ((1073741824:Int)<x)=false:=by simp;omega
         have hx4:decide (x<(-2147483648:Int))=false:=by simp;omega
         have hF:=fun W=>HFAR.out (x+(l.length:Int)-((t+1:Nat):Int)) (by omega) (by omega) W
         have hex:=ByteArray.extract_mk l k (t+1)
         have HEX:=Lib.hid hex
         clear hzt hm hex
         obtain⟨k1c0,k1c1,k1c2,k1z,k1f0,k1f1,k1f2⟩:=k1.b3
         go_wp2_with fail
         refine(hF _).mono ?_
         rintro e w4 ⟨rfl,rfl⟩
         go_wp2
         have e1:(⟨MK.1.toArray⟩:ByteArray)=(⟨l.toArray⟩:ByteArray).extract k (t+1):=by
          rw[HMKE.out,HM.out];exact HEX.out.symm
         have e2:MK.2=x+(l.length:Int)-((t:Int)+1):=by
          rw[HMKE.out,HM.out]
          show x+((l.length:Int)-((t+1:Nat):Int))=_
          omega
         rw[e1,e2]
         refine bodyPost_ret (v:=.tuple #[.agg #[.bool ng,.string ((⟨l.toArray⟩:ByteArray).extract k (t+1)),.int .i64 (x+(l.length:Int)-((t:Int)+1))],.int .i64 0]) ?_ rfl ⟨rfl,((hb0.setCell (p:=⟨w.heap.size,0,none⟩) nrf _).setCell (p:=⟨w.heap.size,1,none⟩) nrf _).setCell (p:=⟨w.heap.size,2,none⟩) nrf _⟩
         refine results_cell_tmp rfl _ _ w.heap.size _ _ _ _ _ ?_ ?_ (((k1.set_ 0 _).set_ 1 _).set_ 2 _) Tryz.underlying26 rfl (by kernel_rfl)
         · rfl
         · rfl
  · obtain rfl:k=l.length:=by omega
    have hg:decide ((l.length:Int)<(l.length:Int))=false:=by simp
    have hm:=HMK.out (fun j h=>HZ0.out j h h) x
    have HM:=Lib.hid hm
    clear hm
    go_wp2
    go_loopw [9] (fun v9 wr=>v9=.int .i64 (l.length:Int)∧Blk wr w.heap.size 26 #[.bool false,.string ⟨#[]⟩,.int .i64 0]∧Below w.heap.size w wr) (fun v9 _=>0)
    case atStart=>exact⟨rfl,k1,hb0⟩
    case round=>
     clear k1 hb0
     obtain⟨rfl,k1,hb0⟩:=hrel
     have hne:((l.length:Int)==(l.length:Int))=true:=by simp
     obtain⟨k1c0,k1c1,k1c2,k1z,k1f0,k1f1,k1f2⟩:=k1.b3
     go_wp2
     rw[HMKE.out,HM.out]
     refine bodyPost_ret (v:=.tuple #[.agg #[.bool ng,.string ⟨#[]⟩,.int .i64 0],.int .i64 0]) ?_ rfl ⟨rfl,((hb0.setCell (p:=⟨w.heap.size,0,none⟩) nrf _).setCell (p:=⟨w.heap.size,1,none⟩) nrf _).setCell (p:=⟨w.heap.size,2,none⟩) nrf _⟩
     refine results_cell_tmp rfl _ _ w.heap.size _ _ _ _ _ ?_ ?_ (((k1.set_ 0 _).set_ 1 _).set_ 2 _) Tryz.underlying26 rfl (by kernel_rfl)
     · rfl
     · rfl
end Bg

theorem TabU.below {w w':World} (h:TabU w) (hb:Below w.heap.size w w'):TabU w':=by
 unfold TabU Lib.TabIs World.var? at*
 cases hg:Tryz.prog.globalNamed "internal/strconv.uint64pow10" with
 |none=>simp[hg] at h
 |some g=>
  simp only[hg,Option.bind_some] at h ⊢
  have hlt:g<w.heap.size:=by
   rcases Nat.lt_or_ge g w.heap.size with h'|h'
   · exact h'
   · rw[Array.getElem?_eq_none h'] at h;simp at h
  rw[hb.block g hlt]
  exact h
theorem dec_bytes (u:Nat):∀b ∈ Lib.decDigits u,48≤b.toNat∧b.toNat≤57:=by
 induction u using Nat.strongRecOn with
 |_ u ih=>
  have hb:∀k,k<10→48≤(UInt8.ofNat (48+k)).toNat∧(UInt8.ofNat (48+k)).toNat≤57:=by decide
  rw[Lib.decDigits]
  by_cases h:u<10
  · rw[dif_pos h]
    intro b hm
    rw[List.mem_singleton] at hm
    subst hm
    exact hb u h
  · rw[dif_neg h]
    intro b hm
    rw[List.mem_append,List.mem_singleton] at hm
    rcases hm with hm|rfl
    · exact ih (u/10) (by omega) b hm
    · exact hb _ (Nat.mod_lt _ (by decide))
theorem dec_len {u:Nat} (h:u<18446744073709551616):(Lib.decDigits u).length≤20:=by
 rw[Lib.decDigits_length]
 by_cases h1:u<10
 · rw[Lib.nDigits_small h1];omega
 · have:=Lib.numDigits_eq u (by omega) h;split at this <;> omega
theorem results_cell_tmp2 {P:Program} {fn:Func} {p q r:Tmp} {ty:TypeId} (h:fn.results=#[.cell p ty,.tmp q,.tmp r]) (tmps:Array Value) (w:World) (g:Nat) (t:TypeId) (cs:Array Value) (fr:Nat × Nat) (d:TypeDesc) (y z:Value)
 (hp:tmps.getD p undef=.pointer (some ⟨g,0,none⟩)) (hq:tmps.getD q undef=y) (hr:tmps.getD r undef=z) (hg:w.heap[g]?=some (.cells cs t fr))
 (hu:P.underlying ty=some d) (hd:(match d with| .struct _| .array _ _=>true|_=>false)=true) (hi:(P.info? ty).map (·.size)=some cs.size):
 (results fn tmps).run P w=.ok (.tuple #[.agg cs,y,z]) w:=by
 subst hq hr
 have hp':tmps[p]?.getD undef=.pointer (some ⟨g,0,none⟩):=by simpa using hp
 simp[results,h,hp',asAddr,run_loadVar_row w g t ty cs fr d hg hu hd hi]
theorem sure_decimal (ng st:Bool) (m u:Nat) (q x:Int) (hu:u<18446744073709551616) (hx1: -10000≤x) (hx2:x≤10000) (w:World) (hU:TabU w):
 Calls Tryz.prog 15 #[.agg #[.bool ng,.int .u64 (m:Int),.int .i64 q,.bool st],.int .u64 (u:Int),.int .i64 x] w (Says w (.tuple #[.agg #[.bool ng,.string ⟨(mkD (Lib.decDigits u) x).1.toArray⟩,.int .i64 (mkD (Lib.decDigits u) x).2],.bool true,.int .i64 0])):=by
 have hA:=fun (W:World) (hU:TabU W)=>fmt_uint u hu W hU
 have hB:=fun (W:World)=>dec_Make ng (Lib.decDigits u) x (by have:=dec_len hu;omega) hx1 hx2 (fun i h=>dec_bytes u _ (List.getElem_mem h)) W
 generalize Lib.decDigits u=D at hA hB ⊢
 generalize mkD D x=R at hB ⊢
 obtain⟨RL,RX⟩:=R
 simp only at hB ⊢
 have hb0:Below w.heap.size w w:=Below.refl _ _
 go_enter Tryz.func15,Tryz.ntmps15
 go_upto_region 1 with fail
 obtain⟨v1,E_,hv1,k1,k2⟩:=Blk.a2 w 37 #[.bool ng,.int .u64 (m:Int),.int .i64 q,.bool st] 26 #[.bool false,.string ⟨#[]⟩,.int .i64 0]
 replace hb0:=hb0.trans (hv1.mono hb0.size)
 replace hU:=hU.below hv1
 rw[E_]
 clear hv1 E_
 obtain⟨k1c0,k1c1,k1c2,k1c3,k1z,k1f0,k1f1,k1f2,k1f3⟩:=k1.b4
 obtain⟨k2c0,k2c1,k2c2,k2z,k2f0,k2f1,k2f2⟩:=k2.b3
 go_cut [9,10] (fun v9 v10 wx=>∃gp:Nat,v9=.pointer (some ⟨gp,0,none⟩)∧v10=.int .i64 0∧v1.heap.size≤gp∧Blk wx gp 26 #[.bool ng,.string ⟨RL.toArray⟩,.int .i64 RX]∧Below v1.heap.size v1 wx)
 case first=>
  have nz:v1.heap.size<(v1.drew.alloc (.cells #[.bool false,.string ⟨#[]⟩,.int .i64 0] 26)).heap.size:=by simp
  have kz:Blk (v1.drew.alloc (.cells #[.bool false,.string ⟨#[]⟩,.int .i64 0] 26)) v1.heap.size 26 #[.bool false,.string ⟨#[]⟩,.int .i64 0]:=Blk.new v1.drew _ _
  have bz:Below v1.heap.size v1 (v1.drew.alloc (.cells #[.bool false,.string ⟨#[]⟩,.int .i64 0] 26)):=(Below.drew (Below.refl _ _)).alloc nrf _
  have b0:Below v1.heap.size v1 v1.drew:=Below.drew (Below.refl _ _)
  go_region_held3 (fun w'=>w'.cell? ⟨w.heap.size,0,none⟩=some (.bool ng))
   (first|exact k1c0|exact cell_keep bz k1c0|exact e5|exact(World.cell?_alloc_lt _ _ _ z5).trans e5|exact e6|exact(World.cell?_alloc_lt _ _ _ z6).trans e6|exact set_keep (set_keep (set_keep e6 z5) z5) z5|exact set_keep (set_keep (set_keep e6 k1z) k1z) k1z|go_keep)
   (first
   |(go_at_call 42
     refine(hA _ (by first|exact hU.below b0|exact hU.below bz)).mono ?_
     rintro r w5 ⟨rfl,hb5⟩
     have hw5:Below v1.heap.size v1 w5:=by first|exact b0.trans hb5|exact bz.trans (hb5.mono (Nat.le_of_lt nz))
     have e5:=cell_keep hw5 k1c0
     have z5:=cell_lt e5
     have zz5:=hw5.size
     try (have kp5:Blk w5 v1.heap.size 26 #[.bool false,.string ⟨#[]⟩,.int .i64 0]:=kz.below hb5 nz))
   |(go_at_call 41
     refine(hB _).mono ?_
     rintro r w6 ⟨rfl,hb6⟩
     have hw6:Below w5.heap.size w5 w6:=by first|exact hb6|exact((Below.refl _ _).alloc nrf _).trans (hb6.mono (by simp))
     have e6:=cell_keep hw6 e5
     have z6:=cell_lt e6
     have hw06:=hw5.trans (hw6.mono zz5)
     first
      |(have kp6:Blk w6 v1.heap.size 26 #[.bool false,.string ⟨#[]⟩,.int .i64 0]:=kp5.below hw6 kp5.lt
        have p60:w6.cell? ⟨v1.heap.size,0,none⟩=some (.bool false):=kp6.cell 0
        have p61:w6.cell? ⟨v1.heap.size,1,none⟩=some (.string ⟨#[]⟩):=kp6.cell 1
        have p62:w6.cell? ⟨v1.heap.size,2,none⟩=some (.int .i64 0):=kp6.cell 2
        have p60f:=kp6.frozen 0
        have p61f:=kp6.frozen 1
        have p62f:=kp6.frozen 2
        have p6z:=kp6.lt)
      |(have kp6:Blk w6 w5.heap.size 26 #[.bool false,.string ⟨#[]⟩,.int .i64 0]:=(Blk.new w5 _ _).below hb6 (by simp)
        have p60:w6.cell? ⟨w5.heap.size,0,none⟩=some (.bool false):=kp6.cell 0
        have p61:w6.cell? ⟨w5.heap.size,1,none⟩=some (.string ⟨#[]⟩):=kp6.cell 1
        have p62:w6.cell? ⟨w5.heap.size,2,none⟩=some (.int .i64 0):=kp6.cell 2
        have p60f:=kp6.frozen 0
        have p61f:=kp6.frozen 1
        have p62f:=kp6.frozen 2
        have p6z:=kp6.lt)
      |skip)
   |fail)
  all_goals (go_wp2_with fail;go_meet)
  all_goals (first
   |exact⟨_,rfl,rfl,hw06.size,Blk.new _ _ _,hw06.alloc hw06.size _⟩
   |exact⟨_,rfl,rfl,zz5,((kp6.set_ 0 _).set_ 1 _).set_ 2 _,((hw06.setCell zz5 _).setCell zz5 _).setCell zz5 _⟩
   |exact⟨_,rfl,rfl,Nat.le_refl _,((kp6.set_ 0 _).set_ 1 _).set_ 2 _,((hw06.setCell nrf _).setCell nrf _).setCell nrf _⟩)
 case rest=>
  obtain⟨gp,rfl,rfl,hgp,k3,hbc⟩:=hcut
  clear k1c0 k1c1 k1c2 k1c3 k1f0 k1f1 k1f2 k1f3 k2c0 k2c1 k2c2 k2f0 k2f1 k2f2
  have hgp2:w.heap.size+1≠gp:=by omega
  clear k1z
  replace hb0:=hb0.trans (hbc.mono hb0.size)
  replace k2:=k2.below hbc k2.lt
  clear hbc k2z hgp
  obtain⟨k2c0,k2c1,k2c2,k2z,k2f0,k2f1,k2f2⟩:=k2.b3
  obtain⟨k3c0,k3c1,k3c2,k3z,k3f0,k3f1,k3f2⟩:=k3.b3
  go_wp2
  refine bodyPost_ret (v:=.tuple #[.agg #[.bool ng,.string ⟨RL.toArray⟩,.int .i64 RX],.bool true,.int .i64 0]) ?_ rfl ⟨rfl,(bel3 hb0 (w.heap.size+1) (by simp))⟩
  refine results_cell_tmp2 rfl _ _ (w.heap.size+1) _ _ _ _ _ _ ?_ ?_ ?_ (((k2.set_ 0 _).set_ 1 _).set_ 2 _) Tryz.underlying26 rfl (by kernel_rfl)
  · rfl
  · rfl
  · rfl

def p1:Nat:=8651
def p2:Nat:=12655

theorem limbs_len2 {n:Nat} (h:n<18446744073709551616):(limbs n).length≤2:=by
 rw[length_limbs_le];exact h
namespace Bg
theorem ref19_decimal (ng:Bool) (i:Nat) (T:TypeId) (rest:List Value) (v:Nat) (s:Int) (hv:v<18446744073709551616) (hs1: -10000≤s) (hs2:s≤10000) (w:World) (hi:Ob w i T false v rest):
 Calls Tryz.prog 24 #[.bool ng,.pointer (some ⟨i,0,none⟩),.int .i64 s] w (Says w (.agg #[.bool ng,.string ⟨(mkD (Lib.decDigits v) s).1.toArray⟩,.int .i64 (mkD (Lib.decDigits v) s).2])):=by
 have hA:=fun (W:World) hW=>int_String i T rest v (by have:=limbs_len2 hv;omega) W hW
 have hB:=fun (W:World)=>ref10_Make ng (Lib.decDigits v) s (by have:=dec_len hv;omega) hs1 hs2 (fun i h=>dec_bytes v _ (List.getElem_mem h)) W
 generalize Lib.decDigits v=D at hA hB ⊢
 generalize mkD D s=R at hB ⊢
 obtain⟨RL,RX⟩:=R
 simp only at hB ⊢
 have hv1:Below w.heap.size w (w.alloc (.cells #[.bool false,.string ⟨#[]⟩,.int .i64 0] 26)):=(Below.refl _ _).alloc nrf _
 have k1:Blk (w.alloc (.cells #[.bool false,.string ⟨#[]⟩,.int .i64 0] 26)) w.heap.size 26 #[.bool false,.string ⟨#[]⟩,.int .i64 0]:=Blk.new w _ _
 go_enter Tryz.func24,Tryz.ntmps24
 go_wp2_with fail
 refine(hA _ (hi.below hv1)).mono ?_
 rintro e w1 ⟨rfl,b1⟩
 have B1:=hv1.trans (b1.mono hv1.size)
 replace k1:=k1.below b1 k1.lt
 go_wp2_with fail
 refine(hB _).mono ?_
 rintro e w2 ⟨rfl,b2⟩
 have B2:=B1.trans (b2.mono B1.size)
 replace k1:=k1.below b2 k1.lt
 obtain⟨c0,c1,c2,kz,f0,f1,f2⟩:=k1.b3
 go_wp2
 refine bodyPost_ret (v:=.agg #[.bool ng,.string ⟨RL.toArray⟩,.int .i64 RX]) ?_ rfl ⟨rfl,(((B2.setCell (p:=⟨w.heap.size,0,none⟩) nrf _).setCell (p:=⟨w.heap.size,1,none⟩) nrf _).setCell (p:=⟨w.heap.size,2,none⟩) nrf _).alloc (by simp;omega) _⟩
 refine results_cell_row rfl _ _ w.heap.size _ _ _ _ ?_ ((((k1.set_ 0 _).set_ 1 _).set_ 2 _).alloc _) Tryz.underlying26 rfl (by kernel_rfl)
 rfl
end Bg
end Go.Proofs.YtenekbfnlbipiaaGreatDoor
