/- Walk of numeralbig: one digit of the long division. -/
import Derived.Test.YtenekbfnlbipiaaGreatDoorBgG
import Derived.Deep.CutBlock
import Derived.Deep.DeepCutAuto
import Derived.Deep.QuietTactic
import Derived.BigQuiet
import Derived.WalkMore
import Derived.Test.YtenekbfnlbipiaaGreatDoorBgD
import Derived.Deep.RegionHeld3
namespace Go.Proofs.YtenekbfnlbipiaaGreatDoor
open Go.RowKit
set_option linter.unusedVariables false
set_option linter.unusedSimpArgs false
set_option maxHeartbeats 4000000
set_option maxRecDepth 100000
namespace Bg

theorem big_figure (gx gy oy j n cu cv:Nat) (xs ys:List Nat) (Y:Nat) (h2:2≤n) (hn16:n≤1000000) (hjl:j+n<xs.length) (hxl16:xs.length≤1000000) (hxs:Sm xs) (hsys:Sm ys) (hyl:ys.length=n) (hY:val ys=Y) (hyt:2147483648≤nth ys (n-1)) (hxY:val xs<4294967296^(j+1)*Y) (hne:gy≠gx) (w:World)
 (hrow:Row w 153 gx xs) (hyc:∀i,i<n→w.cell? ⟨gy,oy+i,none⟩=some (.int .u32 ((nth ys i:Nat):Int))) (hcu:n+1≤cu) (hcv:n≤cv):
 Calls Tryz.prog 206 #[.slice (some ⟨gx,j,none⟩) ((n+1:Nat)) cu,.slice (some ⟨gy,oy,none⟩) n cv] w fun e w'=>∃(q:Nat) (x':List Nat),e=.returned (.int .u32 (q:Int))∧q<4294967296∧Sm x'∧x'.length=xs.length∧val x'+4294967296^j*(q*Y)=val xs∧val x'<4294967296^j*Y∧Row w' 153 gx x'∧Hole gx w w':=by
 obtain⟨K,hK⟩:∃K,xs.length=K+n+1:=⟨xs.length-n-1,by omega⟩
 have hjK:j≤K:=by omega
 obtain⟨D,hxz,hP1,hP2,hYn,hYN⟩:=dv_at hxs hK hjK h2 hsys hyl hY hyt hxY
 have HXL:=Lib.hid hK
 have HYL:=Lib.hid hyl
 have HYV:=Lib.hid hY
 have hytb:=hsys.nth (n-1)
 have hyc2:∀(wr:World),Hole gx w wr→∀i,i<n→wr.cell? ⟨gy,oy+i,none⟩=some (.int .u32 ((nth ys i:Nat):Int)):=fun wr hh i hi=>hh.keep (hyc i hi) hne
 have HYC:=Lib.hid hyc2
 have hK16:K≤1000000:=by omega
 have hh0:=Hole.refl gx w
 have hyn1:=hyc (n-1) (by omega)
 have hyn2:=hyc (n-2) (by omega)
 have hxn:=hrow.cell (j+n) (by omega)
 have hxn1:=hrow.cell (j+(n-1)) (by omega)
 have hxn2:=hrow.cell (j+(n-2)) (by omega)
 have bx0:=hxs.nth (j+n)
 have bx1:=hxs.nth (j+(n-1))
 have bx2:=hxs.nth (j+(n-2))
 have by2:=hsys.nth (n-2)
 have hor:=low_or (nth xs (j+n)) (nth xs (j+(n-1))) bx1 bx0
 obtain⟨T,hT⟩:∃T,T=nth xs (j+n)*4294967296+nth xs (j+(n-1)):=⟨_,rfl⟩
 rw[←hT] at hor D
 obtain⟨P,hP⟩:∃P,P=val (xs.drop j):=⟨_,rfl⟩
 rw[←hP] at D hP1 hP2
 obtain⟨hg1,hg2,hg3,hg4⟩:=D.start
 obtain⟨g0,hg0⟩:∃g0,g0=T/nth ys (n-1):=⟨_,rfl⟩
 obtain⟨r0,hr0⟩:∃r0,r0=T%nth ys (n-1):=⟨_,rfl⟩
 rw[←hg0] at hg1 hg2 hg4
 rw[←hr0] at hg1 hg3
 have q1:(T:Int).tdiv ((nth ys (n-1):Nat):Int)=(g0:Int):=by rw[hg0];rfl
 have q2:(T:Int).tmod ((nth ys (n-1):Nat):Int)=(r0:Int):=by rw[hr0];rfl
 have q3:(T:Int)/((nth ys (n-1):Nat):Int)=(g0:Int):=by rw[hg0];rfl
 have q4:(T:Int)%((nth ys (n-1):Nat):Int)=(r0:Int):=by rw[hr0];rfl
 have q5:¬nth ys (n-1)=0:=by omega
 have q6:((nth ys (n-1):Nat):Int)≠0:=by omega
 have q7:T<18446744073709551616:=by omega
 have i1:(0:Int)≤(n:Int)-1:=by omega
 have i2:(n:Int)-1<(n:Int):=by omega
 have i3:(0:Int)≤(n:Int)-2:=by omega
 have i4:(n:Int)-2<(n:Int):=by omega
 have i5:(n:Int)<((n+1:Nat):Int):=by omega
 have i6:(n:Int)-1<((n+1:Nat):Int):=by omega
 have i7:(n:Int)-2<((n+1:Nat):Int):=by omega
 have n1:((n:Int)-1).toNat=n-1:=by omega
 have n2:((n:Int)-2).toNat=n-2:=by omega
 have HD:=Lib.hid D
 have HXZ:=Lib.hid hxz
 have HP1:=Lib.hid hP1
 have HP2:=Lib.hid hP2
 have HYN:=Lib.hid hYN
 have HYn:=Lib.hid hYn
 have HG1:=Lib.hid hg1
 have HG2:=Lib.hid hg2
 clear D hxz hP1 hP2 hYN hYn hg1 hg2 hP hg0 hr0 hT hxY hK hyl hY hyc hyc2 hxl16 hjl
 go_enter Tryz.func206,Tryz.ntmps206
 go_upto_region 3 with fail
 go_wp2_with fail
 go_quiet (fail)
 go_upto_block 0 with fail
 go_cut [8,9] (fun v8 v9 wx=>∃g r:Nat,v8=.int .u64 (g:Int)∧v9=.int .u64 (r:Int)∧g<4294967296∧P<(g+1)*Y∧(0<g→(g-1)*Y≤P)∧Row wx 153 gx xs∧Hole gx w wx)
 case first=>
  go_wp2_with fail
  go_loopw [8,9] (fun v8 v9 wr=>∃g r:Nat,v8=.int .u64 (g:Int)∧v9=.int .u64 (r:Int)∧g*nth ys (n-1)+r=T∧P<(g+1)*Y∧r<4294967296∧g<8589934592∧Row wr 153 gx xs∧Hole gx w wr) (fun v _ _=>(intOf v).toNat)
  case atStart=>exact⟨g0,r0,rfl,rfl,HG1.out,HG2.out,hg3,hg4,hrow.drewN _,hh0.drewN _⟩
  case round=>
   clear hxn hxn1 hxn2 hyn1 hyn2 hrow hh0 hor
   obtain⟨g,r,rfl,rfl,hd1,hd2,hd3,hd4,hrowr,hhr⟩:=hrel
   have hyn1:=HYC.out _ hhr (n-1) (by omega)
   have hyn2:=HYC.out _ hhr (n-2) (by omega)
   have hxn2:=hrowr.cell (j+(n-2)) (by rw[HXL.out];omega)
   have H1:=Lib.hid hd1
   have H2:=Lib.hid hd2
   have HDg:=HD
   clear hd1 hd2 HD q1 q2 q3 q4
   by_cases hgb:4294967296≤g
   · have t1:decide ((4294967296:Int)≤(g:Int))=true:=by simp;omega
     have HM1:Hid (4294967296≤g∨r*4294967296+nth xs (j+(n-2))<g*nth ys (n-2)):=Or.inl hgb
     have less:=HDg.out.less H1.out HM1.out
     obtain⟨g1,hg1⟩:∃g1,g1=g-1:=⟨_,rfl⟩
     rw[←hg1] at less
     have e6:(g:Int)-1=(g1:Int):=by have:=less.2.2;omega
     have hg1b:g1<8589934592:=by omega
     obtain⟨r2,hr2⟩:∃r2,r2=r+nth ys (n-1):=⟨_,rfl⟩
     have e5:(r:Int)+((nth ys (n-1):Nat):Int)=(r2:Int):=by omega
     rw[←hr2] at less
     have hr33:r2<8589934592:=by omega
     have hmea:g1<g:=by have:=less.2.2;omega
     have HMEA:=Lib.hid hmea
     have L1:=Lib.hid less.1
     have L2:=Lib.hid less.2.1
     clear less hr2 hg1 hmea
     by_cases hbr:4294967296≤r2
     · have t5:decide ((4294967296:Int)≤(r2:Int))=true:=by simp;omega
       have bk:=HDg.out.broke L1.out hbr
       have BK1:=bk.1
       have BK2:=Lib.hid bk.2
       clear bk
       go_wp2_with fail
       go_quiet (fail)
       go_wp2_with fail
       go_meet
       exact⟨g1,r2,rfl,rfl,BK1,L2.out,BK2.out,hrowr.drewN _,hhr.drewN _⟩
     · have t5:decide ((4294967296:Int)≤(r2:Int))=false:=by simp;omega
       go_wp2_with fail
       go_quiet (fail)
       go_wp2_with fail
       go_roundw
       case rel=>exact⟨g1,r2,rfl,rfl,L1.out,L2.out,by omega,by omega,hrowr.drewN _,hhr.drewN _⟩
       case measure=>have:=HMEA.out;first|(simp[intOf];done)|(simp[intOf];omega)
   · have t1:decide ((4294967296:Int)≤(g:Int))=false:=by simp;omega
     obtain⟨G2,hG2⟩:∃G2,G2=g*nth ys (n-2):=⟨_,rfl⟩
     have e3:(g:Int)*((nth ys (n-2):Nat):Int)=(G2:Int):=by rw[hG2,Int.natCast_mul]
     have hGb:G2<18446744073709551616:=by
      have h1:g*nth ys (n-2)≤4294967295*4294967295:=Nat.mul_le_mul (by omega) (by omega)
      omega
     obtain⟨R2,hR2⟩:∃R2,R2=r*4294967296+nth xs (j+(n-2)):=⟨_,rfl⟩
     have e4:=low_or r (nth xs (j+(n-2))) bx2 hd3
     rw[←hR2] at e4
     by_cases hcm:R2<G2
     · have HM1:Hid (4294967296≤g∨r*4294967296+nth xs (j+(n-2))<g*nth ys (n-2)):=Or.inr (by rw[←hR2, ←hG2];exact hcm)
       have t2:decide ((R2:Int)<(G2:Int))=true:=by rw[decide_eq_true_iff];omega
       clear hG2 hR2
       have less:=HDg.out.less H1.out HM1.out
       obtain⟨g1,hg1⟩:∃g1,g1=g-1:=⟨_,rfl⟩
       rw[←hg1] at less
       have e6:(g:Int)-1=(g1:Int):=by have:=less.2.2;omega
       have hg1b:g1<8589934592:=by omega
       obtain⟨r2,hr2⟩:∃r2,r2=r+nth ys (n-1):=⟨_,rfl⟩
       have e5:(r:Int)+((nth ys (n-1):Nat):Int)=(r2:Int):=by omega
       rw[←hr2] at less
       have hr33:r2<8589934592:=by omega
       have hmea:g1<g:=by have:=less.2.2;omega
       have HMEA:=Lib.hid hmea
       have L1:=Lib.hid less.1
       have L2:=Lib.hid less.2.1
       clear less hr2 hg1 hmea
       by_cases hbr:4294967296≤r2
       · have t5:decide ((4294967296:Int)≤(r2:Int))=true:=by simp;omega
         have bk:=HDg.out.broke L1.out hbr
         have BK1:=bk.1
         have BK2:=Lib.hid bk.2
         clear bk
         go_wp2_with fail
         go_quiet (fail)
         go_wp2_with fail
         go_meet
         exact⟨g1,r2,rfl,rfl,BK1,L2.out,BK2.out,hrowr.drewN _,hhr.drewN _⟩
       · have t5:decide ((4294967296:Int)≤(r2:Int))=false:=by simp;omega
         go_wp2_with fail
         go_quiet (fail)
         go_wp2_with fail
         go_roundw
         case rel=>exact⟨g1,r2,rfl,rfl,L1.out,L2.out,by omega,by omega,hrowr.drewN _,hhr.drewN _⟩
         case measure=>have:=HMEA.out;first|(simp[intOf];done)|(simp[intOf];omega)
     · have t2:decide ((R2:Int)<(G2:Int))=false:=by rw[decide_eq_false_iff_not];omega
       have HEX:Hid (0<g→(g-1)*Y≤P):=fun h0=>HDg.out.exit H1.out (by omega) (by rw[←hG2, ←hR2];exact hcm) h0
       clear hG2 hR2
       go_wp2_with fail
       go_quiet (fail)
       go_wp2_with fail
       go_meet
       exact⟨g,r,rfl,rfl,by omega,H2.out,HEX.out,hrowr.drewN _,hhr.drewN _⟩
 case rest=>
  clear hxn hxn1 hxn2 hyn1 hyn2 hor hrow hh0
  obtain⟨g,r,rfl,rfl,hgB,hgP,hgL,hrow,hh⟩:=hcut
  have HGP:=Lib.hid hgP
  have HGL:=Lib.hid hgL
  clear hgP hgL q1 q2 q3 q4
  go_wp2_with fail
  go_loopw [10,11,12] (fun v10 v11 v12 wr=>∃(i c l:Nat) (x2:List Nat),i≤n∧v10=.int .u64 (c:Int)∧v11=.int .u64 (l:Int)∧v12=.int .i64 (i:Int)∧c<4294967296∧l≤1∧x2.length=K+n+1∧Sm x2∧(∀t,j+n<t→nth x2 t=0)∧val x2+4294967296^j*(g*val (ys.take i))=val xs+4294967296^(j+i)*(c+l)∧Row wr 153 gx x2∧Hole gx w wr) (fun _ _ v _=>n-(intOf v).toNat)
  case atStart=>exact⟨0,0,0,xs,Nat.zero_le _,rfl,rfl,rfl,by decide,by decide,HXL.out,hxs,HXZ.out,ms_zero _ _ _ _,hrow,hh⟩
  case round=>
   clear hrow hh
   obtain⟨i,c,l,x2,hi,rfl,rfl,rfl,hc,hl,h2l,h2s,h2z,h2v,hrow,hh⟩:=hrel
   have H2L:=Lib.hid h2l
   have H2Z:=Lib.hid h2z
   have H2V:=Lib.hid h2v
   clear h2l h2z h2v
   by_cases hi1:i<n
   · have hyi:=HYC.out _ hh i hi1
     have hxi:=hrow.cell (j+i) (by rw[H2L.out];omega)
     have hfz:=hrow.frozen (j+i)
     have bxi:=h2s.nth (j+i)
     have byi:=hsys.nth i
     have i8:(i:Int)<((n+1:Nat):Int):=by omega
     obtain⟨Q,hQ⟩:∃Q,Q=g*nth ys i:=⟨_,rfl⟩
     have e7:(g:Int)*((nth ys i:Nat):Int)=(Q:Int):=by rw[hQ,Int.natCast_mul]
     have hQb:Q≤18446744065119617025:=by
      have h1:g*nth ys i≤4294967295*4294967295:=Nat.mul_le_mul (by omega) (by omega)
      omega
     obtain⟨C,hC⟩:∃C,C=c+Q:=⟨_,rfl⟩
     have e8:(Q:Int)+(c:Int)=(C:Int):=by omega
     have hCb:C<18446744073709551616:=by omega
     have hand:bits BinOp.and IntKind.u64 (C:Int) 4294967295=((C%4294967296:Nat):Int):=by
      rw[show(4294967295:Int)=((4294967295:Nat):Int) from rfl,u64_and_nat C _ hCb (by decide),show(4294967295:Nat)=2^32-1 from rfl,Nat.and_two_pow_sub_one_eq_mod]
     have st:=ms_step (y:=ys) (by rw[H2L.out];omega) bxi hl H2V.out
     rw[←hQ, ←hC] at st
     obtain⟨D2,hD2⟩:∃D2,D2=C%4294967296:=⟨_,rfl⟩
     rw[←hD2] at hand st
     have hD2b:D2<4294967296:=by omega
     have ST:=Lib.hid st
     have hi2:i+1≤n:=hi1
     have hz2:=zeros_set (t:=(nth x2 (j+i)+4294967296-D2-l)%4294967296) H2Z.out (show j+i≤j+n by omega)
     have HZ2:=Lib.hid hz2
     have hlen:(x2.set (j+i) ((nth x2 (j+i)+4294967296-D2-l)%4294967296)).length=K+n+1:=by rw[List.length_set];exact H2L.out
     have HLEN:=Lib.hid hlen
     clear st hQ hC hz2 hlen hD2
     go_wp2_with fail
     go_roundw
     case rel=>
      refine⟨i+1,C/4294967296,1-(nth x2 (j+i)+4294967296-D2-l)/4294967296,x2.set (j+i) ((nth x2 (j+i)+4294967296-D2-l)%4294967296),hi2,vi (cdivI C),vi ?_,by go_num,cdiv_lt hCb,Nat.sub_le _ _,HLEN.out,h2s.set _ _ (mod_ltB _),HZ2.out,ST.out,hrow.setE _ _ ?_,hh.setCell rfl _⟩
      · simp only[IntKind.wrap_u64];omega
      · simp only[IntKind.wrap_u64];omega
     case measure=>clear hyi hxi hfz;first|(simp[intOf];done)|(simp[intOf];omega)
   · have hin:n=i:=by omega
     subst hin
     have hxi:=hrow.cell (j+n) (by rw[H2L.out];omega)
     have hfz:=hrow.frozen (j+n)
     have bxn:=h2s.nth (j+n)
     have st:=ms_end (by rw[H2L.out];omega) bxn hl hc HYL.out H2V.out
     obtain⟨T4,hT4⟩:∃T4:Nat,T4=(nth x2 (j+n)+18446744073709551616-c-l)%18446744073709551616:=⟨_,rfl⟩
     have ht4:IntKind.u64.wrap (IntKind.u64.wrap (((nth x2 (j+n):Nat):Int)-(c:Int))-(l:Int))=(T4:Int):=by simp only[IntKind.wrap_u64];omega
     obtain⟨t3,ht3⟩:∃t3,t3=(nth x2 (j+n)+4294967296-c-l)%4294967296:=⟨_,rfl⟩
     obtain⟨l3,hl3⟩:∃l3,l3=1-(nth x2 (j+n)+4294967296-c-l)/4294967296:=⟨_,rfl⟩
     have k1:T4%4294967296=t3:=by omega
     have k2:T4/9223372036854775808=l3:=by omega
     have hT4b:T4<18446744073709551616:=by omega
     rw[←ht3, ←hl3] at st
     have ht3b:t3<4294967296:=by rw[ht3];exact mod_ltB _
     have hl3b:l3≤1:=by rw[hl3];exact Nat.sub_le _ _
     rw[HYV.out] at st
     have hlen:(x2.set (j+n) t3).length=K+n+1:=by rw[List.length_set];exact H2L.out
     have hz3:=zeros_set (t:=t3) H2Z.out (Nat.le_refl (j+n))
     have hs3:=h2s.set (j+n) t3 ht3b
     obtain⟨x3,hx3⟩:∃x3,x3=x2.set (j+n) t3:=⟨_,rfl⟩
     rw[←hx3] at st hlen hz3 hs3
     have hrow3:=hrow.setE (j+n) t3 (show(T4:Int)%4294967296=(t3:Int) by omega)
     rw[←hx3] at hrow3
     have hh3:=hh.setCell (p:=⟨gx,j+n,none⟩) rfl (.int .u32 ((T4:Int)%4294967296))
     have ST:=Lib.hid st
     have HLEN:=Lib.hid hlen
     have HZ3:=Lib.hid hz3
     clear st ht3 hl3 hx3 hlen hz3 hT4
     rcases (show l3=0∨l3=1 by omega) with hl30|hl31
     · have t6:(((T4:Int)/9223372036854775808)==0)=true:=by simp;omega
       have hen:=ST.out
       rw[hl30] at hen
       have hen2:=dig_end0 hen HP1.out HGP.out
       have O1:=Lib.hid hen2.1
       have O2:=Lib.hid hen2.2
       have HLX:=Lib.hid (HLEN.out.trans HXL.out.symm)
       clear hen hen2 hl30 k1 k2
       go_wp2_with fail
       go_ret
       exact⟨g,x3,by first|rfl|exact ret_int (by simp only[IntKind.wrap_u32];omega),hgB,hs3,HLX.out,O1.out,O2.out,hrow3,hh3⟩
     · have t6:(((T4:Int)/9223372036854775808)==0)=false:=by simp;omega
       have hen:=ST.out
       rw[hl31] at hen
       have hg00:0<g:=by
        rcases Nat.eq_zero_or_pos g with h0|h0
        · exfalso
          rw[h0,Nat.zero_mul,Nat.mul_zero,Nat.add_zero,Nat.mul_one] at hen
          have:=val_lt_of x3 hs3 (j+n+1) (fun t ht=>HZ3.out t (by omega))
          omega
        · exact h0
       have HEN:=Lib.hid hen
       obtain⟨g1,hg1⟩:∃g1,g1=g-1:=⟨_,rfl⟩
       have e9:IntKind.u64.wrap ((g:Int)-1)=(g1:Int):=by simp only[IntKind.wrap_u64];omega
       have e92:(g:Int)-1=(g1:Int):=by omega
       have hg1b:g1<4294967296:=by omega
       have HG1':=Lib.hid hg1
       clear hen hl31 hg1 k1 k2 hxi hfz
       have hxi:=hrow.cell (j+n) (by rw[H2L.out];omega)
       have hfz:=hrow.frozen (j+n)
       go_wp2_with fail
       go_loopw [16,17] (fun v16 v17 wr=>∃(i c:Nat) (x4:List Nat),i≤n∧v16=.int .u64 (c:Int)∧v17=.int .i64 (i:Int)∧c≤1∧x4.length=K+n+1∧Sm x4∧(∀t,j+n<t→nth x4 t=0)∧val x4+4294967296^(j+i)*c=val x3+4294967296^j*val (ys.take i)∧Row wr 153 gx x4∧Hole gx w wr) (fun _ v _=>n-(intOf v).toNat)
       case atStart=>exact⟨0,0,x3,Nat.zero_le _,rfl,rfl,Nat.zero_le _,HLEN.out,hs3,HZ3.out,ab_zero _ _ _,hrow3,hh3⟩
       case round=>
        clear hrow hh hrow3 hh3 hxi hfz ht4 t6
        obtain⟨i,c,x4,hi,rfl,rfl,hc,h4l,h4s,h4z,h4v,hrow,hh⟩:=hrel
        have H4L:=Lib.hid h4l
        have H4Z:=Lib.hid h4z
        have H4V:=Lib.hid h4v
        clear h4l h4z h4v
        by_cases hi1:i<n
        · have hyi:=HYC.out _ hh i hi1
          have hxi:=hrow.cell (j+i) (by rw[H4L.out];omega)
          have hfz:=hrow.frozen (j+i)
          have bxi:=h4s.nth (j+i)
          have byi:=hsys.nth i
          have i8:(i:Int)<((n+1:Nat):Int):=by omega
          have st:=ab_step (y:=ys) (by rw[H4L.out];omega) H4V.out
          have ST4:=Lib.hid st
          have hi2:i+1≤n:=hi1
          have hz2:=zeros_set (t:=(nth x4 (j+i)+nth ys i+c)%4294967296) H4Z.out (show j+i≤j+n by omega)
          have HZ2:=Lib.hid hz2
          have hlen:(x4.set (j+i) ((nth x4 (j+i)+nth ys i+c)%4294967296)).length=K+n+1:=by rw[List.length_set];exact H4L.out
          have HLEN4:=Lib.hid hlen
          have hc1:=add_le1 bxi byi hc
          clear st hz2 hlen
          go_wp2_with fail
          go_quiet (fail)
          go_wp2_with fail
          go_roundw
          case rel=>
           exact⟨i+1,(nth x4 (j+i)+nth ys i+c)/4294967296,x4.set (j+i) ((nth x4 (j+i)+nth ys i+c)%4294967296),hi2,vi (by omega),by go_num,hc1,HLEN4.out,h4s.set _ _ (mod_ltB _),HZ2.out,ST4.out,(Row.drewN hrow _).setE _ _ (by omega),(hh.drewN _).setCell rfl _⟩
          case measure=>clear hyi hxi hfz;first|(simp[intOf];done)|(simp[intOf];omega)
        · have hin:n=i:=by omega
          subst hin
          have hxi:=hrow.cell (j+n) (by rw[H4L.out];omega)
          have hfz:=hrow.frozen (j+n)
          have bxn:=h4s.nth (j+n)
          have st:=ab_end (by rw[H4L.out];omega) HYL.out H4V.out
          obtain⟨S4,hS4⟩:∃S4,S4=nth x4 (j+n)+c:=⟨_,rfl⟩
          rw[←hS4,HYV.out] at st
          have e10:((nth x4 (j+n):Nat):Int)+(c:Int)=(S4:Int):=by omega
          have hS4b:S4<8589934592:=by omega
          have ht5b:=mod_ltB S4
          have hlen:(x4.set (j+n) (S4%4294967296)).length=K+n+1:=by rw[List.length_set];exact H4L.out
          have hz5:=zeros_set (t:=S4%4294967296) H4Z.out (Nat.le_refl (j+n))
          have hs5:=h4s.set (j+n) (S4%4294967296) ht5b
          obtain⟨x5,hx5⟩:∃x5,x5=x4.set (j+n) (S4%4294967296):=⟨_,rfl⟩
          rw[←hx5] at st hlen hz5 hs5
          have hen2:=dig_end1 HEN.out st (by omega) (HGL.out (by omega)) HP1.out HP2.out hs3 HZ3.out hs5 hz5 HYN.out
          rw[←HG1'.out] at hen2
          have hrow5:=hrow.setE (j+n) (S4%4294967296) (cmodI S4)
          rw[←hx5] at hrow5
          have hh5:=hh.setCell (p:=⟨gx,j+n,none⟩) rfl (.int .u32 ((S4:Int)%4294967296))
          have O1:=Lib.hid hen2.1
          have O2:=Lib.hid hen2.2
          have HLX:=Lib.hid (hlen.trans HXL.out.symm)
          clear st hS4 hlen hz5 hx5 hen2
          go_wp2_with fail
          go_ret
          exact⟨g1,x5,by first|rfl|exact ret_int (by simp only[IntKind.wrap_u32];omega),hg1b,hs5,HLX.out,O1.out,O2.out,hrow5,hh5⟩
end Bg
namespace Bg
def LimbsTwo (w:World) (u v:Nat) (e:Ending) (w':World):Prop:=
 ∃A c B d,e=.returned (.tuple #[.slice A (limbs u).length c,.slice B (limbs v).length d])∧(limbs u).length≤c∧Own w' 153 w.heap.size A c (limbs u)∧(limbs v).length≤d∧Own w' 153 w.heap.size B d (limbs v)∧Below w.heap.size w w'
theorem val_limbs (v:Nat):val (limbs v)=v:=limbsF_val v v (Nat.le_refl v)
theorem big_norm {v n s:Nat} (hn:(limbs v).length=n) (h2:2≤n) (hs:s=32-bitLen (nth (limbs v) (n-1))):
 s<32∧(limbs (v*2^s)).length=n∧2147483648≤nth (limbs (v*2^s)) (n-1)∧4294967296^(n-1)≤v:=by
 have hv0:v≠0:=by rintro rfl;rw[limbs_zero] at hn;simp at hn;omega
 have hX:v<4294967296^n:=(length_limbs_le v n).1 (by omega)
 have hs32:s≤32:=by omega
 have hp:2^s≤4294967296:=Nat.le_trans (Nat.pow_le_pow_right (by decide) hs32) (by decide)
 have hX1:v*2^s<4294967296^(n+1):=by
  rw[Nat.pow_succ]
  exact Nat.lt_of_le_of_lt (Nat.mul_le_mul_left v hp) (Nat.mul_lt_mul_of_pos_right hX (by decide))
 have hl1:=(length_limbs_le _ _).2 hX1
 have hlow:=limbs_low hv0
 rw[hn] at hlow
 have hm:=limbs_mono (show v≤v*2^s from Nat.le_mul_of_pos_right v (Nat.two_pow_pos s))
 rw[hn] at hm
 obtain⟨l,hl⟩:∃l,l=limbs (v*2^s):=⟨_,rfl⟩
 have hsl:Sm l:=by rw[hl];exact sm_limbs _
 have hvl:val l=v*2^s:=by rw[hl];exact val_limbs _
 have hlast:nth (limbs v) (n-1)≠0:=by
  have h1:=last_limbs v
  have h3:=last_nth (l:=limbs v) (by intro e;rw[e] at hn;simp at hn;omega)
  rw[h3,hn] at h1
  intro e;rw[e] at h1;exact h1 rfl
 have D:=dv_norm (b:=limbs v) (o:=l++List.replicate (n+1-l.length) 0) (n:=n) (s:=s) (sm_limbs v) hn h2 hlast hs (by rw[List.length_append,List.length_replicate,hl];omega) (hsl.append (Sm.replicate _)) (by rw[val_append,val_replicate,Nat.mul_zero,Nat.add_zero,hvl,val_limbs])
 rw[val_limbs] at D
 have hl2:=(length_limbs_le _ _).2 D.2.2.2
 refine⟨D.1,by omega,?_,hlow⟩
 have h4:=D.2.2.1
 rw[←hl] at hl2 hm ⊢
 have:nth (l++List.replicate (n+1-l.length) 0) (n-1)=nth l (n-1):=by
  rw[nth_lt _ (by simp;omega),nth_lt _ (by omega),List.getElem_append_left (by omega)]
 rw[this] at h4
 exact h4
theorem big_div_less (A B:Option Addr) (u v:Nat) (c d:Nat) (huv:u<v) (w:World) (ha:Rd w A (limbs u)) (hb:Rd w B (limbs v)):
 Calls Tryz.prog 160 #[.slice A (limbs u).length c,.slice B (limbs v).length d] w (LimbsTwo w (u/v) (u%v)):=by
 have hcmp:decide (cmpL (limbs u) (limbs v)<0)=true:=by
  rw[decide_eq_true_iff,cmpL_canon (sm_limbs u) (sm_limbs v) (last_limbs u) (last_limbs v),val_limbs,val_limbs]
  exact cmpV_lt.2 huv
 rw[Nat.div_eq_of_lt huv,Nat.mod_eq_of_lt huv]
 clear huv
 go_enter Tryz.func160,Tryz.ntmps160
 go_wp2_with fail
 refine(big_cmp A B (limbs u) (limbs v) _ _ c d rfl rfl _ ha hb).mono ?_
 rintro e w1 ⟨rfl,hb1⟩
 have ha1:=ha.below hb1
 go_wp2_with fail
 refine(big_copied A (limbs u) _ c rfl _ ha1).mono ?_
 rintro e w2 ⟨g,rfl,hg,hrow,hb2⟩
 go_wp2
 go_ret2
 have ho:=(hrow.own (sm_limbs u) ha.len (Nat.le_trans hb1.size hg) (limbs u).length nrf nrf)
 rw[List.take_length] at ho
 exact⟨none,0,_,_,rfl,Nat.le_refl _,Own.nil _ _ _,Nat.le_refl _,ho,hb1.trans (hb2.mono hb1.size)⟩
theorem big_div_one (A B:Option Addr) (u v:Nat) (c d:Nat) (huv:v≤u) (h1:(limbs v).length=1) (hlu:(limbs u).length≤20000) (w:World) (ha:Rd w A (limbs u)) (hb:Rd w B (limbs v)):
 Calls Tryz.prog 160 #[.slice A (limbs u).length c,.slice B (limbs v).length d] w (LimbsTwo w (u/v) (u%v)):=by
 have hcmp:decide (cmpL (limbs u) (limbs v)<0)=false:=by
  rw[decide_eq_false_iff_not,cmpL_canon (sm_limbs u) (sm_limbs v) (last_limbs u) (last_limbs v),val_limbs,val_limbs]
  intro h;have:=cmpV_lt.1 h;omega
 have hv16:v<4294967296:=by have:=(length_limbs_le v 1).1 (by omega);simpa using this
 have hv0:0<v:=by
  rcases Nat.eq_zero_or_pos v with h|h
  · rw[h,limbs_zero] at h1;simp at h1
  · exact h
 have hnth:nth (limbs v) 0=v:=by rw[limbs_small hv16 (by omega)];rfl
 have hS:=big_divSmall A (limbs u) (limbs u).length c rfl (by omega) v hv0 hv16
 rw[val_limbs] at hS
 obtain⟨bb,ob,rfl,hcb⟩:=rd_at hb (Below.refl _ _) (k:=0) (by omega)
 rw[hnth,Nat.add_zero] at hcb
 have HV:=Lib.hid h1
 have hr16:u%v<v:=Nat.mod_lt _ hv0
 rw[h1]
 clear huv h1 hnth
 go_enter Tryz.func160,Tryz.ntmps160
 go_wp2_with fail
 have hbc:=big_cmp A (some ⟨bb,ob,none⟩) (limbs u) (limbs v) (limbs u).length 1 c d rfl HV.out.symm _ ha hb
 refine hbc.mono ?_
 rintro e w1 ⟨rfl,hb1⟩

 have ha1:=ha.below hb1
 have hcb1:=cell_keep hb1 hcb
 go_wp2_with fail
 refine(hS _ ha1).mono ?_
 rintro e w2 ⟨Q,qc,rfl,hqc,hQ,hb2⟩
 have hb12:=hb1.trans (hb2.mono hb1.size)
 go_wp2_with fail
 have hal:Below w2.heap.size w2 (w2.alloc (.cells #[.int .u32 ((u%v:Nat):Int)] 153)):=(Below.refl _ _).alloc nrf _
 have hrow:Row (w2.alloc (.cells #[.int .u32 ((u%v:Nat):Int)] 153)) 153 w2.heap.size [u%v]:=row_new (l:=[u%v]) rfl rfl
 have hsm:Sm [u%v]:=by intro x hx;simp at hx;omega
 have hv1:val [u%v]=u%v:=by simp[val]
 refine(big_trim (some ⟨w2.heap.size,0,none⟩) [u%v] 1 1 rfl nrf _ (hrow.rd0 hsm (by simp))).mono ?_
 rintro e w3 ⟨rfl,rfl⟩
 rw[hv1]
 go_wp2
 go_ret2
 have ho:=((hrow.own hsm (by simp) (Nat.le_trans hb12.size nrf) 1 nrf nrf).take 1).trim
 have hQ2:Own w2 153 w.heap.size Q qc (limbs (u/v)):=hQ.mono hb1.size
 refine⟨_,_,_,_,rfl,hqc,hQ2.alloc _,?_,?_,hb12.trans (hal.mono hb12.size)⟩
 · have:=limbs_length_le hsm
   rw[hv1] at this;exact this
 · have:=ho
   simpa [hv1,List.take] using this
end Bg
namespace Bg
set_option maxHeartbeats 2000000
theorem big_div_big (A B:Option Addr) (u v m n c d:Nat) (huv:v≤u) (hm:(limbs u).length=m) (hn:(limbs v).length=n) (h2:2≤n) (hlu:m≤20000) (w:World) (ha:Rd w A (limbs u)) (hb:Rd w B (limbs v)):
 Calls Tryz.prog 160 #[.slice A m c,.slice B n d] w (LimbsTwo w (u/v) (u%v)):=by
 have hcmp:decide (cmpL (limbs u) (limbs v)<0)=false:=by
  rw[decide_eq_false_iff_not,cmpL_canon (sm_limbs u) (sm_limbs v) (last_limbs u) (last_limbs v),val_limbs,val_limbs]
  intro h;have:=cmpV_lt.1 h;omega
 obtain⟨K,hK⟩:∃K,m=K+n:=⟨m-n,by have:=limbs_mono huv;omega⟩
 obtain⟨s,hs⟩:∃s,s=32-bitLen (nth (limbs v) (n-1)):=⟨_,rfl⟩
 have htop:=(sm_limbs v).nth (n-1)
 have hlz:=bits_LeadingZeros32 ((nth (limbs v) (n-1):Nat):Int)
 have hbl:bitLen (nth (limbs v) (n-1))≤32:=bitLen_le (by omega)
 have hse:(32-(bitLen (((nth (limbs v) (n-1):Nat):Int)).toNat:Int))=(s:Int):=by rw[Int.toNat_natCast];omega
 rw[hse] at hlz
 obtain⟨hs32,hnl,hnt,hvlow⟩:=big_norm hn h2 hs
 have hX:u<4294967296^m:=(length_limbs_le u m).1 (by omega)
 have hst:=dv_start (va:=u) (vb:=v) (K:=K) (n:=n) (s:=s) (m:=m) hX hK hvlow h2
 have hup1:=big_up B (limbs v) n d hn.symm s (by omega) (by omega)
 have hup2:=big_up A (limbs u) m c hm.symm s (by omega) (by omega)
 rw[val_limbs] at hup1 hup2
 have hX1:u*2^s<4294967296^(m+1):=by
  rw[Nat.pow_succ]
  exact Nat.lt_of_le_of_lt (Nat.mul_le_mul_left u (Nat.le_trans (Nat.pow_le_pow_right (by decide) (show s≤32 by omega)) (by decide))) (Nat.mul_lt_mul_of_pos_right hX (by decide))
 have hml:=(length_limbs_le _ _).2 hX1
 obtain⟨bb,ob,rfl,hcb⟩:=rd_at hb (Below.refl _ _) (k:=n-1) (by omega)
 have hmk1:=fun W=>mk32 (m+1) ((m:Int)+1) (by omega) (by omega) W
 have hmk2:=fun W=>mk32 (K+1) ((m:Int)-(n:Int)+1) (by omega) (by omega) W
 have hcmpC:=fun w h1 h2=>big_cmp A (some ⟨bb,ob,none⟩) (limbs u) (limbs v) m n c d hm.symm hn.symm w h1 h2
 obtain⟨Y,hY⟩:∃Y,Y=v*2^s:=⟨_,rfl⟩
 obtain⟨X0,hX0⟩:∃X0,X0=u*2^s:=⟨_,rfl⟩
 rw[←hY] at hnl hnt hup1 hst
 rw[←hX0] at hup2 hst hml
 have HY:=Lib.hid hY
 have HX0:=Lib.hid hX0
 have HST:=Lib.hid hst
 have HNL:=Lib.hid hnl
 have HNT:=Lib.hid hnt
 have HM:=Lib.hid hm
 have HN:=Lib.hid hn
 have HK:=Lib.hid hK
 have HCM:=Lib.hid hcmp
 have HML:=Lib.hid hml
 have hn20:n≤20000:=by omega
 have hK20:K≤20000:=by omega
 have i1:((n:Int)==1)=false:=by rw[beq_eq_false_iff_ne];omega
 have i2:(0:Int)≤(n:Int)-1:=by omega
 have i3:(n:Int)-1<(n:Int):=by omega
 have i4:((n:Int)-1).toNat=n-1:=by omega
 clear hs hse hbl hvlow hX hX1 hY hX0 hst hnl hnt hm hn hK hcmp hml huv
 go_enter Tryz.func160,Tryz.ntmps160
 go_wp2_with fail
 refine(hcmpC _ ha hb).mono ?_
 rintro e w1 ⟨rfl,hb1⟩
 have hcmp:=HCM.out
 have ha1:=ha.below hb1
 have hb1r:=hb.below hb1
 have hcb1:=cell_keep hb1 hcb
 go_wp2_with fail
 clear hcmp
 refine(hlz _ (by omega) (by omega)).mono ?_
 rintro e w2 ⟨rfl,rfl⟩
 go_wp2_with fail
 refine(hup1 _ hb1r).mono ?_
 rintro e w2 ⟨A2,c2,rfl,hc2,hv2,hb2⟩
 rw[HNL.out]
 have ha2:=ha1.below hb2
 have hb12:=hb1.trans (hb2.mono hb1.size)
 go_wp2_with fail
 have hal:=hb12.alloc hb12.size (.cells (c32 (List.replicate (m+1) 0)) 153)
 refine(hup2 _ (ha2.alloc _)).mono ?_
 rintro e w3 ⟨A3,c3,rfl,hc3,hv3,hb3⟩
 have hru:Row w3 153 w2.heap.size (List.replicate (m+1) 0):=(row_new (w:=w2) rfl rfl:Row (w2.alloc (.cells (c32 (List.replicate (m+1) 0)) 153)) 153 w2.heap.size (List.replicate (m+1) 0)).below hb3 (by simp)
 have hal3:=hal.trans (hb3.mono hal.size)
 have hv23:=(hv2.alloc (.cells (c32 (List.replicate (m+1) 0)) 153)).below hb3 nrf
 obtain⟨W4,hcp,hr4,hsz4,hbw4,hoth4⟩:=run_copy32 w3 w2.heap.size (List.replicate (m+1) 0) (limbs X0) A3 c3 (m+1) hru hv3.rd (by rw[List.length_replicate];exact HML.out)
 rw[List.length_replicate] at hcp
 go_wp2_with (first|(simp only[hcp])|(simp only[hmk2]))
 obtain⟨gv,ov,rfl,hyc⟩:=hv2.rd.open_ (by rw[HNL.out];omega)
 rw[HNL.out] at hyc hc2
 have hgv:gv<w2.heap.size:=by have:=cell_lt (hyc 0 (by omega));simpa using this
 have hyc3:∀i,i<n→w3.cell? ⟨gv,ov+i,none⟩=some (.int .u32 ((nth (limbs Y) i:Nat):Int)):=fun i hi=>cell_keep hb3 ((cell_keep ((Below.refl w2.heap.size w2).alloc nrf _) (hyc i hi)))
 have hyc5:∀i,i<n→(W4.alloc (.cells (c32 (List.replicate (K+1) 0)) 153)).cell? ⟨gv,ov+i,none⟩=some (.int .u32 ((nth (limbs Y) i:Nat):Int)):=by
  intro i hi
  refine cell_keep ((Below.refl W4.heap.size W4).alloc nrf _) ?_
  rw[←hyc3 i hi]
  unfold World.cell?
  rw[hoth4 gv (by omega)]
 have hru5:Row (W4.alloc (.cells (c32 (List.replicate (K+1) 0)) 153)) 153 w2.heap.size (limbs X0++(List.replicate (m+1) 0).drop (limbs X0).length):=hr4.below ((Below.refl W4.heap.size W4).alloc nrf _) hr4.lt
 have hrq5:Row (W4.alloc (.cells (c32 (List.replicate (K+1) 0)) 153)) 153 w3.heap.size (List.replicate (K+1) 0):=row_new rfl hsz4.symm
 have hb5:Below w.heap.size w (W4.alloc (.cells (c32 (List.replicate (K+1) 0)) 153)):=(hal3.trans (hbw4 w.heap.size hb12.size)).alloc (by rw[hsz4];exact hal3.size) _
 have hgu:w2.heap.size<w3.heap.size:=hru.lt
 have hwu:w.heap.size≤w2.heap.size:=hb12.size
 have hXS:Sm (limbs X0++(List.replicate (m+1) 0).drop (limbs X0).length):=(sm_limbs X0).append ((Sm.replicate _).drop _)
 have hXL:(limbs X0++(List.replicate (m+1) 0).drop (limbs X0).length).length=m+1:=by
  have:=HML.out
  simp;omega
 have hXV:val (limbs X0++(List.replicate (m+1) 0).drop (limbs X0).length)=X0:=by
  rw[List.drop_replicate,val_append,val_replicate,Nat.mul_zero,Nat.add_zero,val_limbs]
 obtain⟨xs0,hxs0⟩:∃xs,xs=limbs X0++(List.replicate (m+1) 0).drop (limbs X0).length:=⟨_,rfl⟩
 rw[←hxs0] at hru5 hXS hXL hXV
 obtain⟨W5,hW5⟩:∃W5,W5=W4.alloc (.cells (c32 (List.replicate (K+1) 0)) 153):=⟨_,rfl⟩
 rw[←hW5] at hyc5 hru5 hrq5 hb5 ⊢
 obtain⟨gq,hgq⟩:∃gq,gq=w3.heap.size:=⟨_,rfl⟩
 obtain⟨gu,hgu'⟩:∃gu,gu=w2.heap.size:=⟨_,rfl⟩
 rw[←hgu'] at hgv hru5 hgu hwu ⊢
 rw[←hgq] at hrq5 hgu ⊢
 have HXL:=Lib.hid hXL
 have HXV:=Lib.hid hXV
 clear hW5 hgq hgu' hxs0 hcp hr4 hsz4 hbw4 hoth4 hyc hyc3 hru hal3 hv23 hv3 hb3 hc3 hal hb12 ha2 hb2 hv2 hcb1 hb1r ha1 hb1 hmk1 hmk2 hcmpC hlz hup1 hup2 hb ha hcb i1 i2 i3 i4 HCM HML HM HN htop hXL hXV
 go_loopw [13] (fun v13 wr=>∃(k:Nat) (outs xs:List Nat),k≤K+1∧v13=.int .i64 ((k:Int)-1)∧outs.length=K+1∧Sm outs∧xs.length=m+1∧Sm xs∧X0=val xs+4294967296^k*(Y*val (outs.drop k))∧val xs<4294967296^k*Y∧Row wr 153 gu xs∧Row wr 153 gq outs∧(∀i,i<n→wr.cell? ⟨gv,ov+i,none⟩=some (.int .u32 ((nth (limbs Y) i:Nat):Int)))∧Below w.heap.size w wr) (fun v13 _=>(intOf v13+1).toNat)
 case atStart=>
  exact⟨K+1,List.replicate (K+1) 0,xs0,Nat.le_refl _,vi (by have:=HK.out;omega),by simp,Sm.replicate _,HXL.out,hXS,dv_at0 HXV.out.symm (by simp),by rw[HXV.out];exact HST.out,hru5,hrq5,hyc5,hb5⟩
 case round=>
  clear hru5 hrq5 hyc5 hb5
  obtain⟨k,outs,xs,hk,rfl,hol,hos,hxl,hxs,hX,hlt,hru,hrq,hyc,hbl⟩:=hrel
  have HOL:=Lib.hid hol
  have HXLx:=Lib.hid hxl
  have HX:=Lib.hid hX
  have HLT:=Lib.hid hlt
  have HYC:=Lib.hid hyc
  clear hol hxl hX hlt hyc
  by_cases hk0:k=0
  · subst hk0
    go_wp2_with fail
    have hfin:=dv_fin (n:=n) HX0.out HY.out HX.out HLT.out hxs (by have:=(length_limbs_le Y n).1 (by rw[HNL.out];omega);exact this)
    have F1:=Lib.hid hfin.1
    have F2:=Lib.hid hfin.2
    have hq0:Rd wr (some ⟨gq,0,none⟩) outs:=hrq.rd0 hos (by rw[HOL.out];omega)
    have hu0:Rd wr (some ⟨gu,0,none⟩) (xs.take n):=rd_take (hru.rd0 hxs (by rw[HXLx.out];have:=HK.out;omega)) n
    have hxn:(xs.take n).length=n:=by have h1:=HXLx.out;have h3:=HK.out;simp;omega
    have HXN:=Lib.hid hxn
    have hmn:n≤m+1:=by have:=HK.out;omega
    clear hfin hxn
    go_region_with (first
     |(go_at_call 146;(with_reducible refine(big_trim (some ⟨gq,0,none⟩) outs _ (K+1) HOL.out.symm nrf _ (by first|exact hq0.drew|exact hq0.drew.drew|exact hq0)).mono ?_);rintro r wa ⟨rfl,rfl⟩)
     |(go_at_call 146;(with_reducible refine(big_trim (some ⟨gu,0,none⟩) (xs.take n) _ (m+1) HXN.out.symm hmn _ (by first|exact hu0.drew|exact hu0.drew.drew|exact hu0)).mono ?_);rintro r wa ⟨rfl,rfl⟩)
     |(go_at_call 207;(with_reducible refine(big_down (some ⟨gu,0,none⟩) (limbs (val (xs.take n))) _ (m+1) rfl s (by omega) (by have:=limbs_length_le (hxs.take n);rw[HXN.out] at this;omega) _ (by first|exact(rd_trim hu0).drew|exact(rd_trim hu0).drew.drew|exact rd_trim hu0)).mono ?_);rintro r wa ⟨A6,c6,rfl,hc6,hr6,hb6⟩))
    all_goals (
     rw[val_limbs,F2.out] at hc6 hr6
     go_wp2
     go_ret2
     have hle:=limbs_length_le hos
     have ho:=(hrq.own hos (by rw[HOL.out];omega) (show w.heap.size≤gq by omega) outs.length nrf nrf).trim
     rw[HOL.out] at ho hle
     rw[List.take_of_length_le (by rw[HOL.out];omega),F1.out] at ho
     rw[F1.out] at hle
     exact⟨_,_,_,_,by rw[F1.out,F2.out];rfl,hle,ho.drew.below hb6 nrf,hc6,hr6.mono hbl.size,hbl.drew.trans (hb6.mono hbl.size)⟩)
  · obtain⟨k,rfl⟩:∃j,k=j+1:=⟨k-1,by omega⟩
    have hKm:k+n≤m:=by have:=HK.out;omega
    go_wp2_with fail
    all_goals (try (exfalso;omega))
    have e1:k+n+1-k=n+1:=by omega
    rw[e1]
    refine(big_figure gu gv ov k n (m+1-k) c2 xs (limbs Y) Y h2 (by omega) (by rw[HXLx.out];omega) (by rw[HXLx.out];omega) hxs (sm_limbs Y) HNL.out (val_limbs Y) HNT.out HLT.out (by omega) _ hru HYC.out (by omega) hc2).mono ?_
    rintro e w6 ⟨q,x',rfl,hq,hxs',hxl',hxv',hxlt',hru',hole⟩
    have hrq':=hole.row hrq (by omega)
    have hyc':∀i,i<n→w6.cell? ⟨gv,ov+i,none⟩=some (.int .u32 ((nth (limbs Y) i:Nat):Int)):=fun i hi=>hole.keep (HYC.out i hi) (show gv≠gu by omega)
    have hbl':=hole.below hbl hwu hbl.size
    have hcq:=hrq'.cell k (by rw[HOL.out];omega)
    have hfq:=hrq'.frozen k
    have XV:=Lib.hid hxv'
    have XL:=Lib.hid hxl'
    have YC:=Lib.hid hyc'
    have XT:=Lib.hid hxlt'
    clear hxv' hxl' hyc' hxlt' hKm hole
    go_wp2
    go_roundw
    case rel=>
     exact⟨k,outs.set k q,x',by omega,by go_num,by simp[HOL.out],hos.set _ _ hq,by rw[XL.out,HXLx.out],hxs',dv_out (by rw[HOL.out];omega) HX.out XV.out,XT.out,hru'.far (show gu≠gq by omega) _,hrq'.setE k q rfl,fun i hi=>(World.cell?_setCell_other _ _ _ _ (fun e=>by have:=congrArg Addr.block e;simp at this;omega)).trans (YC.out i hi),hbl'.setCell (show w.heap.size≤gq by omega) _⟩
    case measure=>first|(simp[intOf];done)|(simp[intOf];omega)
theorem big_div (A B:Option Addr) (u v c d:Nat) (hv:v≠0) (hlu:(limbs u).length≤20000) (w:World) (ha:Rd w A (limbs u)) (hb:Rd w B (limbs v)):
 Calls Tryz.prog 160 #[.slice A (limbs u).length c,.slice B (limbs v).length d] w (LimbsTwo w (u/v) (u%v)):=by
 by_cases h:u<v
 · exact big_div_less A B u v c d h w ha hb
 · have hp:=limbs_pos hv
   by_cases h1:(limbs v).length=1
   · exact big_div_one A B u v c d (by omega) h1 hlu w ha hb
   · exact big_div_big A B u v _ _ c d (by omega) rfl rfl (by omega) hlu w ha hb
end Bg
end Go.Proofs.YtenekbfnlbipiaaGreatDoor
