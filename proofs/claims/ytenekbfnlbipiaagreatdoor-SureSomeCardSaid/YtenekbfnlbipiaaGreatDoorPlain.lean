/- Plain laws on lists of limbs (numbers below 2 to the power of 32, the lowest first): their worth, the one list of each number without a 0 at its end. No program here. -/
import Derived.WalkKit
import Derived.Handy
import Derived.WalkSpells
import Derived.Lib.Hide
import Derived.Deep.Draws
namespace Go.Proofs.YtenekbfnlbipiaaGreatDoor
set_option linter.unusedVariables false
set_option linter.unusedSimpArgs false

def val:List Nat→Nat
 |[]=>0
 |x :: l=>x+4294967296*val l
def Sm (l:List Nat):Prop:=∀x ∈ l,x<4294967296
def trim:List Nat→List Nat
 |[]=>[]
 |x :: l=>if x=0∧trim l=[] then [] else x :: trim l
def limbsF:Nat→Nat→List Nat
 |0,_=>[]
 |k+1,n=>if n=0 then [] else n%4294967296 :: limbsF k (n/4294967296)
def limbs (n:Nat):List Nat:=limbsF n n

theorem Sm.nil:Sm []:=by intro x h;cases h
theorem Sm.cons {x:Nat} {l:List Nat} (hx:x<4294967296) (h:Sm l):Sm (x :: l):=by
 intro y hy;rcases List.mem_cons.1 hy with rfl|hy
 · exact hx
 · exact h y hy
theorem Sm.tail {x:Nat} {l:List Nat} (h:Sm (x :: l)):Sm l:=fun y hy=>h y (List.mem_cons_of_mem _ hy)
theorem Sm.head {x:Nat} {l:List Nat} (h:Sm (x :: l)):x<4294967296:=h x List.mem_cons_self
theorem Sm.append {a b:List Nat} (ha:Sm a) (hb:Sm b):Sm (a++b):=by
 intro y hy;rcases List.mem_append.1 hy with h|h
 · exact ha y h
 · exact hb y h
theorem Sm.take {l:List Nat} (h:Sm l) (k:Nat):Sm (l.take k):=fun y hy=>h y (List.mem_of_mem_take hy)
theorem Sm.drop {l:List Nat} (h:Sm l) (k:Nat):Sm (l.drop k):=fun y hy=>h y (List.mem_of_mem_drop hy)
theorem Sm.getD {l:List Nat} (h:Sm l) (k:Nat):l.getD k 0<4294967296:=by
 rcases Nat.lt_or_ge k l.length with hk|hk
 · rw[List.getD_eq_getElem?_getD,List.getElem?_eq_getElem hk];exact h _ (List.getElem_mem hk)
 · rw[List.getD_eq_getElem?_getD,List.getElem?_eq_none hk];decide
theorem Sm.set {l:List Nat} (h:Sm l) (k x:Nat) (hx:x<4294967296):Sm (l.set k x):=by
 intro y hy
 rcases List.mem_or_eq_of_mem_set hy with h'|rfl
 · exact h y h'
 · exact hx
theorem Sm.replicate (n:Nat):Sm (List.replicate n 0):=by
 intro y hy;rw[List.mem_replicate] at hy;omega

theorem val_append (a b:List Nat):val (a++b)=val a+4294967296^a.length*val b:=by
 induction a with
 |nil=>simp[val]
 |cons x a ih=>simp only[List.cons_append,val,ih,List.length_cons,Nat.pow_succ];grind
theorem val_lt {l:List Nat} (h:Sm l):val l<4294967296^l.length:=by
 induction l with
 |nil=>simp[val]
 |cons x l ih=>
  have:=ih h.tail
  have hx:=h.head
  simp only[val,List.length_cons,Nat.pow_succ]
  omega
theorem val_replicate (n:Nat):val (List.replicate n 0)=0:=by
 induction n with
 |zero=>rfl
 |succ n ih=>simp[List.replicate_succ,val,ih]
theorem pow_pos' (k:Nat):0<4294967296^k:=Nat.pow_pos (by decide)
theorem getD_lt (l:List Nat) {k:Nat} (hk:k<l.length):l.getD k 0=l[k]:=by
 rw[List.getD_eq_getElem?_getD,List.getElem?_eq_getElem hk];rfl
theorem getD_ge (l:List Nat) {k:Nat} (hk:l.length≤k):l.getD k 0=0:=by
 rw[List.getD_eq_getElem?_getD,List.getElem?_eq_none hk];rfl
theorem val_take_succ (l:List Nat) (k:Nat):val (l.take (k+1))=val (l.take k)+4294967296^k*l.getD k 0:=by
 rcases Nat.lt_or_ge k l.length with hk|hk
 · rw[List.take_succ_eq_append_getElem hk,val_append,getD_lt l hk]
   simp[val,Nat.min_eq_left (Nat.le_of_lt hk)]
 · rw[List.take_of_length_le (by omega),List.take_of_length_le (by omega),getD_ge l hk];simp
theorem val_split (l:List Nat) (k:Nat) (hk:k≤l.length):val l=val (l.take k)+4294967296^k*val (l.drop k):=by
 have:=val_append (l.take k) (l.drop k)
 rw[List.take_append_drop,List.length_take,Nat.min_eq_left hk] at this
 exact this
theorem val_drop_succ (l:List Nat) (k:Nat):val (l.drop k)=l.getD k 0+4294967296*val (l.drop (k+1)):=by
 rcases Nat.lt_or_ge k l.length with hk|hk
 · rw[List.drop_eq_getElem_cons hk,getD_lt l hk];rfl
 · rw[List.drop_of_length_le hk,List.drop_of_length_le (by omega),getD_ge l hk];rfl
theorem val_drop (l:List Nat) (h:Sm l) (k:Nat):val (l.drop k)=val l/4294967296^k:=by
 rcases Nat.le_total k l.length with hk|hk
 · have h1:=val_split l k hk
   have h2:=val_lt (h.take k)
   rw[List.length_take,Nat.min_eq_left hk] at h2
   rw[h1,Nat.add_mul_div_left _ _ (pow_pos' k),Nat.div_eq_of_lt h2,Nat.zero_add]
 · rw[List.drop_of_length_le hk]
   have h1:=val_lt h
   rw[Nat.div_eq_of_lt (Nat.lt_of_lt_of_le h1 (Nat.pow_le_pow_right (by decide) hk))];rfl
theorem val_take (l:List Nat) (h:Sm l) (k:Nat):val (l.take k)=val l%4294967296^k:=by
 rcases Nat.le_total k l.length with hk|hk
 · have h1:=val_split l k hk
   have h2:=val_lt (h.take k)
   rw[List.length_take,Nat.min_eq_left hk] at h2
   rw[h1,Nat.add_mul_mod_self_left,Nat.mod_eq_of_lt h2]
 · rw[List.take_of_length_le hk]
   have h1:=val_lt h
   rw[Nat.mod_eq_of_lt (Nat.lt_of_lt_of_le h1 (Nat.pow_le_pow_right (by decide) hk))]
theorem getD_val (l:List Nat) (h:Sm l) (k:Nat):l.getD k 0=val l/4294967296^k%4294967296:=by
 rw[←val_drop l h k,val_drop_succ,Nat.add_mul_mod_self_left,Nat.mod_eq_of_lt (h.getD k)]

def nth (l:List Nat) (k:Nat):Nat:=l.getD k 0
theorem nth_lt (l:List Nat) {k:Nat} (hk:k<l.length):nth l k=l[k]:=getD_lt l hk
theorem nth_ge (l:List Nat) {k:Nat} (hk:l.length≤k):nth l k=0:=getD_ge l hk
theorem Sm.nth {l:List Nat} (h:Sm l) (k:Nat):nth l k<4294967296:=h.getD k
theorem val_take_succ' (l:List Nat) (k:Nat):val (l.take (k+1))=val (l.take k)+4294967296^k*nth l k:=val_take_succ l k
theorem last_nth {l:List Nat} (h:l≠[]):l.getLast?=some (nth l (l.length-1)):=by
 have:l.length-1<l.length:=by have:=List.length_pos_iff.2 h;omega
 rw[List.getLast?_eq_getElem?,nth_lt l this,List.getElem?_eq_getElem this]
theorem nth_set_eq (l:List Nat) (k x:Nat) (hk:k<l.length):nth (l.set k x) k=x:=by
 rw[nth_lt _ (by simpa using hk)];simp
theorem nth_set_ne (l:List Nat) (k j x:Nat) (h:k≠j):nth (l.set k x) j=nth l j:=by
 unfold nth;rw[List.getD_eq_getElem?_getD,List.getD_eq_getElem?_getD,List.getElem?_set_ne h]
theorem take_set_succ (l:List Nat) (k x:Nat) (hk:k<l.length):(l.set k x).take (k+1)=l.take k++[x]:=by
 rw[List.take_succ_eq_append_getElem (by simpa using hk),List.take_set_of_le (Nat.le_refl _)];simp
theorem nth_replicate (n k:Nat):nth (List.replicate n 0) k=0:=by
 unfold nth;rw[List.getD_eq_getElem?_getD,List.getElem?_replicate];split <;> rfl

theorem limbsF_val:∀k n:Nat,n≤k→val (limbsF k n)=n
 |0,n,h=>by obtain rfl:n=0:=by omega
            rfl
 |k+1,n,h=>by
  unfold limbsF
  by_cases h0:n=0
  · rw[if_pos h0,h0];rfl
  · rw[if_neg h0]
    simp only[val]
    rw[limbsF_val k (n/4294967296) (by omega)]
    omega
theorem limbsF_sm:∀k n:Nat,Sm (limbsF k n)
 |0,n=>Sm.nil
 |k+1,n=>by
  unfold limbsF
  by_cases h0:n=0
  · rw[if_pos h0];exact Sm.nil
  · rw[if_neg h0];exact Sm.cons (by omega) (limbsF_sm k _)
theorem limbsF_last:∀k n:Nat,n≤k→(limbsF k n).getLast?≠some 0
 |0,n,h=>by simp[limbsF]
 |k+1,n,h=>by
  unfold limbsF
  by_cases h0:n=0
  · rw[if_pos h0];simp
  · rw[if_neg h0]
    have ih:=limbsF_last k (n/4294967296) (by omega)
    have hv:=limbsF_val k (n/4294967296) (by omega)
    cases hl:limbsF k (n/4294967296) with
    |nil=>
     rw[hl] at hv
     simp only[val] at hv
     simp only[List.getLast?_singleton,ne_eq,Option.some.injEq]
     omega
    |cons y t=>rw[hl] at ih;rw[List.getLast?_cons_cons];exact ih
@[simp] theorem val_limbs (n:Nat):val (limbs n)=n:=limbsF_val n n (Nat.le_refl n)
theorem sm_limbs (n:Nat):Sm (limbs n):=limbsF_sm n n
theorem last_limbs (n:Nat):(limbs n).getLast?≠some 0:=limbsF_last n n (Nat.le_refl n)
theorem val_pos_of_last:∀{l:List Nat},l≠[]→l.getLast?≠some 0→4294967296^(l.length-1)≤val l
 |[],h,_=>absurd rfl h
 |[x],_,h=>by simp at h;simp[val];omega
 |x :: y :: t,_,h=>by
  rw[List.getLast?_cons_cons] at h
  have ih:=val_pos_of_last (l:=y :: t) (by simp) h
  simp only[val,List.length_cons,Nat.add_sub_cancel,Nat.pow_succ] at ih ⊢
  omega
theorem canon_unique:∀{a b:List Nat},Sm a→Sm b→a.getLast?≠some 0→b.getLast?≠some 0→val a=val b→a=b
 |[],[],_,_,_,_,_=>rfl
 |[],y :: t,_,_,_,hb,h=>by
  have h1:=val_pos_of_last (l:=y :: t) (by simp) hb
  have h2:=pow_pos' ((y :: t).length-1)
  have h3:val []=0:=rfl
  omega
 |x :: s,[],_,_,ha,_,h=>by
  have h1:=val_pos_of_last (l:=x :: s) (by simp) ha
  have h2:=pow_pos' ((x :: s).length-1)
  have h3:val []=0:=rfl
  omega
 |x :: s,y :: t,ga,gb,ha,hb,h=>by
  have hx:=ga.head
  have hy:=gb.head
  simp only[val] at h
  have h1:x=y:=by omega
  have h2:val s=val t:=by omega
  subst h1
  have hs:s.getLast?≠some 0:=by
   cases s with
   |nil=>simp
   |cons z r=>rw[List.getLast?_cons_cons] at ha;exact ha
  have ht:t.getLast?≠some 0:=by
   cases t with
   |nil=>simp
   |cons z r=>rw[List.getLast?_cons_cons] at hb;exact hb
  rw[canon_unique ga.tail gb.tail hs ht h2]
theorem limbs_of {l:List Nat} (h:Sm l) (hl:l.getLast?≠some 0):limbs (val l)=l:=
 canon_unique (sm_limbs _) h (last_limbs _) hl (val_limbs _)
theorem val_trim (l:List Nat):val (trim l)=val l:=by
 induction l with
 |nil=>rfl
 |cons x l ih=>
  unfold trim
  by_cases h:x=0∧trim l=[]
  · rw[if_pos h]
    rw[h.2] at ih
    simp only[val,h.1] at ih ⊢
    omega
  · rw[if_neg h];simp only[val,ih]
theorem sm_trim {l:List Nat} (h:Sm l):Sm (trim l):=by
 induction l with
 |nil=>exact h
 |cons x l ih=>
  unfold trim
  by_cases hh:x=0∧trim l=[]
  · rw[if_pos hh];exact Sm.nil
  · rw[if_neg hh];exact Sm.cons h.head (ih h.tail)
theorem last_trim (l:List Nat):(trim l).getLast?≠some 0:=by
 induction l with
 |nil=>simp[trim]
 |cons x l ih=>
  unfold trim
  by_cases hh:x=0∧trim l=[]
  · rw[if_pos hh];simp
  · rw[if_neg hh]
    cases ht:trim l with
    |nil=>simp only[ht,and_true] at hh;simpa using hh
    |cons y t=>rw[ht] at ih;rw[List.getLast?_cons_cons];exact ih
theorem trim_eq {l:List Nat} (h:Sm l):trim l=limbs (val l):=by
 rw[←val_trim l,limbs_of (sm_trim h) (last_trim l)]
theorem take_limbs {l:List Nat} (h:Sm l) (n:Nat) (hn:n≤l.length) (hz:∀j,n≤j→l.getD j 0=0) (hl:n=0∨l.getD (n-1) 0≠0):l.take n=limbs (val l):=by
 have hd:val (l.drop n)=0:=by
  have:∀(m:Nat) (t:List Nat),t.length=m→(∀j,t.getD j 0=0)→val t=0:=by
   intro m
   induction m with
   |zero=>intro t ht _;rw[List.eq_nil_of_length_eq_zero ht];rfl
   |succ m ih=>
    intro t ht hj
    match t,ht with
    |x :: t,ht=>
     have h0:=hj 0
     have:=ih t (by simpa using ht) (fun j=>by have:=hj (j+1);simpa using this)
     simp only[val,this]
     simpa using h0
  refine this _ _ rfl fun j=>?_
  have:=hz (n+j) (by omega)
  simpa [List.getD_eq_getElem?_getD,List.getElem?_drop] using this
 have hv:val (l.take n)=val l:=by rw[val_split l n hn,hd];simp
 rw[←hv]
 refine(limbs_of (h.take n) ?_).symm
 rcases hl with h0|h0
 · subst h0;simp
 · rw[List.getLast?_eq_getElem?,List.length_take,Nat.min_eq_left hn,List.getElem?_take]
   intro hc
   by_cases h1:n=0
   · subst h1;simp at hc
   · rw[if_pos (by omega)] at hc
     rw[List.getD_eq_getElem?_getD,hc] at h0
     exact h0 rfl
theorem length_limbs_le (n k:Nat):(limbs n).length≤k↔n<4294967296^k:=by
 constructor
 · intro h
   have:=val_lt (sm_limbs n)
   rw[val_limbs] at this
   exact Nat.lt_of_lt_of_le this (Nat.pow_le_pow_right (by decide) h)
 · intro h
   rcases Nat.lt_or_ge k (limbs n).length with hk|hk
   · exfalso
     have h0:limbs n≠[]:=by intro e;rw[e] at hk;simp at hk
     have:=val_pos_of_last h0 (last_limbs n)
     rw[val_limbs] at this
     have h2:4294967296^k≤4294967296^((limbs n).length-1):=Nat.pow_le_pow_right (by decide) (by omega)
     omega
   · exact hk
theorem limbs_zero:limbs 0=[]:=rfl
theorem limbs_eq_nil {n:Nat}:limbs n=[]↔n=0:=by
 constructor
 · intro h;have:=val_limbs n;rw[h] at this;exact this.symm
 · intro h;rw[h];rfl
theorem limbs_small {n:Nat} (h:n<4294967296) (h0:n≠0):limbs n=[n]:=by
 have:val [n]=n:=by simp[val]
 rw[←this]
 rw[limbs_of (Sm.cons h Sm.nil) (by simpa using h0),this]

theorem trim_end {l:List Nat} (h:Sm l) (k:Nat) (hk:k≤l.length) (hz:∀j,k≤j→nth l j=0) (hl:k=0∨nth l (k-1)≠0):limbs (val l)=l.take k∧(limbs (val l)).length=k:=by
 have:=take_limbs h k hk hz hl
 exact⟨this.symm,by rw[←this,List.length_take,Nat.min_eq_left hk]⟩

theorem trim_prefix (l:List Nat):trim l=l.take (trim l).length:=by
 induction l with
 |nil=>rfl
 |cons x l ih=>
  unfold trim
  by_cases hh:x=0∧trim l=[]
  · rw[if_pos hh];rfl
  · rw[if_neg hh,List.length_cons,List.take_succ_cons, ←ih]
theorem limbs_prefix {l:List Nat} (h:Sm l):limbs (val l)=l.take (limbs (val l)).length:=by
 rw[←trim_eq h];exact trim_prefix l
theorem limbs_length_le {l:List Nat} (h:Sm l):(limbs (val l)).length≤l.length:=by
 rw[limbs_prefix h,List.length_take];exact Nat.min_le_right _ _

theorem drop_set_succ (l:List Nat) (k x:Nat):(l.set k x).drop (k+1)=l.drop (k+1):=by
 rw[List.drop_set_of_lt (by omega)]
theorem val_drop_set (l:List Nat) (k x:Nat) (hk:k<l.length):val ((l.set k x).drop k)=x+4294967296*val (l.drop (k+1)):=by
 rw[val_drop_succ,drop_set_succ]
 have:=nth_set_eq l k x hk
 unfold nth at this
 rw[this]
theorem val_drop_nth (l:List Nat) (k:Nat):val (l.drop k)=nth l k+4294967296*val (l.drop (k+1)):=val_drop_succ l k
theorem over_step {l o:List Nat} {k d r:Nat} (hk:k<o.length) (hd:0<d) (h:val (l.drop (k+1))=d*val (o.drop (k+1))+r):
 val (l.drop k)=d*val ((o.set k ((r*4294967296+nth l k)/d)).drop k)+(r*4294967296+nth l k)%d:=by
 have e:=Nat.div_add_mod (r*4294967296+nth l k) d
 rw[val_drop_nth,h,val_drop_set o k _ hk]
 generalize (r*4294967296+nth l k)/d=q at e ⊢
 generalize (r*4294967296+nth l k)%d=m at e ⊢
 rw[Nat.mul_add 4294967296,Nat.mul_add d]
 have:d*(4294967296*val (o.drop (k+1)))=4294967296*(d*val (o.drop (k+1))):=Nat.mul_left_comm _ _ _
 omega

theorem val_set (l:List Nat) (k x:Nat) (hk:k<l.length):val (l.set k x)+4294967296^k*nth l k=val l+4294967296^k*x:=by
 have h1:=val_split (l.set k x) (k+1) (by simp;omega)
 have h2:=val_split l (k+1) (by omega)
 rw[take_set_succ l k x hk,val_append,List.length_take,Nat.min_eq_left (by omega),drop_set_succ] at h1
 rw[val_take_succ'] at h2
 simp only[val,Nat.mul_zero,Nat.add_zero] at h1
 omega
theorem row_step {o:List Nat} {j P c v0 X:Nat} (hj:j<o.length) (h:val o+4294967296^j*c=v0+X):
 val (o.set j ((P+nth o j+c)%4294967296))+4294967296^(j+1)*((P+nth o j+c)/4294967296)=v0+(X+4294967296^j*P):=by
 have e:=Nat.mod_add_div (P+nth o j+c) 4294967296
 have hs:=val_set o j ((P+nth o j+c)%4294967296) hj
 generalize (P+nth o j+c)%4294967296=s at*
 generalize (P+nth o j+c)/4294967296=t at*
 rw[Nat.pow_succ]
 have e2:4294967296^j*(s+4294967296*t)=4294967296^j*(P+nth o j+c):=by rw[e]
 simp only[Nat.mul_add] at e2
 have e3:4294967296^j*(4294967296*t)=4294967296^j*4294967296*t:=by rw[Nat.mul_assoc]
 omega
theorem prod_le {a b:Nat} (ha:a<4294967296) (hb:b<4294967296):a*b≤18446744065119617025:=by
 have:=Nat.mul_le_mul (show a≤4294967295 by omega) (show b≤4294967295 by omega)
 omega
theorem up_step {l o:List Nat} {q r L k:Nat} (hlen:o.length=L+k) (h:val o+4294967296^(L+k)*q=4294967296^L*(val (l.take k)*2^r)):
 val (o++[(nth l k*2^r+q)%4294967296])+4294967296^(L+(k+1))*((nth l k*2^r+q)/4294967296)=4294967296^L*(val (l.take (k+1))*2^r):=by
 have e:=Nat.mod_add_div (nth l k*2^r+q) 4294967296
 rw[val_append,hlen,val_take_succ', ←Nat.add_assoc L k 1,Nat.pow_succ]
 generalize (nth l k*2^r+q)%4294967296=s at e ⊢
 generalize (nth l k*2^r+q)/4294967296=t at e ⊢
 simp only[val]
 rw[Nat.pow_add] at h ⊢
 grind
theorem up_bound {x q r:Nat} (hx:x<4294967296) (hq:q<2^r):(x*2^r+q)/4294967296<2^r:=by
 rw[Nat.div_lt_iff_lt_mul (by decide)]
 have:(x+1)*2^r≤4294967296*2^r:=Nat.mul_le_mul_right _ hx
 rw[Nat.add_mul] at this
 omega
theorem up_end {v m:Nat}:4294967296^(m/32)*(v*2^(m%32))=v*2^m:=by
 have:4294967296^(m/32)=2^(32*(m/32)):=by rw[Nat.pow_mul]
 rw[this,Nat.mul_left_comm, ←Nat.pow_add]
 congr 2
 omega

theorem val_lt_of_top {a b:List Nat} (hl:a.length=b.length) (ha:Sm a) (i:Nat) (hi:i<a.length) (hd:a.drop (i+1)=b.drop (i+1)) (h:a.getD i 0<b.getD i 0):val a<val b:=by
 have h1:=val_split a i (by omega)
 have h2:=val_split b i (by omega)
 rw[val_drop_succ,hd] at h1
 rw[val_drop_succ] at h2
 have h3:=val_lt (ha.take i)
 rw[List.length_take,Nat.min_eq_left (by omega)] at h3
 rw[h1,h2]
 have h4:4294967296^i*(a.getD i 0+4294967296*val (b.drop (i+1)))+4294967296^i≤4294967296^i*(b.getD i 0+4294967296*val (b.drop (i+1))):=by
  have h5:a.getD i 0+4294967296*val (b.drop (i+1))+1≤b.getD i 0+4294967296*val (b.drop (i+1)):=by omega
  have h6:=Nat.mul_le_mul_left (4294967296^i) h5
  rw[Nat.mul_succ] at h6
  exact h6
 omega
theorem val_lt_of_length {a b:List Nat} (hl:a.length<b.length) (ha:Sm a) (hb:b.getLast?≠some 0):val a<val b:=by
 have h1:=val_lt ha
 have h2:=val_pos_of_last (l:=b) (by intro e;rw[e] at hl;simp at hl) hb
 have h3:4294967296^a.length≤4294967296^(b.length-1):=Nat.pow_le_pow_right (by decide) (by omega)
 omega
theorem getD_drop_eq {a b:List Nat} (hl:a.length=b.length) (i:Nat) (hi:i<a.length) (hd:a.drop (i+1)=b.drop (i+1)) (h:a.getD i 0=b.getD i 0):a.drop i=b.drop i:=by
 rw[List.drop_eq_getElem_cons hi,List.drop_eq_getElem_cons (l:=b) (i:=i) (by omega),hd]
 rw[getD_lt a hi,getD_lt b (k:=i) (by omega)] at h
 rw[h]

def cmpV (a b:Nat):Int:=if a<b then -1 else if b<a then 1 else 0
def cmpL (a b:List Nat):Int:=if a.length<b.length then -1 else if b.length<a.length then 1 else cmpV (val a) (val b)
theorem val_inj:∀{a b:List Nat},a.length=b.length→Sm a→Sm b→val a=val b→a=b
 |[],[],_,_,_,_=>rfl
 |x :: s,y :: t,hl,ga,gb,h=>by
  have hx:=ga.head
  have hy:=gb.head
  simp only[val] at h
  have h1:x=y:=by omega
  have h2:val s=val t:=by omega
  rw[h1,val_inj (by simpa using hl) ga.tail gb.tail h2]
theorem cmpV_eq {a b:Nat}:cmpV a b=0↔a=b:=by
 unfold cmpV;constructor
 · intro h;by_cases h1:a<b
   · rw[if_pos h1] at h;omega
   · rw[if_neg h1] at h;by_cases h2:b<a
     · rw[if_pos h2] at h;omega
     · omega
 · rintro rfl;rw[if_neg (Nat.lt_irrefl _),if_neg (Nat.lt_irrefl _)]
theorem cmpV_lt {a b:Nat}:cmpV a b<0↔a<b:=by
 unfold cmpV;by_cases h1:a<b
 · rw[if_pos h1];simp[h1]
 · rw[if_neg h1];by_cases h2:b<a
   · rw[if_pos h2];simp[h1]
   · rw[if_neg h2];simp[h1]
theorem cmpL_canon {a b:List Nat} (ha:Sm a) (hb:Sm b) (la:a.getLast?≠some 0) (lb:b.getLast?≠some 0):cmpL a b=cmpV (val a) (val b):=by
 unfold cmpL
 by_cases h1:a.length<b.length
 · have:=val_lt_of_length h1 ha lb
   rw[if_pos h1];unfold cmpV;rw[if_pos this]
 · rw[if_neg h1];by_cases h2:b.length<a.length
   · have:=val_lt_of_length h2 hb la
     rw[if_pos h2];unfold cmpV;rw[if_neg (by omega),if_pos this]
   · rw[if_neg h2]
theorem cmpL_zero {a b:List Nat} (ha:Sm a) (hb:Sm b):cmpL a b=0↔a=b:=by
 unfold cmpL
 constructor
 · intro h
   by_cases h1:a.length<b.length
   · rw[if_pos h1] at h;omega
   · rw[if_neg h1] at h;by_cases h2:b.length<a.length
     · rw[if_pos h2] at h;omega
     · rw[if_neg h2] at h;exact val_inj (by omega) ha hb (cmpV_eq.1 h)
 · rintro rfl;rw[if_neg (Nat.lt_irrefl _),if_neg (Nat.lt_irrefl _)];exact cmpV_eq.2 rfl
theorem cmpL_top_lt {a b:List Nat} (hl:a.length=b.length) (ha:Sm a) (i:Nat) (hi:i<a.length) (hd:a.drop (i+1)=b.drop (i+1)) (h:nth a i<nth b i):cmpL a b= -1:=by
 have:=val_lt_of_top hl ha i hi hd h
 unfold cmpL cmpV;rw[if_neg (by omega),if_neg (by omega),if_pos this]
theorem cmpL_top_gt {a b:List Nat} (hl:a.length=b.length) (hb:Sm b) (i:Nat) (hi:i<a.length) (hd:a.drop (i+1)=b.drop (i+1)) (h:nth b i<nth a i):cmpL a b=1:=by
 have:=val_lt_of_top hl.symm hb i (by omega) hd.symm h
 unfold cmpL cmpV;rw[if_neg (by omega),if_neg (by omega),if_neg (by omega),if_pos this]
theorem drop_step {a b:List Nat} (hl:a.length=b.length) (i:Nat) (hi:i<a.length) (hd:a.drop (i+1)=b.drop (i+1)) (h:nth a i=nth b i):a.drop i=b.drop i:=getD_drop_eq hl i hi hd h

def chk (l:List Nat):Int:=if 16384<l.length then 4 else if l.getLast?=some 0 then 10 else 0
def chk2 (a b:List Nat):Int:=if chk a=0 then chk b else chk a
theorem chk_zero {l:List Nat} (h:chk l=0):l.length≤16384∧l.getLast?≠some 0:=by
 unfold chk at h
 by_cases h1:16384<l.length
 · rw[if_pos h1] at h;omega
 · rw[if_neg h1] at h
   by_cases h2:l.getLast?=some 0
   · rw[if_pos h2] at h;omega
   · exact⟨by omega,h2⟩
theorem chk_of {l:List Nat} (h:l.length≤16384) (h2:l.getLast?≠some 0):chk l=0:=by
 unfold chk;rw[if_neg (by omega),if_neg h2]
theorem chk2_zero {a b:List Nat} (h:chk2 a b=0):chk a=0∧chk b=0:=by
 unfold chk2 at h;by_cases h1:chk a=0
 · rw[if_pos h1] at h;exact⟨h1,h⟩
 · rw[if_neg h1] at h;exact absurd h h1
theorem chk_limbs_of {n:Nat} (h:(limbs n).length≤16384):chk (limbs n)=0:=chk_of h (last_limbs n)
def fitS (n:Nat):List Nat × Int:=if 16384<(limbs n).length then ([],4) else (limbs n,0)
def addS (a b:List Nat):List Nat × Int:=if chk2 a b=0 then fitS (val a+val b) else ([],chk2 a b)
def mulS (a b:List Nat):List Nat × Int:=if chk2 a b=0 then if 16385<a.length+b.length then ([],4) else fitS (val a*val b) else ([],chk2 a b)
def upS (l:List Nat) (n:Int):List Nat × Int:=
 if chk l=0 then if n<0 then ([],2) else if l=[] then ([],0) else if 524288-(bitLen (val l):Int)<n then ([],4) else (limbs (val l*2^n.toNat),0) else ([],chk l)
theorem chk_bits {l:List Nat} (h:Sm l) (hc:chk l=0):bitLen (val l)≤524288:=by
 have h1:=val_lt h
 have h2:val l<2^(32*l.length):=by rw[Nat.pow_mul];exact h1
 have h3:=(chk_zero hc).1
 unfold bitLen
 by_cases h0:val l=0
 · rw[if_pos h0];omega
 · rw[if_neg h0];have:=(Nat.log2_lt h0).2 h2;omega
end Go.Proofs.YtenekbfnlbipiaaGreatDoor
namespace Go.Proofs.YtenekbfnlbipiaaGreatDoor
open Go.RowKit
set_option linter.unusedVariables false
set_option linter.unusedSimpArgs false

theorem below_cell {B:Nat} {W w1:World} (hb:Below B W w1) {b o:Nat} (h:b<B):w1.cell? ⟨b,o,none⟩=W.cell? ⟨b,o,none⟩:=hb.cell (p:=⟨b,o,none⟩) h
theorem below_frozen {B:Nat} {W w1:World} (hb:Below B W w1) {b o:Nat} (h:b<B):w1.frozen? ⟨b,o,none⟩=W.frozen? ⟨b,o,none⟩:=hb.frozen (p:=⟨b,o,none⟩) h
theorem bcell {W w1:World} (hb:Below W.heap.size W w1):(∀b o,b<W.heap.size→w1.cell? ⟨b,o,none⟩=W.cell? ⟨b,o,none⟩)∧(∀b o,b<W.heap.size→w1.frozen? ⟨b,o,none⟩=W.frozen? ⟨b,o,none⟩):=
 ⟨fun b o h=>hb.cell (p:=⟨b,o,none⟩) h,fun b o h=>hb.frozen (p:=⟨b,o,none⟩) h⟩
theorem cell_lt {w:World} {a:Addr} {v:Value} (h:w.cell? a=some v):a.block<w.heap.size:=by
 unfold World.cell? at h
 rcases Nat.lt_or_ge a.block w.heap.size with hlt|hge
 · exact hlt
 · rw[Array.getElem?_eq_none hge] at h;cases h

def Rd (w:World) (A:Option Addr) (l:List Nat):Prop:=
 Sm l∧l.length≤35184372088960∧(0<l.length→∃b off,A=some ⟨b,off,none⟩∧∀j,j<l.length→w.cell? ⟨b,off+j,none⟩=some (.int .u32 ((nth l j:Nat):Int)))
theorem Rd.sm {w:World} {A:Option Addr} {l:List Nat} (h:Rd w A l):Sm l:=h.1
theorem Rd.len {w:World} {A:Option Addr} {l:List Nat} (h:Rd w A l):l.length≤35184372088960:=h.2.1
theorem Rd.nil (w:World) (A:Option Addr):Rd w A []:=⟨Sm.nil,by simp,fun h=>absurd h (by simp)⟩
theorem Rd.keep {w w':World} {A:Option Addr} {l:List Nat} (h:Rd w A l) (hk:∀p:Addr,p.block<w.heap.size→w'.cell? p=w.cell? p):Rd w' A l:=
 ⟨h.1,h.2.1,fun hn=>by
   obtain⟨b,off,e,hc⟩:=h.2.2 hn
   exact⟨b,off,e,fun j hj=>(hk _ (cell_lt (hc j hj))).trans (hc j hj)⟩⟩
theorem Rd.below {w w':World} {A:Option Addr} {l:List Nat} (h:Rd w A l) (hb:Below w.heap.size w w'):Rd w' A l:=h.keep fun _ hp=>hb.cell hp
theorem Rd.alloc {w:World} {A:Option Addr} {l:List Nat} (h:Rd w A l) (o:Obj):Rd (w.alloc o) A l:=h.keep fun p hp=>World.cell?_alloc_lt w o p hp
theorem Rd.drew {w:World} {A:Option Addr} {l:List Nat} (h:Rd w A l):Rd w.drew A l:=h
theorem Rd.open_ {w:World} {A:Option Addr} {l:List Nat} (h:Rd w A l) (hn:0<l.length):∃b off,A=some ⟨b,off,none⟩∧∀j,j<l.length→w.cell? ⟨b,off+j,none⟩=some (.int .u32 ((nth l j:Nat):Int)):=h.2.2 hn

def Blk (w:World) (g:Nat) (t:TypeId) (cs:Array Value):Prop:=w.heap[g]?=some (.cells cs t (0,0))
section
variable {w w':World} {g:Nat} {t:TypeId} {cs:Array Value}
theorem Blk.lt (h:Blk w g t cs):g<w.heap.size:=(Array.getElem?_eq_some_iff.1 h).1
theorem Blk.cell (h:Blk w g t cs) (i:Nat):w.cell? ⟨g,i,none⟩=cs[i]?:=cell_of_row w g i cs t (0,0) h
theorem Blk.frozen (h:Blk w g t cs) (i:Nat):w.frozen? ⟨g,i,none⟩=false:=by
 unfold Blk at h;simp[World.frozen?,h]
theorem Blk.new (w:World) (t:TypeId) (cs:Array Value):Blk (w.alloc (.cells cs t)) w.heap.size t cs:=heap_alloc_new w _
theorem Blk.drew (h:Blk w g t cs):Blk w.drew g t cs:=h
theorem Blk.drewN (h:Blk w g t cs) (n:Nat):Blk (w.drewN n) g t cs:=h
theorem Blk.alloc (h:Blk w g t cs) (o:Obj):Blk (w.alloc o) g t cs:=(Below.heap_alloc w o g h.lt).trans h
theorem Blk.set_ (h:Blk w g t cs) (i:Nat) (u:Value):Blk (w.setCell ⟨g,i,none⟩ u) g t (cs.setIfInBounds i u):=by
 unfold Blk at h ⊢;simp[World.setCell,Array.getElem?_modify,h]
theorem Blk.far (h:Blk w g t cs) {p:Addr} (hp:g≠p.block) (u:Value):Blk (w.setCell p u) g t cs:=(Below.heap_setCell w p u g hp).trans h
theorem Blk.below {B:Nat} (h:Blk w g t cs) (hb:Below B w w') (hg:g<B):Blk w' g t cs:=(hb.block g hg).trans h
end

def c32 (l:List Nat):Array Value:=(l.map fun x:Nat=>Value.int .u32 (x:Int)).toArray
theorem c32_size (l:List Nat):(c32 l).size=l.length:=by simp[c32]
theorem c32_get (l:List Nat) (i:Nat) (h:i<l.length):(c32 l)[i]?=some (.int .u32 ((nth l i:Nat):Int)):=by
 rw[nth_lt l h];simp[c32,h]
theorem c32_set (l:List Nat) (i x:Nat):(c32 l).setIfInBounds i (.int .u32 (x:Int))=c32 (l.set i x):=by
 simp[c32,List.map_set]

def Row (w:World) (t:TypeId) (g:Nat) (l:List Nat):Prop:=Blk w g t (c32 l)
section
variable {w w':World} {g:Nat} {t:TypeId} {l:List Nat}
theorem Row.lt (h:Row w t g l):g<w.heap.size:=Blk.lt h
theorem Row.cell (h:Row w t g l) (i:Nat) (hi:i<l.length):w.cell? ⟨g,i,none⟩=some (.int .u32 ((nth l i:Nat):Int)):=(Blk.cell h i).trans (c32_get l i hi)
theorem Row.frozen (h:Row w t g l) (i:Nat):w.frozen? ⟨g,i,none⟩=false:=Blk.frozen h i
theorem Row.set_ (h:Row w t g l) (i x:Nat):Row (w.setCell ⟨g,i,none⟩ (.int .u32 (x:Int))) t g (l.set i x):=by
 unfold Row;rw[←c32_set];exact Blk.set_ h i _
theorem Row.alloc (h:Row w t g l) (o:Obj):Row (w.alloc o) t g l:=Blk.alloc h o
theorem Row.below {B:Nat} (h:Row w t g l) (hb:Below B w w') (hg:g<B):Row w' t g l:=Blk.below h hb hg
theorem Row.rd (h:Row w t g l) (hs:Sm l) (hl:l.length≤35184372088960) (i n:Nat) (hn:i+n≤l.length) (A:Option Addr) (hA:A=some ⟨g,i,none⟩):Rd w A ((l.drop i).take n):=by
 have hlen:((l.drop i).take n).length=n:=by simp;omega
 refine⟨(hs.drop i).take n,by omega,fun _=>⟨g,i,hA,fun j hj=>?_⟩⟩
 rw[hlen] at hj
 rw[h.cell (i+j) (by omega)]
 have:nth ((l.drop i).take n) j=nth l (i+j):=by
  rw[nth_lt _ (by rw[hlen];exact hj),nth_lt _ (by omega)];simp
 rw[this]
end

def Own (w:World) (t:TypeId) (B:Nat) (A:Option Addr) (c:Nat) (l:List Nat):Prop:=
 Sm l∧l.length≤35184372088960∧((A=none∧l=[]∧c=0)∨
   ∃g cur,A=some ⟨g,0,none⟩∧B≤g∧Blk w g t cur∧l.length≤c∧c≤cur.size∧∀j,j<l.length→cur[j]?=some (.int .u32 ((nth l j:Nat):Int)))
section
variable {w w':World} {B c:Nat} {t:TypeId} {A:Option Addr} {l:List Nat}
theorem Own.sm (h:Own w t B A c l):Sm l:=h.1
theorem Own.nil (w:World) (t:TypeId) (B:Nat):Own w t B none 0 []:=⟨Sm.nil,by simp,.inl ⟨rfl,rfl,rfl⟩⟩
theorem Own.rd (h:Own w t B A c l):Rd w A l:=by
 refine⟨h.1,h.2.1,fun hn=>?_⟩
 rcases h.2.2 with ⟨_,rfl,_⟩|⟨g,cur,rfl,_,hb,_,_,hc⟩
 · simp at hn
 · exact⟨g,0,rfl,fun j hj=>by rw[hb.cell];simpa using hc j hj⟩
theorem Own.below {B':Nat} (h:Own w t B A c l) (hb:Below B' w w') (hB:w.heap.size≤B'):Own w' t B A c l:=by
 refine⟨h.1,h.2.1,?_⟩
 rcases h.2.2 with h|⟨g,cur,e,hg,hk,r⟩
 · exact .inl h
 · exact .inr ⟨g,cur,e,hg,hk.below hb (Nat.lt_of_lt_of_le hk.lt hB),r⟩
theorem Own.alloc (h:Own w t B A c l) (o:Obj):Own (w.alloc o) t B A c l:=by
 refine⟨h.1,h.2.1,?_⟩
 rcases h.2.2 with h|⟨g,cur,e,hg,hk,r⟩
 · exact .inl h
 · exact .inr ⟨g,cur,e,hg,hk.alloc o,r⟩
theorem Own.mono {B':Nat} (h:Own w t B A c l) (hB:B'≤B):Own w t B' A c l:=by
 refine⟨h.1,h.2.1,?_⟩
 rcases h.2.2 with h|⟨g,cur,e,hg,r⟩
 · exact .inl h
 · exact .inr ⟨g,cur,e,Nat.le_trans hB hg,r⟩
theorem Own.block (h:Own w t B A c l) {g:Nat} (hg:A.map (·.block)=some g):B≤g∧g<w.heap.size:=by
 rcases h.2.2 with ⟨rfl,_⟩|⟨g',cur,rfl,hB,hk,_⟩
 · simp at hg
 · simp at hg;subst hg;exact⟨hB,hk.lt⟩
theorem Row.own {g:Nat} (h:Row w t g l) (hs:Sm l) (hl:l.length≤35184372088960) (hB:B≤g) (n:Nat) (hn:n≤c) (hc:c≤l.length):Own w t B (some ⟨g,0,none⟩) c (l.take n):=by
 refine⟨hs.take n,by simp;omega,.inr ⟨g,c32 l,rfl,hB,h,by simp;omega,by rw[c32_size];exact hc,fun j hj=>?_⟩⟩
 simp only[List.length_take] at hj
 rw[c32_get l j (by omega)]
 have:nth (l.take n) j=nth l j:=by
  rw[nth_lt _ (by simp;omega),nth_lt _ (by omega)];simp
 rw[this]
end

theorem Own.take {w:World} {B c:Nat} {t:TypeId} {A:Option Addr} {l:List Nat} (h:Own w t B A c l) (n:Nat):Own w t B A c (l.take n):=by
 refine⟨h.1.take n,by have:=h.2.1;simp;omega,?_⟩
 rcases h.2.2 with ⟨h1,h2,h3⟩|⟨g,cur,e,hg,hk,h1,h2,h3⟩
 · exact .inl ⟨h1,by rw[h2];simp,h3⟩
 · refine .inr ⟨g,cur,e,hg,hk,by simp;omega,h2,fun j hj=>?_⟩
   simp only[List.length_take] at hj
   rw[h3 j (by omega)]
   have:nth (l.take n) j=nth l j:=by
    rw[nth_lt _ (by simp;omega),nth_lt _ (by omega)];simp
   rw[this]
theorem Own.trim {w:World} {B c:Nat} {t:TypeId} {A:Option Addr} {l:List Nat} (h:Own w t B A c l):Own w t B A c (limbs (val l)):=by
 rw[limbs_prefix h.1];exact h.take _
theorem ret_int {k:IntKind} {a b:Int} (h:a=b):Ending.returned (.int k a)=.returned (.int k b):=by rw[h]
theorem ret_pair {k k':IntKind} {a a' b b':Int} (h:a=a') (h':b=b'):Ending.returned (.tuple #[.int k a,.int k' b])=.returned (.tuple #[.int k a',.int k' b']):=by rw[h,h']
theorem Own.setCell {w:World} {B c:Nat} {t:TypeId} {A:Option Addr} {l:List Nat} (h:Own w t B A c l) {p:Addr} (hp:p.block<B) (u:Value):Own (w.setCell p u) t B A c l:=by
 refine⟨h.1,h.2.1,?_⟩
 rcases h.2.2 with h|⟨g,cur,e,hg,hk,r⟩
 · exact .inl h
 · exact .inr ⟨g,cur,e,hg,hk.far (by omega) u,r⟩
theorem Own.setNe {w:World} {B c:Nat} {t:TypeId} {A:Option Addr} {l:List Nat} {g:Nat} (h:Own w t B A c l) (hA:A=none∨A=some ⟨g,0,none⟩) {p:Addr} (hp:g≠p.block) (u:Value):Own (w.setCell p u) t B A c l:=by
 refine⟨h.1,h.2.1,?_⟩
 rcases h.2.2 with h|⟨g',cur,e,hg,hk,r⟩
 · exact .inl h
 · refine .inr ⟨g',cur,e,hg,hk.far ?_ u,r⟩
   rcases hA with hA|hA
   · rw[hA] at e;cases e
   · rw[hA] at e;injection e with e;injection e with e;rw[←e];exact hp
theorem Own.drew {w:World} {B c:Nat} {t:TypeId} {A:Option Addr} {l:List Nat} (h:Own w t B A c l):Own w.drew t B A c l:=h
theorem Row.far {w:World} {t:TypeId} {g:Nat} {l:List Nat} (h:Row w t g l) {p:Addr} (hp:g≠p.block) (u:Value):Row (w.setCell p u) t g l:=Blk.far h hp u
theorem Row.rd0 {w:World} {t:TypeId} {g:Nat} {l:List Nat} (h:Row w t g l) (hs:Sm l) (hl:l.length≤35184372088960):Rd w (some ⟨g,0,none⟩) l:=
 ⟨hs,hl,fun _=>⟨g,0,rfl,fun j hj=>by rw[h.cell (0+j) (by omega),Nat.zero_add]⟩⟩
theorem row_new {w:World} {t:TypeId} {g:Nat} {cs:Array Value} {l:List Nat} (hc:cs=c32 l) (hg:g=w.heap.size):Row (w.alloc (.cells cs t)) t g l:=by
 subst hc hg;exact Blk.new w t _
theorem Row.setE {w:World} {t:TypeId} {g:Nat} {l:List Nat} (h:Row w t g l) (i x:Nat) {E:Int} (hE:E=(x:Int)):Row (w.setCell ⟨g,i,none⟩ (.int .u32 E)) t g (l.set i x):=by
 rw[hE];exact h.set_ i x
theorem vi {k:IntKind} {a b:Int} (h:a=b):Value.int k a=Value.int k b:=by rw[h]
theorem run_make32 {P:Program} (t e:TypeId) (i:TypeInfo) (ht:P.underlying t=some (.slice e)) (hi:P.info? e=some i) (hz:i.zero=some (.int .u32 0)) (hs:i.size=1) (hb:i.bytes=4)
 (n:Nat) (N:Int) (hN:N=(n:Int)) (hn:n≤70368744177664) (w:World):
 (Instr.makeSlice t (.int .i64 N) (.int .i64 N)).run P w=.ok (.slice (some ⟨w.heap.size,0,none⟩) n n) (w.alloc (.cells (c32 (List.replicate n 0)) e)):=by
 have hr:=run_make (P:=P) w t e i _ ht hi hz .i64 .i64 N N (by omega) (by omega) (by rw[hb];omega) (by omega)
 rw[hr,hs,hN]
 have hc:madeCells (Value.int .u32 0).cells (n*1)=c32 (List.replicate n 0):=by
  apply Array.ext
  · simp[madeCells,c32]
  · intro j h1 h2
    simp[madeCells,c32,Value.cells,Nat.mod_one]
 simp only[Int.toNat_natCast,hc]

def NatAns (t:TypeId) (w:World) (r:List Nat × Int) (e:Ending) (w':World):Prop:=
 ∃A c,e=.returned (.tuple #[.agg #[.slice A r.1.length c],.int .i64 r.2])∧Own w' t w.heap.size A c r.1∧Below w.heap.size w w'
def NatOne (t:TypeId) (w:World) (l:List Nat) (e:Ending) (w':World):Prop:=
 ∃A c,e=.returned (.agg #[.slice A l.length c])∧Own w' t w.heap.size A c l∧Below w.heap.size w w'
def RowSome (t:TypeId) (w:World) (P:List Nat→Prop) (e:Ending) (w':World):Prop:=
 ∃o g,P o∧Sm o∧w.heap.size≤g∧Row w' t g o∧e=.returned (.slice (some ⟨g,0,none⟩) o.length o.length)∧Below w.heap.size w w'
def Says (w:World) (v:Value) (e:Ending) (w':World):Prop:=e=.returned v∧Below w.heap.size w w'
theorem geCells {α:Type}:(∀(l:List α) (i:Nat),l.toArray[i]?=l[i]?)∧(∀(a:α) (l:List α),(a :: l)[0]?=some a)∧(∀(a:α) (l:List α) (i:Nat),(a :: l)[i+1]?=l[i]?):=⟨fun _ _=>List.getElem?_toArray ..,fun _ _=>List.getElem?_cons_zero,fun _ _ _=>List.getElem?_cons_succ⟩
theorem setP {α:Type}:(∀(l:List α) (i:Nat) (a:α),l.toArray.setIfInBounds i a=(l.set i a).toArray)∧(∀(a b:α) (l:List α),(a :: l).set 0 b=b :: l)∧(∀(a b:α) (l:List α) (i:Nat),(a :: l).set (i+1) b=a :: l.set i b):=⟨fun _ _ _=>List.setIfInBounds_toArray ..,fun _ _ _=>List.set_cons_zero,fun _ _ _ _=>List.set_cons_succ⟩
theorem Blk.b1 {w:World} {g:Nat} {t:TypeId} {x0:Value} (h:Blk w g t #[x0]):w.cell? ⟨g,0,none⟩=some x0∧g<w.heap.size∧w.frozen? ⟨g,0,none⟩=false:=⟨h.cell 0,h.lt,h.frozen 0⟩
theorem Blk.b2 {w:World} {g:Nat} {t:TypeId} {x0 x1:Value} (h:Blk w g t #[x0,x1]):w.cell? ⟨g,0,none⟩=some x0∧w.cell? ⟨g,1,none⟩=some x1∧g<w.heap.size∧w.frozen? ⟨g,0,none⟩=false∧w.frozen? ⟨g,1,none⟩=false:=⟨h.cell 0,h.cell 1,h.lt,h.frozen 0,h.frozen 1⟩
theorem Blk.b3 {w:World} {g:Nat} {t:TypeId} {x0 x1 x2:Value} (h:Blk w g t #[x0,x1,x2]):w.cell? ⟨g,0,none⟩=some x0∧w.cell? ⟨g,1,none⟩=some x1∧w.cell? ⟨g,2,none⟩=some x2∧g<w.heap.size∧w.frozen? ⟨g,0,none⟩=false∧w.frozen? ⟨g,1,none⟩=false∧w.frozen? ⟨g,2,none⟩=false:=⟨h.cell 0,h.cell 1,h.cell 2,h.lt,h.frozen 0,h.frozen 1,h.frozen 2⟩
theorem Blk.b4 {w:World} {g:Nat} {t:TypeId} {x0 x1 x2 x3:Value} (h:Blk w g t #[x0,x1,x2,x3]):w.cell? ⟨g,0,none⟩=some x0∧w.cell? ⟨g,1,none⟩=some x1∧w.cell? ⟨g,2,none⟩=some x2∧w.cell? ⟨g,3,none⟩=some x3∧g<w.heap.size∧w.frozen? ⟨g,0,none⟩=false∧w.frozen? ⟨g,1,none⟩=false∧w.frozen? ⟨g,2,none⟩=false∧w.frozen? ⟨g,3,none⟩=false:=⟨h.cell 0,h.cell 1,h.cell 2,h.cell 3,h.lt,h.frozen 0,h.frozen 1,h.frozen 2,h.frozen 3⟩
theorem Blk.b5 {w:World} {g:Nat} {t:TypeId} {x0 x1 x2 x3 x4:Value} (h:Blk w g t #[x0,x1,x2,x3,x4]):w.cell? ⟨g,0,none⟩=some x0∧w.cell? ⟨g,1,none⟩=some x1∧w.cell? ⟨g,2,none⟩=some x2∧w.cell? ⟨g,3,none⟩=some x3∧w.cell? ⟨g,4,none⟩=some x4∧g<w.heap.size∧w.frozen? ⟨g,0,none⟩=false∧w.frozen? ⟨g,1,none⟩=false∧w.frozen? ⟨g,2,none⟩=false∧w.frozen? ⟨g,3,none⟩=false∧w.frozen? ⟨g,4,none⟩=false:=⟨h.cell 0,h.cell 1,h.cell 2,h.cell 3,h.cell 4,h.lt,h.frozen 0,h.frozen 1,h.frozen 2,h.frozen 3,h.frozen 4⟩
theorem Blk.b6 {w:World} {g:Nat} {t:TypeId} {x0 x1 x2 x3 x4 x5:Value} (h:Blk w g t #[x0,x1,x2,x3,x4,x5]):w.cell? ⟨g,0,none⟩=some x0∧w.cell? ⟨g,1,none⟩=some x1∧w.cell? ⟨g,2,none⟩=some x2∧w.cell? ⟨g,3,none⟩=some x3∧w.cell? ⟨g,4,none⟩=some x4∧w.cell? ⟨g,5,none⟩=some x5∧g<w.heap.size∧w.frozen? ⟨g,0,none⟩=false∧w.frozen? ⟨g,1,none⟩=false∧w.frozen? ⟨g,2,none⟩=false∧w.frozen? ⟨g,3,none⟩=false∧w.frozen? ⟨g,4,none⟩=false∧w.frozen? ⟨g,5,none⟩=false:=⟨h.cell 0,h.cell 1,h.cell 2,h.cell 3,h.cell 4,h.cell 5,h.lt,h.frozen 0,h.frozen 1,h.frozen 2,h.frozen 3,h.frozen 4,h.frozen 5⟩
theorem Blk.b7 {w:World} {g:Nat} {t:TypeId} {x0 x1 x2 x3 x4 x5 x6:Value} (h:Blk w g t #[x0,x1,x2,x3,x4,x5,x6]):w.cell? ⟨g,0,none⟩=some x0∧w.cell? ⟨g,1,none⟩=some x1∧w.cell? ⟨g,2,none⟩=some x2∧w.cell? ⟨g,3,none⟩=some x3∧w.cell? ⟨g,4,none⟩=some x4∧w.cell? ⟨g,5,none⟩=some x5∧w.cell? ⟨g,6,none⟩=some x6∧g<w.heap.size∧w.frozen? ⟨g,0,none⟩=false∧w.frozen? ⟨g,1,none⟩=false∧w.frozen? ⟨g,2,none⟩=false∧w.frozen? ⟨g,3,none⟩=false∧w.frozen? ⟨g,4,none⟩=false∧w.frozen? ⟨g,5,none⟩=false∧w.frozen? ⟨g,6,none⟩=false:=⟨h.cell 0,h.cell 1,h.cell 2,h.cell 3,h.cell 4,h.cell 5,h.cell 6,h.lt,h.frozen 0,h.frozen 1,h.frozen 2,h.frozen 3,h.frozen 4,h.frozen 5,h.frozen 6⟩
theorem Blk.b8 {w:World} {g:Nat} {t:TypeId} {x0 x1 x2 x3 x4 x5 x6 x7:Value} (h:Blk w g t #[x0,x1,x2,x3,x4,x5,x6,x7]):w.cell? ⟨g,0,none⟩=some x0∧w.cell? ⟨g,1,none⟩=some x1∧w.cell? ⟨g,2,none⟩=some x2∧w.cell? ⟨g,3,none⟩=some x3∧w.cell? ⟨g,4,none⟩=some x4∧w.cell? ⟨g,5,none⟩=some x5∧w.cell? ⟨g,6,none⟩=some x6∧w.cell? ⟨g,7,none⟩=some x7∧g<w.heap.size∧w.frozen? ⟨g,0,none⟩=false∧w.frozen? ⟨g,1,none⟩=false∧w.frozen? ⟨g,2,none⟩=false∧w.frozen? ⟨g,3,none⟩=false∧w.frozen? ⟨g,4,none⟩=false∧w.frozen? ⟨g,5,none⟩=false∧w.frozen? ⟨g,6,none⟩=false∧w.frozen? ⟨g,7,none⟩=false:=⟨h.cell 0,h.cell 1,h.cell 2,h.cell 3,h.cell 4,h.cell 5,h.cell 6,h.cell 7,h.lt,h.frozen 0,h.frozen 1,h.frozen 2,h.frozen 3,h.frozen 4,h.frozen 5,h.frozen 6,h.frozen 7⟩
theorem Blk.a1 (w:World) (t1:TypeId) (c1:Array Value):∃v,(w.alloc (.cells c1 t1))=v∧Below w.heap.size w v∧Blk v (w.heap.size) t1 c1:=⟨_,rfl,((Below.refl _ _).alloc (Nat.le_refl _) _),(Blk.new w t1 c1)⟩
theorem Blk.a2 (w:World) (t1:TypeId) (c1:Array Value) (t2:TypeId) (c2:Array Value):∃v,((w.alloc (.cells c1 t1)).alloc (.cells c2 t2))=v∧Below w.heap.size w v∧Blk v (w.heap.size) t1 c1∧Blk v (w.heap.size+1) t2 c2:=⟨_,rfl,(((Below.refl _ _).alloc (Nat.le_refl _) _).alloc (by simp) _),((Blk.new w t1 c1).alloc _),(by simpa using (Blk.new (w.alloc (.cells c1 t1)) t2 c2))⟩
theorem Blk.a3 (w:World) (t1:TypeId) (c1:Array Value) (t2:TypeId) (c2:Array Value) (t3:TypeId) (c3:Array Value):∃v,(((w.alloc (.cells c1 t1)).alloc (.cells c2 t2)).alloc (.cells c3 t3))=v∧Below w.heap.size w v∧Blk v (w.heap.size) t1 c1∧Blk v (w.heap.size+1) t2 c2∧Blk v (w.heap.size+2) t3 c3:=⟨_,rfl,((((Below.refl _ _).alloc (Nat.le_refl _) _).alloc (by simp) _).alloc (by simp <;> omega) _),(((Blk.new w t1 c1).alloc _).alloc _),(by simpa using ((Blk.new (w.alloc (.cells c1 t1)) t2 c2).alloc _)),(by simpa using (Blk.new ((w.alloc (.cells c1 t1)).alloc (.cells c2 t2)) t3 c3))⟩
theorem Blk.a4 (w:World) (t1:TypeId) (c1:Array Value) (t2:TypeId) (c2:Array Value) (t3:TypeId) (c3:Array Value) (t4:TypeId) (c4:Array Value):∃v,((((w.alloc (.cells c1 t1)).alloc (.cells c2 t2)).alloc (.cells c3 t3)).alloc (.cells c4 t4))=v∧Below w.heap.size w v∧Blk v (w.heap.size) t1 c1∧Blk v (w.heap.size+1) t2 c2∧Blk v (w.heap.size+2) t3 c3∧Blk v (w.heap.size+3) t4 c4:=⟨_,rfl,(((((Below.refl _ _).alloc (Nat.le_refl _) _).alloc (by simp) _).alloc (by simp <;> omega) _).alloc (by simp <;> omega) _),((((Blk.new w t1 c1).alloc _).alloc _).alloc _),(by simpa using (((Blk.new (w.alloc (.cells c1 t1)) t2 c2).alloc _).alloc _)),(by simpa using ((Blk.new ((w.alloc (.cells c1 t1)).alloc (.cells c2 t2)) t3 c3).alloc _)),(by simpa using (Blk.new (((w.alloc (.cells c1 t1)).alloc (.cells c2 t2)).alloc (.cells c3 t3)) t4 c4))⟩
theorem Blk.al (w:World) (t:TypeId) (c:Array Value):∃v,v=w.alloc (.cells c t)∧Below w.heap.size w v∧Blk v w.heap.size t c:=⟨_,rfl,(Below.refl _ _).alloc (Nat.le_refl _) _,Blk.new w _ _⟩
theorem bel3 {B:Nat} {w w1:World} (h:Below B w w1) (g:Nat) (hg:B≤g) {u0 u1 u2:Value}:Below B w (((w1.setCell ⟨g,0,none⟩ u0).setCell ⟨g,1,none⟩ u1).setCell ⟨g,2,none⟩ u2):=((h.setCell (p:=⟨g,0,none⟩) hg _).setCell (p:=⟨g,1,none⟩) hg _).setCell (p:=⟨g,2,none⟩) hg _
theorem nrf {n:Nat}:n≤n:=Nat.le_refl n
theorem bdnM {B:Nat} {a w:World} (h:Below B a w) (n:Nat):Below B a (w.drewN n):=h.trans ⟨rfl,rfl,rfl,Nat.le_refl _,fun _ _=>rfl⟩
theorem bbel {B:Nat} {w w1:World} (h:Below B w w1:=by repeat' (first|(with_reducible assumption)|(with_reducible exact Below.refl _ _)|(with_reducible refine bdnM ?_ _)|(with_reducible refine Below.drew ?_)|(with_reducible refine Below.setCell ?_ ?_ _)|(with_reducible refine Below.alloc ?_ ?_ _)|go_size)):Below B w w1:=h
end Go.Proofs.YtenekbfnlbipiaaGreatDoor
