/- Plain laws on lists of limbs (numbers below 2 to the power of 32, the lowest first): their worth, the one list of each number without a 0 at its end. No program here. -/
import Derived.WalkKit
namespace Go.Proofs.YtenekbfnlbipiaaGreatDoor
set_option linter.unusedVariables false
set_option linter.unusedSimpArgs false

def val : List Nat → Nat
  | [] => 0
  | x :: l => x + 4294967296 * val l
def Sm (l : List Nat) : Prop := ∀ x ∈ l, x < 4294967296
def trim : List Nat → List Nat
  | [] => []
  | x :: l => if x = 0 ∧ trim l = [] then [] else x :: trim l
def limbsF : Nat → Nat → List Nat
  | 0, _ => []
  | k + 1, n => if n = 0 then [] else n % 4294967296 :: limbsF k (n / 4294967296)
def limbs (n : Nat) : List Nat := limbsF n n

theorem Sm.nil : Sm [] := by intro x h; cases h
theorem Sm.cons {x : Nat} {l : List Nat} (hx : x < 4294967296) (h : Sm l) : Sm (x :: l) := by
  intro y hy; rcases List.mem_cons.1 hy with rfl | hy
  · exact hx
  · exact h y hy
theorem Sm.tail {x : Nat} {l : List Nat} (h : Sm (x :: l)) : Sm l := fun y hy => h y (List.mem_cons_of_mem _ hy)
theorem Sm.head {x : Nat} {l : List Nat} (h : Sm (x :: l)) : x < 4294967296 := h x List.mem_cons_self
theorem Sm.append {a b : List Nat} (ha : Sm a) (hb : Sm b) : Sm (a ++ b) := by
  intro y hy; rcases List.mem_append.1 hy with h | h
  · exact ha y h
  · exact hb y h
theorem Sm.take {l : List Nat} (h : Sm l) (k : Nat) : Sm (l.take k) := fun y hy => h y (List.mem_of_mem_take hy)
theorem Sm.drop {l : List Nat} (h : Sm l) (k : Nat) : Sm (l.drop k) := fun y hy => h y (List.mem_of_mem_drop hy)
theorem Sm.getD {l : List Nat} (h : Sm l) (k : Nat) : l.getD k 0 < 4294967296 := by
  rcases Nat.lt_or_ge k l.length with hk | hk
  · rw [List.getD_eq_getElem?_getD, List.getElem?_eq_getElem hk]; exact h _ (List.getElem_mem hk)
  · rw [List.getD_eq_getElem?_getD, List.getElem?_eq_none hk]; decide
theorem Sm.set {l : List Nat} (h : Sm l) (k x : Nat) (hx : x < 4294967296) : Sm (l.set k x) := by
  intro y hy
  rcases List.mem_or_eq_of_mem_set hy with h' | rfl
  · exact h y h'
  · exact hx
theorem Sm.replicate (n : Nat) : Sm (List.replicate n 0) := by
  intro y hy; rw [List.mem_replicate] at hy; omega

theorem val_append (a b : List Nat) : val (a ++ b) = val a + 4294967296 ^ a.length * val b := by
  induction a with
  | nil => simp [val]
  | cons x a ih => simp only [List.cons_append, val, ih, List.length_cons, Nat.pow_succ]; grind
theorem val_lt {l : List Nat} (h : Sm l) : val l < 4294967296 ^ l.length := by
  induction l with
  | nil => simp [val]
  | cons x l ih =>
    have := ih h.tail
    have hx := h.head
    simp only [val, List.length_cons, Nat.pow_succ]
    omega
theorem val_replicate (n : Nat) : val (List.replicate n 0) = 0 := by
  induction n with
  | zero => rfl
  | succ n ih => simp [List.replicate_succ, val, ih]
theorem pow_pos' (k : Nat) : 0 < 4294967296 ^ k := Nat.pow_pos (by decide)
theorem getD_lt (l : List Nat) {k : Nat} (hk : k < l.length) : l.getD k 0 = l[k] := by
  rw [List.getD_eq_getElem?_getD, List.getElem?_eq_getElem hk]; rfl
theorem getD_ge (l : List Nat) {k : Nat} (hk : l.length ≤ k) : l.getD k 0 = 0 := by
  rw [List.getD_eq_getElem?_getD, List.getElem?_eq_none hk]; rfl
theorem val_take_succ (l : List Nat) (k : Nat) : val (l.take (k + 1)) = val (l.take k) + 4294967296 ^ k * l.getD k 0 := by
  rcases Nat.lt_or_ge k l.length with hk | hk
  · rw [List.take_succ_eq_append_getElem hk, val_append, getD_lt l hk]
    simp [val, Nat.min_eq_left (Nat.le_of_lt hk)]
  · rw [List.take_of_length_le (by omega), List.take_of_length_le (by omega), getD_ge l hk]; simp
theorem val_split (l : List Nat) (k : Nat) (hk : k ≤ l.length) : val l = val (l.take k) + 4294967296 ^ k * val (l.drop k) := by
  have := val_append (l.take k) (l.drop k)
  rw [List.take_append_drop, List.length_take, Nat.min_eq_left hk] at this
  exact this
theorem val_drop_succ (l : List Nat) (k : Nat) : val (l.drop k) = l.getD k 0 + 4294967296 * val (l.drop (k + 1)) := by
  rcases Nat.lt_or_ge k l.length with hk | hk
  · rw [List.drop_eq_getElem_cons hk, getD_lt l hk]; rfl
  · rw [List.drop_of_length_le hk, List.drop_of_length_le (by omega), getD_ge l hk]; rfl
theorem val_drop (l : List Nat) (h : Sm l) (k : Nat) : val (l.drop k) = val l / 4294967296 ^ k := by
  rcases Nat.le_total k l.length with hk | hk
  · have h1 := val_split l k hk
    have h2 := val_lt (h.take k)
    rw [List.length_take, Nat.min_eq_left hk] at h2
    rw [h1, Nat.add_mul_div_left _ _ (pow_pos' k), Nat.div_eq_of_lt h2, Nat.zero_add]
  · rw [List.drop_of_length_le hk]
    have h1 := val_lt h
    rw [Nat.div_eq_of_lt (Nat.lt_of_lt_of_le h1 (Nat.pow_le_pow_right (by decide) hk))]; rfl
theorem val_take (l : List Nat) (h : Sm l) (k : Nat) : val (l.take k) = val l % 4294967296 ^ k := by
  rcases Nat.le_total k l.length with hk | hk
  · have h1 := val_split l k hk
    have h2 := val_lt (h.take k)
    rw [List.length_take, Nat.min_eq_left hk] at h2
    rw [h1, Nat.add_mul_mod_self_left, Nat.mod_eq_of_lt h2]
  · rw [List.take_of_length_le hk]
    have h1 := val_lt h
    rw [Nat.mod_eq_of_lt (Nat.lt_of_lt_of_le h1 (Nat.pow_le_pow_right (by decide) hk))]
theorem getD_val (l : List Nat) (h : Sm l) (k : Nat) : l.getD k 0 = val l / 4294967296 ^ k % 4294967296 := by
  rw [← val_drop l h k, val_drop_succ, Nat.add_mul_mod_self_left, Nat.mod_eq_of_lt (h.getD k)]

def nth (l : List Nat) (k : Nat) : Nat := l.getD k 0
theorem nth_lt (l : List Nat) {k : Nat} (hk : k < l.length) : nth l k = l[k] := getD_lt l hk
theorem nth_ge (l : List Nat) {k : Nat} (hk : l.length ≤ k) : nth l k = 0 := getD_ge l hk
theorem Sm.nth {l : List Nat} (h : Sm l) (k : Nat) : nth l k < 4294967296 := h.getD k
theorem val_take_succ' (l : List Nat) (k : Nat) : val (l.take (k + 1)) = val (l.take k) + 4294967296 ^ k * nth l k := val_take_succ l k
theorem last_nth {l : List Nat} (h : l ≠ []) : l.getLast? = some (nth l (l.length - 1)) := by
  have : l.length - 1 < l.length := by have := List.length_pos_iff.2 h; omega
  rw [List.getLast?_eq_getElem?, nth_lt l this, List.getElem?_eq_getElem this]
theorem nth_set_eq (l : List Nat) (k x : Nat) (hk : k < l.length) : nth (l.set k x) k = x := by
  rw [nth_lt _ (by simpa using hk)]; simp
theorem nth_set_ne (l : List Nat) (k j x : Nat) (h : k ≠ j) : nth (l.set k x) j = nth l j := by
  unfold nth; rw [List.getD_eq_getElem?_getD, List.getD_eq_getElem?_getD, List.getElem?_set_ne h]
theorem take_set_succ (l : List Nat) (k x : Nat) (hk : k < l.length) : (l.set k x).take (k + 1) = l.take k ++ [x] := by
  rw [List.take_succ_eq_append_getElem (by simpa using hk), List.take_set_of_le (Nat.le_refl _)]; simp
theorem nth_replicate (n k : Nat) : nth (List.replicate n 0) k = 0 := by
  unfold nth; rw [List.getD_eq_getElem?_getD, List.getElem?_replicate]; split <;> rfl

theorem limbsF_val : ∀ k n : Nat, n ≤ k → val (limbsF k n) = n
  | 0, n, h => by obtain rfl : n = 0 := by omega
                  rfl
  | k + 1, n, h => by
    unfold limbsF
    by_cases h0 : n = 0
    · rw [if_pos h0, h0]; rfl
    · rw [if_neg h0]
      simp only [val]
      rw [limbsF_val k (n / 4294967296) (by omega)]
      omega
theorem limbsF_sm : ∀ k n : Nat, Sm (limbsF k n)
  | 0, n => Sm.nil
  | k + 1, n => by
    unfold limbsF
    by_cases h0 : n = 0
    · rw [if_pos h0]; exact Sm.nil
    · rw [if_neg h0]; exact Sm.cons (by omega) (limbsF_sm k _)
theorem limbsF_last : ∀ k n : Nat, n ≤ k → (limbsF k n).getLast? ≠ some 0
  | 0, n, h => by simp [limbsF]
  | k + 1, n, h => by
    unfold limbsF
    by_cases h0 : n = 0
    · rw [if_pos h0]; simp
    · rw [if_neg h0]
      have ih := limbsF_last k (n / 4294967296) (by omega)
      have hv := limbsF_val k (n / 4294967296) (by omega)
      cases hl : limbsF k (n / 4294967296) with
      | nil =>
        rw [hl] at hv
        simp only [val] at hv
        simp only [List.getLast?_singleton, ne_eq, Option.some.injEq]
        omega
      | cons y t => rw [hl] at ih; rw [List.getLast?_cons_cons]; exact ih
@[simp] theorem val_limbs (n : Nat) : val (limbs n) = n := limbsF_val n n (Nat.le_refl n)
theorem sm_limbs (n : Nat) : Sm (limbs n) := limbsF_sm n n
theorem last_limbs (n : Nat) : (limbs n).getLast? ≠ some 0 := limbsF_last n n (Nat.le_refl n)
theorem val_pos_of_last : ∀ {l : List Nat}, l ≠ [] → l.getLast? ≠ some 0 → 4294967296 ^ (l.length - 1) ≤ val l
  | [], h, _ => absurd rfl h
  | [x], _, h => by simp at h; simp [val]; omega
  | x :: y :: t, _, h => by
    rw [List.getLast?_cons_cons] at h
    have ih := val_pos_of_last (l := y :: t) (by simp) h
    simp only [val, List.length_cons, Nat.add_sub_cancel, Nat.pow_succ] at ih ⊢
    omega
theorem canon_unique : ∀ {a b : List Nat}, Sm a → Sm b → a.getLast? ≠ some 0 → b.getLast? ≠ some 0 → val a = val b → a = b
  | [], [], _, _, _, _, _ => rfl
  | [], y :: t, _, _, _, hb, h => by
    have h1 := val_pos_of_last (l := y :: t) (by simp) hb
    have h2 := pow_pos' ((y :: t).length - 1)
    have h3 : val [] = 0 := rfl
    omega
  | x :: s, [], _, _, ha, _, h => by
    have h1 := val_pos_of_last (l := x :: s) (by simp) ha
    have h2 := pow_pos' ((x :: s).length - 1)
    have h3 : val [] = 0 := rfl
    omega
  | x :: s, y :: t, ga, gb, ha, hb, h => by
    have hx := ga.head
    have hy := gb.head
    simp only [val] at h
    have h1 : x = y := by omega
    have h2 : val s = val t := by omega
    subst h1
    have hs : s.getLast? ≠ some 0 := by
      cases s with
      | nil => simp
      | cons z r => rw [List.getLast?_cons_cons] at ha; exact ha
    have ht : t.getLast? ≠ some 0 := by
      cases t with
      | nil => simp
      | cons z r => rw [List.getLast?_cons_cons] at hb; exact hb
    rw [canon_unique ga.tail gb.tail hs ht h2]
theorem limbs_of {l : List Nat} (h : Sm l) (hl : l.getLast? ≠ some 0) : limbs (val l) = l :=
  canon_unique (sm_limbs _) h (last_limbs _) hl (val_limbs _)
theorem val_trim (l : List Nat) : val (trim l) = val l := by
  induction l with
  | nil => rfl
  | cons x l ih =>
    unfold trim
    by_cases h : x = 0 ∧ trim l = []
    · rw [if_pos h]
      rw [h.2] at ih
      simp only [val, h.1] at ih ⊢
      omega
    · rw [if_neg h]; simp only [val, ih]
theorem sm_trim {l : List Nat} (h : Sm l) : Sm (trim l) := by
  induction l with
  | nil => exact h
  | cons x l ih =>
    unfold trim
    by_cases hh : x = 0 ∧ trim l = []
    · rw [if_pos hh]; exact Sm.nil
    · rw [if_neg hh]; exact Sm.cons h.head (ih h.tail)
theorem last_trim (l : List Nat) : (trim l).getLast? ≠ some 0 := by
  induction l with
  | nil => simp [trim]
  | cons x l ih =>
    unfold trim
    by_cases hh : x = 0 ∧ trim l = []
    · rw [if_pos hh]; simp
    · rw [if_neg hh]
      cases ht : trim l with
      | nil => simp only [ht, and_true] at hh; simpa using hh
      | cons y t => rw [ht] at ih; rw [List.getLast?_cons_cons]; exact ih
theorem trim_eq {l : List Nat} (h : Sm l) : trim l = limbs (val l) := by
  rw [← val_trim l, limbs_of (sm_trim h) (last_trim l)]
theorem take_limbs {l : List Nat} (h : Sm l) (n : Nat) (hn : n ≤ l.length) (hz : ∀ j, n ≤ j → l.getD j 0 = 0) (hl : n = 0 ∨ l.getD (n - 1) 0 ≠ 0) : l.take n = limbs (val l) := by
  have hd : val (l.drop n) = 0 := by
    have : ∀ (m : Nat) (t : List Nat), t.length = m → (∀ j, t.getD j 0 = 0) → val t = 0 := by
      intro m
      induction m with
      | zero => intro t ht _; rw [List.eq_nil_of_length_eq_zero ht]; rfl
      | succ m ih =>
        intro t ht hj
        match t, ht with
        | x :: t, ht =>
          have h0 := hj 0
          have := ih t (by simpa using ht) (fun j => by have := hj (j + 1); simpa using this)
          simp only [val, this]
          simpa using h0
    refine this _ _ rfl fun j => ?_
    have := hz (n + j) (by omega)
    simpa [List.getD_eq_getElem?_getD, List.getElem?_drop] using this
  have hv : val (l.take n) = val l := by rw [val_split l n hn, hd]; simp
  rw [← hv]
  refine (limbs_of (h.take n) ?_).symm
  rcases hl with h0 | h0
  · subst h0; simp
  · rw [List.getLast?_eq_getElem?, List.length_take, Nat.min_eq_left hn, List.getElem?_take]
    intro hc
    by_cases h1 : n = 0
    · subst h1; simp at hc
    · rw [if_pos (by omega)] at hc
      rw [List.getD_eq_getElem?_getD, hc] at h0
      exact h0 rfl
theorem length_limbs_le (n k : Nat) : (limbs n).length ≤ k ↔ n < 4294967296 ^ k := by
  constructor
  · intro h
    have := val_lt (sm_limbs n)
    rw [val_limbs] at this
    exact Nat.lt_of_lt_of_le this (Nat.pow_le_pow_right (by decide) h)
  · intro h
    rcases Nat.lt_or_ge k (limbs n).length with hk | hk
    · exfalso
      have h0 : limbs n ≠ [] := by intro e; rw [e] at hk; simp at hk
      have := val_pos_of_last h0 (last_limbs n)
      rw [val_limbs] at this
      have h2 : 4294967296 ^ k ≤ 4294967296 ^ ((limbs n).length - 1) := Nat.pow_le_pow_right (by decide) (by omega)
      omega
    · exact hk
theorem limbs_zero : limbs 0 = [] := rfl
theorem limbs_eq_nil {n : Nat} : limbs n = [] ↔ n = 0 := by
  constructor
  · intro h; have := val_limbs n; rw [h] at this; exact this.symm
  · intro h; rw [h]; rfl
theorem limbs_small {n : Nat} (h : n < 4294967296) (h0 : n ≠ 0) : limbs n = [n] := by
  have : val [n] = n := by simp [val]
  rw [← this]
  rw [limbs_of (Sm.cons h Sm.nil) (by simpa using h0), this]

theorem trim_end {l : List Nat} (h : Sm l) (k : Nat) (hk : k ≤ l.length) (hz : ∀ j, k ≤ j → nth l j = 0) (hl : k = 0 ∨ nth l (k - 1) ≠ 0) : limbs (val l) = l.take k ∧ (limbs (val l)).length = k := by
  have := take_limbs h k hk hz hl
  exact ⟨this.symm, by rw [← this, List.length_take, Nat.min_eq_left hk]⟩

theorem trim_prefix (l : List Nat) : trim l = l.take (trim l).length := by
  induction l with
  | nil => rfl
  | cons x l ih =>
    unfold trim
    by_cases hh : x = 0 ∧ trim l = []
    · rw [if_pos hh]; rfl
    · rw [if_neg hh, List.length_cons, List.take_succ_cons, ← ih]
theorem limbs_prefix {l : List Nat} (h : Sm l) : limbs (val l) = l.take (limbs (val l)).length := by
  rw [← trim_eq h]; exact trim_prefix l
theorem limbs_length_le {l : List Nat} (h : Sm l) : (limbs (val l)).length ≤ l.length := by
  rw [limbs_prefix h, List.length_take]; exact Nat.min_le_right _ _

theorem drop_set_succ (l : List Nat) (k x : Nat) : (l.set k x).drop (k + 1) = l.drop (k + 1) := by
  rw [List.drop_set_of_lt (by omega)]
theorem val_drop_set (l : List Nat) (k x : Nat) (hk : k < l.length) : val ((l.set k x).drop k) = x + 4294967296 * val (l.drop (k + 1)) := by
  rw [val_drop_succ, drop_set_succ]
  have := nth_set_eq l k x hk
  unfold nth at this
  rw [this]
theorem val_drop_nth (l : List Nat) (k : Nat) : val (l.drop k) = nth l k + 4294967296 * val (l.drop (k + 1)) := val_drop_succ l k
theorem over_step {l o : List Nat} {k d r : Nat} (hk : k < o.length) (hd : 0 < d) (h : val (l.drop (k + 1)) = d * val (o.drop (k + 1)) + r) :
    val (l.drop k) = d * val ((o.set k ((r * 4294967296 + nth l k) / d)).drop k) + (r * 4294967296 + nth l k) % d := by
  have e := Nat.div_add_mod (r * 4294967296 + nth l k) d
  rw [val_drop_nth, h, val_drop_set o k _ hk]
  generalize (r * 4294967296 + nth l k) / d = q at e ⊢
  generalize (r * 4294967296 + nth l k) % d = m at e ⊢
  rw [Nat.mul_add 4294967296, Nat.mul_add d]
  have : d * (4294967296 * val (o.drop (k + 1))) = 4294967296 * (d * val (o.drop (k + 1))) := Nat.mul_left_comm _ _ _
  omega

theorem val_set (l : List Nat) (k x : Nat) (hk : k < l.length) : val (l.set k x) + 4294967296 ^ k * nth l k = val l + 4294967296 ^ k * x := by
  have h1 := val_split (l.set k x) (k + 1) (by simp; omega)
  have h2 := val_split l (k + 1) (by omega)
  rw [take_set_succ l k x hk, val_append, List.length_take, Nat.min_eq_left (by omega), drop_set_succ] at h1
  rw [val_take_succ'] at h2
  simp only [val, Nat.mul_zero, Nat.add_zero] at h1
  omega
theorem row_step {o : List Nat} {j P c v0 X : Nat} (hj : j < o.length) (h : val o + 4294967296 ^ j * c = v0 + X) :
    val (o.set j ((P + nth o j + c) % 4294967296)) + 4294967296 ^ (j + 1) * ((P + nth o j + c) / 4294967296) = v0 + (X + 4294967296 ^ j * P) := by
  have e := Nat.mod_add_div (P + nth o j + c) 4294967296
  have hs := val_set o j ((P + nth o j + c) % 4294967296) hj
  generalize (P + nth o j + c) % 4294967296 = s at *
  generalize (P + nth o j + c) / 4294967296 = t at *
  rw [Nat.pow_succ]
  have e2 : 4294967296 ^ j * (s + 4294967296 * t) = 4294967296 ^ j * (P + nth o j + c) := by rw [e]
  simp only [Nat.mul_add] at e2
  have e3 : 4294967296 ^ j * (4294967296 * t) = 4294967296 ^ j * 4294967296 * t := by rw [Nat.mul_assoc]
  omega
theorem prod_le {a b : Nat} (ha : a < 4294967296) (hb : b < 4294967296) : a * b ≤ 18446744065119617025 := by
  have := Nat.mul_le_mul (show a ≤ 4294967295 by omega) (show b ≤ 4294967295 by omega)
  omega
theorem val_lt_of_top {a b : List Nat} (hl : a.length = b.length) (ha : Sm a) (i : Nat) (hi : i < a.length) (hd : a.drop (i + 1) = b.drop (i + 1)) (h : a.getD i 0 < b.getD i 0) : val a < val b := by
  have h1 := val_split a i (by omega)
  have h2 := val_split b i (by omega)
  rw [val_drop_succ, hd] at h1
  rw [val_drop_succ] at h2
  have h3 := val_lt (ha.take i)
  rw [List.length_take, Nat.min_eq_left (by omega)] at h3
  rw [h1, h2]
  have h4 : 4294967296 ^ i * (a.getD i 0 + 4294967296 * val (b.drop (i + 1))) + 4294967296 ^ i ≤ 4294967296 ^ i * (b.getD i 0 + 4294967296 * val (b.drop (i + 1))) := by
    have h5 : a.getD i 0 + 4294967296 * val (b.drop (i + 1)) + 1 ≤ b.getD i 0 + 4294967296 * val (b.drop (i + 1)) := by omega
    have h6 := Nat.mul_le_mul_left (4294967296 ^ i) h5
    rw [Nat.mul_succ] at h6
    exact h6
  omega
theorem val_lt_of_length {a b : List Nat} (hl : a.length < b.length) (ha : Sm a) (hb : b.getLast? ≠ some 0) : val a < val b := by
  have h1 := val_lt ha
  have h2 := val_pos_of_last (l := b) (by intro e; rw [e] at hl; simp at hl) hb
  have h3 : 4294967296 ^ a.length ≤ 4294967296 ^ (b.length - 1) := Nat.pow_le_pow_right (by decide) (by omega)
  omega
theorem getD_drop_eq {a b : List Nat} (hl : a.length = b.length) (i : Nat) (hi : i < a.length) (hd : a.drop (i + 1) = b.drop (i + 1)) (h : a.getD i 0 = b.getD i 0) : a.drop i = b.drop i := by
  rw [List.drop_eq_getElem_cons hi, List.drop_eq_getElem_cons (l := b) (i := i) (by omega), hd]
  rw [getD_lt a hi, getD_lt b (k := i) (by omega)] at h
  rw [h]

def cmpV (a b : Nat) : Int := if a < b then -1 else if b < a then 1 else 0
def cmpL (a b : List Nat) : Int := if a.length < b.length then -1 else if b.length < a.length then 1 else cmpV (val a) (val b)
theorem val_inj : ∀ {a b : List Nat}, a.length = b.length → Sm a → Sm b → val a = val b → a = b
  | [], [], _, _, _, _ => rfl
  | x :: s, y :: t, hl, ga, gb, h => by
    have hx := ga.head
    have hy := gb.head
    simp only [val] at h
    have h1 : x = y := by omega
    have h2 : val s = val t := by omega
    rw [h1, val_inj (by simpa using hl) ga.tail gb.tail h2]
theorem cmpV_eq {a b : Nat} : cmpV a b = 0 ↔ a = b := by
  unfold cmpV; constructor
  · intro h; by_cases h1 : a < b
    · rw [if_pos h1] at h; omega
    · rw [if_neg h1] at h; by_cases h2 : b < a
      · rw [if_pos h2] at h; omega
      · omega
  · rintro rfl; rw [if_neg (Nat.lt_irrefl _), if_neg (Nat.lt_irrefl _)]
theorem cmpV_lt {a b : Nat} : cmpV a b < 0 ↔ a < b := by
  unfold cmpV; by_cases h1 : a < b
  · rw [if_pos h1]; simp [h1]
  · rw [if_neg h1]; by_cases h2 : b < a
    · rw [if_pos h2]; simp [h1]
    · rw [if_neg h2]; simp [h1]
theorem cmpL_canon {a b : List Nat} (ha : Sm a) (hb : Sm b) (la : a.getLast? ≠ some 0) (lb : b.getLast? ≠ some 0) : cmpL a b = cmpV (val a) (val b) := by
  unfold cmpL
  by_cases h1 : a.length < b.length
  · have := val_lt_of_length h1 ha lb
    rw [if_pos h1]; unfold cmpV; rw [if_pos this]
  · rw [if_neg h1]; by_cases h2 : b.length < a.length
    · have := val_lt_of_length h2 hb la
      rw [if_pos h2]; unfold cmpV; rw [if_neg (by omega), if_pos this]
    · rw [if_neg h2]
theorem cmpL_zero {a b : List Nat} (ha : Sm a) (hb : Sm b) : cmpL a b = 0 ↔ a = b := by
  unfold cmpL
  constructor
  · intro h
    by_cases h1 : a.length < b.length
    · rw [if_pos h1] at h; omega
    · rw [if_neg h1] at h; by_cases h2 : b.length < a.length
      · rw [if_pos h2] at h; omega
      · rw [if_neg h2] at h; exact val_inj (by omega) ha hb (cmpV_eq.1 h)
  · rintro rfl; rw [if_neg (Nat.lt_irrefl _), if_neg (Nat.lt_irrefl _)]; exact cmpV_eq.2 rfl
theorem cmpL_top_lt {a b : List Nat} (hl : a.length = b.length) (ha : Sm a) (i : Nat) (hi : i < a.length) (hd : a.drop (i + 1) = b.drop (i + 1)) (h : nth a i < nth b i) : cmpL a b = -1 := by
  have := val_lt_of_top hl ha i hi hd h
  unfold cmpL cmpV; rw [if_neg (by omega), if_neg (by omega), if_pos this]
theorem cmpL_top_gt {a b : List Nat} (hl : a.length = b.length) (hb : Sm b) (i : Nat) (hi : i < a.length) (hd : a.drop (i + 1) = b.drop (i + 1)) (h : nth b i < nth a i) : cmpL a b = 1 := by
  have := val_lt_of_top hl.symm hb i (by omega) hd.symm h
  unfold cmpL cmpV; rw [if_neg (by omega), if_neg (by omega), if_neg (by omega), if_pos this]
theorem drop_step {a b : List Nat} (hl : a.length = b.length) (i : Nat) (hi : i < a.length) (hd : a.drop (i + 1) = b.drop (i + 1)) (h : nth a i = nth b i) : a.drop i = b.drop i := getD_drop_eq hl i hi hd h

def chk (l : List Nat) : Int := if 16384 < l.length then 4 else if l.getLast? = some 0 then 10 else 0
def chk2 (a b : List Nat) : Int := if chk a = 0 then chk b else chk a
theorem chk_zero {l : List Nat} (h : chk l = 0) : l.length ≤ 16384 ∧ l.getLast? ≠ some 0 := by
  unfold chk at h
  by_cases h1 : 16384 < l.length
  · rw [if_pos h1] at h; omega
  · rw [if_neg h1] at h
    by_cases h2 : l.getLast? = some 0
    · rw [if_pos h2] at h; omega
    · exact ⟨by omega, h2⟩
theorem chk_of {l : List Nat} (h : l.length ≤ 16384) (h2 : l.getLast? ≠ some 0) : chk l = 0 := by
  unfold chk; rw [if_neg (by omega), if_neg h2]
theorem chk2_zero {a b : List Nat} (h : chk2 a b = 0) : chk a = 0 ∧ chk b = 0 := by
  unfold chk2 at h; by_cases h1 : chk a = 0
  · rw [if_pos h1] at h; exact ⟨h1, h⟩
  · rw [if_neg h1] at h; exact absurd h h1
theorem chk_limbs_of {n : Nat} (h : (limbs n).length ≤ 16384) : chk (limbs n) = 0 := chk_of h (last_limbs n)
def fitS (n : Nat) : List Nat × Int := if 16384 < (limbs n).length then ([], 4) else (limbs n, 0)
def mulS (a b : List Nat) : List Nat × Int := if chk2 a b = 0 then if 16385 < a.length + b.length then ([], 4) else fitS (val a * val b) else ([], chk2 a b)
def upS (l : List Nat) (n : Int) : List Nat × Int :=
  if chk l = 0 then if n < 0 then ([], 2) else if l = [] then ([], 0) else if 524288 - (bitLen (val l) : Int) < n then ([], 4) else (limbs (val l * 2 ^ n.toNat), 0) else ([], chk l)
theorem chk_bits {l : List Nat} (h : Sm l) (hc : chk l = 0) : bitLen (val l) ≤ 524288 := by
  have h1 := val_lt h
  have h2 : val l < 2 ^ (32 * l.length) := by rw [Nat.pow_mul]; exact h1
  have h3 := (chk_zero hc).1
  unfold bitLen
  by_cases h0 : val l = 0
  · rw [if_pos h0]; omega
  · rw [if_neg h0]; have := (Nat.log2_lt h0).2 h2; omega
end Go.Proofs.YtenekbfnlbipiaaGreatDoor
