/- Plain: bits and bytes. No program here. -/
import Derived.Test.YtefhannaofknnaaDoorPlain
namespace Go.Proofs.YtefhannaofknnaaDoor
open Go.RowKit
set_option linter.unusedVariables false
set_option linter.unusedSimpArgs false
set_option maxHeartbeats 4000000
set_option maxRecDepth 100000

/-- So many bits of a number, the highest first. -/
def nb : Nat → Nat → List Nat
  | _, 0 => []
  | n, c + 1 => nb (n / 2) c ++ [n % 2]
/-- All of them bits. -/
def Bs (l : List Nat) : Prop := ∀ x ∈ l, x < 2
/-- What bits are worth, the highest first. -/
def wv (l : List Nat) : Nat := l.foldl (fun n b => 2 * n + b) 0

theorem Bs.nil : Bs [] := fun x hx => by cases hx
theorem Bs.append {a b : List Nat} (ha : Bs a) (hb : Bs b) : Bs (a ++ b) := fun x hx => by
  rcases List.mem_append.1 hx with h | h
  · exact ha x h
  · exact hb x h
theorem Bs.one {x : Nat} (h : x < 2) : Bs [x] := fun y hy => by simp at hy; omega
theorem Bs.cons {x : Nat} {l : List Nat} (h : x < 2) (hl : Bs l) : Bs (x :: l) := fun y hy => by
  rcases List.mem_cons.1 hy with rfl | hy
  · exact h
  · exact hl y hy
theorem Bs.take {l : List Nat} (h : Bs l) (n : Nat) : Bs (l.take n) := fun x hx => h x (List.mem_of_mem_take hx)
theorem Bs.drop {l : List Nat} (h : Bs l) (n : Nat) : Bs (l.drop n) := fun x hx => h x (List.mem_of_mem_drop hx)
theorem Bs.left {a b : List Nat} (h : Bs (a ++ b)) : Bs a := fun x hx => h x (List.mem_append_left _ hx)
theorem Bs.right {a b : List Nat} (h : Bs (a ++ b)) : Bs b := fun x hx => h x (List.mem_append_right _ hx)
theorem Bs.nth {l : List Nat} (h : Bs l) (i : Nat) : nth l i < 2 := by
  rcases Nat.lt_or_ge i l.length with h1 | h1
  · rw [nth_lt l h1]; exact h _ (List.getElem_mem h1)
  · rw [nth_ge l h1]; decide
@[simp] theorem nb_length (n c : Nat) : (nb n c).length = c := by
  induction c generalizing n with
  | zero => rfl
  | succ c ih => simp [nb, ih]
theorem bs_nb (n c : Nat) : Bs (nb n c) := by
  induction c generalizing n with
  | zero => exact Bs.nil
  | succ c ih => exact (ih _).append (Bs.one (Nat.mod_lt _ (by decide)))
theorem wv_nil : wv [] = 0 := rfl
theorem wv_snoc (l : List Nat) (x : Nat) : wv (l ++ [x]) = 2 * wv l + x := by simp [wv]
theorem wv_from (l : List Nat) : ∀ n, l.foldl (fun n b => 2 * n + b) n = n * 2 ^ l.length + wv l := by
  induction l with
  | nil => intro n; simp [wv]
  | cons x l ih =>
    intro n
    unfold wv
    simp only [List.foldl_cons, List.length_cons]
    rw [ih, ih (2 * 0 + x), Nat.pow_succ]
    generalize 2 ^ l.length = P
    generalize wv l = D
    simp only [Nat.mul_zero, Nat.zero_add, Nat.add_mul]
    have : 2 * n * P = n * (P * 2) := by rw [Nat.mul_comm 2 n, Nat.mul_assoc, Nat.mul_comm 2 P]
    omega
theorem wv_append (a b : List Nat) : wv (a ++ b) = wv a * 2 ^ b.length + wv b := by
  unfold wv
  rw [List.foldl_append, wv_from]
  rfl
theorem wv_cons (x : Nat) (l : List Nat) : wv (x :: l) = x * 2 ^ l.length + wv l := by
  have := wv_append [x] l
  simpa [wv] using this
theorem wv_lt {l : List Nat} (h : Bs l) : wv l < 2 ^ l.length := by
  induction l with
  | nil => simp [wv]
  | cons x l ih =>
    have h1 := ih fun y hy => h y (List.mem_cons_of_mem _ hy)
    have h2 := h x List.mem_cons_self
    rw [wv_cons, List.length_cons, Nat.pow_succ]
    have h3 : x * 2 ^ l.length ≤ 1 * 2 ^ l.length := Nat.mul_le_mul_right _ (by omega)
    omega
theorem wv_nb (n c : Nat) : wv (nb n c) = n % 2 ^ c := by
  induction c generalizing n with
  | zero => simp [nb, wv, Nat.mod_one]
  | succ c ih =>
    rw [nb, wv_snoc, ih, Nat.pow_succ, Nat.mul_comm (2 ^ c) 2, Nat.mod_mul]
    omega
theorem wv_inj : ∀ {a b : List Nat}, a.length = b.length → Bs a → Bs b → wv a = wv b → a = b
  | [], [], _, _, _, _ => rfl
  | [], _ :: _, h, _, _, _ => by simp at h
  | _ :: _, [], h, _, _, _ => by simp at h
  | x :: a, y :: b, h, ha, hb, hv => by
    have hl : a.length = b.length := by simpa using h
    rw [wv_cons, wv_cons, hl] at hv
    have h1 := wv_lt (fun z hz => ha z (List.mem_cons_of_mem _ hz))
    have h2 := wv_lt (fun z hz => hb z (List.mem_cons_of_mem _ hz))
    rw [hl] at h1
    have hx := ha x List.mem_cons_self
    have hy := hb y List.mem_cons_self
    have hxy : x = y := by
      rcases (show x = 0 ∨ x = 1 by omega) with rfl | rfl <;> rcases (show y = 0 ∨ y = 1 by omega) with rfl | rfl <;> simp at hv ⊢ <;> omega
    subst hxy
    rw [wv_inj hl (fun z hz => ha z (List.mem_cons_of_mem _ hz)) (fun z hz => hb z (List.mem_cons_of_mem _ hz)) (by omega)]
theorem nb_wv {l : List Nat} (h : Bs l) : nb (wv l) l.length = l :=
  wv_inj (by simp) (bs_nb _ _) h (by rw [wv_nb, Nat.mod_eq_of_lt (wv_lt h)])
theorem nb_add (n a b : Nat) : nb n (a + b) = nb (n / 2 ^ b) a ++ nb n b := by
  induction b generalizing n with
  | zero => simp [nb]
  | succ b ih =>
    rw [← Nat.add_assoc, nb, ih, nb, List.append_assoc, Nat.div_div_eq_div_mul, Nat.pow_succ, Nat.mul_comm 2]
theorem nb_mod (n c : Nat) : nb (n % 2 ^ c) c = nb n c := by
  refine wv_inj (by simp) (bs_nb _ _) (bs_nb _ _) ?_
  rw [wv_nb, wv_nb, Nat.mod_mod]
theorem nth_append_one (l : List Nat) (x k : Nat) : nth (l ++ [x]) k = if k = l.length then x else nth l k := by
  rcases Nat.lt_trichotomy k l.length with h | h | h
  · rw [if_neg (by omega), nth_lt _ (by simp; omega), nth_lt _ h, List.getElem_append_left]
  · subst h; rw [if_pos rfl, nth_lt _ (by simp)]; simp
  · rw [if_neg (by omega), nth_ge _ (by simp; omega), nth_ge _ (by omega)]
theorem nth_nb : ∀ (c n i : Nat), i < c → nth (nb n c) i = n / 2 ^ (c - 1 - i) % 2
  | c + 1, n, i, hi => by
    rw [nb, nth_append_one, nb_length]
    split
    · rename_i h; subst h; simp
    · rw [nth_nb c (n / 2) i (by omega), Nat.div_div_eq_div_mul, show c + 1 - 1 - i = (c - 1 - i) + 1 by omega, Nat.pow_succ, Nat.mul_comm 2]
theorem nth_append_lo (a b : List Nat) (k : Nat) (h : k < a.length) : nth (a ++ b) k = nth a k := by
  rw [nth_lt _ (by simp; omega), nth_lt _ h, List.getElem_append_left]
theorem nth_append_hi (a b : List Nat) (k : Nat) (h : a.length ≤ k) : nth (a ++ b) k = nth b (k - a.length) := by
  rcases Nat.lt_or_ge k (a ++ b).length with h1 | h1
  · rw [nth_lt _ h1, nth_lt _ (by simp at h1; omega), List.getElem_append_right h]
  · rw [nth_ge _ h1, nth_ge _ (by simp at h1; omega)]
theorem ext_nth {a b : List Nat} (hl : a.length = b.length) (h : ∀ i, i < a.length → nth a i = nth b i) : a = b := by
  apply List.ext_getElem hl
  intro i h1 h2
  have := h i h1
  rwa [nth_lt _ h1, nth_lt _ h2] at this

/-- The byte of eight bits from place 8 i on; what lacks is 0. -/
def byteAt (bs : List Nat) (i : Nat) : Nat := 128 * nth bs (8 * i) + 64 * nth bs (8 * i + 1) + 32 * nth bs (8 * i + 2) + 16 * nth bs (8 * i + 3) + 8 * nth bs (8 * i + 4) + 4 * nth bs (8 * i + 5) + 2 * nth bs (8 * i + 6) + nth bs (8 * i + 7)
/-- Bits as bytes, the highest first. -/
def by8 (bs : List Nat) : List Nat := (List.range ((bs.length + 7) / 8)).map (byteAt bs)
@[simp] theorem by8_length (bs : List Nat) : (by8 bs).length = (bs.length + 7) / 8 := by simp [by8]
theorem nth_by8 (bs : List Nat) (i : Nat) (h : i < (bs.length + 7) / 8) : nth (by8 bs) i = byteAt bs i := by
  rw [nth_lt _ (by simpa using h)]; simp [by8]
theorem byteAt_lt {bs : List Nat} (h : Bs bs) (i : Nat) : byteAt bs i < 256 := by
  have h0 := h.nth (8 * i); have h1 := h.nth (8 * i + 1); have h2 := h.nth (8 * i + 2); have h3 := h.nth (8 * i + 3)
  have h4 := h.nth (8 * i + 4); have h5 := h.nth (8 * i + 5); have h6 := h.nth (8 * i + 6); have h7 := h.nth (8 * i + 7)
  unfold byteAt; omega
theorem by8_byte {bs : List Nat} (h : Bs bs) : ∀ x ∈ by8 bs, x < 256 := by
  intro x hx
  simp only [by8, List.mem_map] at hx
  obtain ⟨i, _, rfl⟩ := hx
  exact byteAt_lt h i
theorem byteAt_old (bs : List Nat) (b i : Nat) (h : i ≠ bs.length / 8) : byteAt (bs ++ [b]) i = byteAt bs i := by
  unfold byteAt
  simp only [nth_append_one]
  rw [if_neg (by omega), if_neg (by omega), if_neg (by omega), if_neg (by omega), if_neg (by omega), if_neg (by omega), if_neg (by omega), if_neg (by omega)]
theorem byteAt_new (bs : List Nat) (b : Nat) : byteAt (bs ++ [b]) (bs.length / 8) = byteAt bs (bs.length / 8) + b * 2 ^ (7 - bs.length % 8) := by
  unfold byteAt
  simp only [nth_append_one]
  have hq := Nat.div_add_mod bs.length 8
  have hr := Nat.mod_lt bs.length (show 8 > 0 by decide)
  generalize bs.length / 8 = q at *
  generalize bs.length % 8 = r at *
  have z : ∀ j, 8 * q + r ≤ j → nth bs j = 0 := fun j hj => nth_ge _ (by omega)
  rw [← hq]
  rcases (show r = 0 ∨ r = 1 ∨ r = 2 ∨ r = 3 ∨ r = 4 ∨ r = 5 ∨ r = 6 ∨ r = 7 by omega) with rfl | rfl | rfl | rfl | rfl | rfl | rfl | rfl
  · have h := z (8 * q) (by omega); simp [h]; omega
  · have h := z (8 * q + 1) (by omega); simp [h]; omega
  · have h := z (8 * q + 2) (by omega); simp [h]; omega
  · have h := z (8 * q + 3) (by omega); simp [h]; omega
  · have h := z (8 * q + 4) (by omega); simp [h]; omega
  · have h := z (8 * q + 5) (by omega); simp [h]; omega
  · have h := z (8 * q + 6) (by omega); simp [h]; omega
  · have h := z (8 * q + 7) (by omega); simp [h]
/-- A bit behind full bytes. -/
theorem by8_new (bs : List Nat) (b : Nat) (h : bs.length % 8 = 0) : by8 (bs ++ [b]) = by8 bs ++ [b * 128] := by
  have hz : byteAt bs (bs.length / 8) = 0 := by
    have z : ∀ j, bs.length ≤ j → nth bs j = 0 := fun j hj => nth_ge _ hj
    unfold byteAt
    rw [z _ (by omega), z _ (by omega), z _ (by omega), z _ (by omega), z _ (by omega), z _ (by omega), z _ (by omega), z _ (by omega)]
  refine ext_nth (by simp; omega) fun i hi => ?_
  simp only [by8_length, List.length_append, List.length_singleton] at hi
  rw [nth_by8 _ _ (by simpa using hi), nth_append_one, by8_length]
  split
  · rename_i e
    have : i = bs.length / 8 := by omega
    subst this
    rw [byteAt_new, hz, h]; simp
  · rw [byteAt_old _ _ _ (by omega), nth_by8 _ _ (by omega)]
/-- A bit behind others in its byte. -/
theorem by8_more (bs : List Nat) (b : Nat) (h : bs.length % 8 ≠ 0) : by8 (bs ++ [b]) = (by8 bs).set (bs.length / 8) (nth (by8 bs) (bs.length / 8) + b * 2 ^ (7 - bs.length % 8)) := by
  refine ext_nth (by simp; omega) fun i hi => ?_
  simp only [by8_length, List.length_append, List.length_singleton] at hi
  rw [nth_by8 _ _ (by simpa using hi)]
  by_cases e : i = bs.length / 8
  · subst e
    rw [nth_set_eq _ _ _ (by simp; omega), byteAt_new, nth_by8 _ _ (by omega)]
  · rw [byteAt_old _ _ _ e, nth_set_ne _ _ _ _ (fun h => e h.symm), nth_by8 _ _ (by omega)]
/-- The bit at a place of bytes. -/
def bt (s : List Nat) (p : Nat) : Nat := nth s (p / 8) / 2 ^ (7 - p % 8) % 2
theorem bt_lt (s : List Nat) (p : Nat) : bt s p < 2 := Nat.mod_lt _ (by decide)
theorem bt_by8 {bs : List Nat} (h : Bs bs) (p : Nat) (hp : p < bs.length) : bt (by8 bs) p = nth bs p := by
  unfold bt
  rw [nth_by8 _ _ (by omega)]
  have hq := Nat.div_add_mod p 8
  have hr := Nat.mod_lt p (show 8 > 0 by decide)
  generalize p / 8 = q at *
  generalize p % 8 = r at *
  have h0 := h.nth (8 * q); have h1 := h.nth (8 * q + 1); have h2 := h.nth (8 * q + 2); have h3 := h.nth (8 * q + 3)
  have h4 := h.nth (8 * q + 4); have h5 := h.nth (8 * q + 5); have h6 := h.nth (8 * q + 6); have h7 := h.nth (8 * q + 7)
  rw [← hq]
  unfold byteAt
  rcases (show r = 0 ∨ r = 1 ∨ r = 2 ∨ r = 3 ∨ r = 4 ∨ r = 5 ∨ r = 6 ∨ r = 7 by omega) with rfl | rfl | rfl | rfl | rfl | rfl | rfl | rfl <;> simp <;> omega
/-- The bits of bytes. -/
def bo (s : List Nat) : List Nat := (List.range (8 * s.length)).map (bt s)
@[simp] theorem bo_length (s : List Nat) : (bo s).length = 8 * s.length := by simp [bo]
theorem nth_bo (s : List Nat) (p : Nat) (h : p < 8 * s.length) : nth (bo s) p = bt s p := by
  rw [nth_lt _ (by simpa using h)]; simp [bo]
theorem bs_bo (s : List Nat) : Bs (bo s) := by
  intro x hx
  simp only [bo, List.mem_map] at hx
  obtain ⟨p, _, rfl⟩ := hx
  exact bt_lt s p
theorem bo_snoc (s : List Nat) (x : Nat) : bo (s ++ [x]) = bo s ++ nb x 8 := by
  refine ext_nth (by simp; omega) fun p hp => ?_
  simp only [bo_length, List.length_append, List.length_singleton] at hp
  rw [nth_bo _ _ (by simpa using hp)]
  unfold bt
  rw [nth_append_one]
  by_cases h : p < 8 * s.length
  · rw [if_neg (by omega), nth_append_lo _ _ _ (by simpa using h), nth_bo _ _ h]
    rfl
  · rw [if_pos (by omega), nth_append_hi _ _ _ (by simp; omega), bo_length, nth_nb _ _ _ (by omega)]
    congr 3
    omega
theorem byte_split (x : Nat) (h : x < 256) : 128 * (x / 128 % 2) + 64 * (x / 64 % 2) + 32 * (x / 32 % 2) + 16 * (x / 16 % 2) + 8 * (x / 8 % 2) + 4 * (x / 4 % 2) + 2 * (x / 2 % 2) + x % 2 = x := by omega
theorem by8_bo {s : List Nat} (h : ∀ x ∈ s, x < 256) : by8 (bo s) = s := by
  refine ext_nth (by simp; omega) fun i hi => ?_
  simp only [by8_length, bo_length] at hi
  rw [nth_by8 _ _ (by simpa using hi)]
  have hx : nth s i < 256 := by rw [nth_lt _ (by omega)]; exact h _ (List.getElem_mem _)
  have hd : ∀ j, j < 8 → nth (bo s) (8 * i + j) = nth s i / 2 ^ (7 - j) % 2 := by
    intro j hj
    rw [nth_bo _ _ (by omega)]
    unfold bt
    rw [show (8 * i + j) / 8 = i by omega, show (8 * i + j) % 8 = j by omega]
  unfold byteAt
  have d0 := hd 0 (by decide)
  rw [Nat.add_zero] at d0
  rw [d0, hd 1 (by decide), hd 2 (by decide), hd 3 (by decide), hd 4 (by decide), hd 5 (by decide), hd 6 (by decide), hd 7 (by decide)]
  have := byte_split (nth s i) hx
  simpa using this
end Go.Proofs.YtefhannaofknnaaDoor
