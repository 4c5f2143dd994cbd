/- Numbers as lists of digits to the base 1000000: plain laws. -/
import Derived.Test.YtdflamblbhpngaaK2
namespace Go.Proofs.Ytdflamblbhpngaa
open Go.RowKit

def bval : List Int → Int
  | [] => 0
  | d :: l => d + 1000000 * bval l
def bpow : Nat → Int
  | 0 => 1
  | n + 1 => 1000000 * bpow n
theorem bpow_pos (n : Nat) : 0 < bpow n := by
  induction n with
  | zero => simp [bpow]
  | succ n ih => unfold bpow; omega
theorem bpow_add (m n : Nat) : bpow (m + n) = bpow m * bpow n := by
  induction m with
  | zero => simp [bpow]
  | succ m ih => rw [Nat.succ_add]; show 1000000 * bpow (m + n) = 1000000 * bpow m * bpow n; rw [ih, Int.mul_assoc]
theorem bpow_mono {m n : Nat} (h : m ≤ n) : bpow m ≤ bpow n := by
  induction n with
  | zero => obtain rfl : m = 0 := by omega
            exact Int.le_refl _
  | succ n ih =>
    by_cases hm : m = n + 1
    · rw [hm]; exact Int.le_refl _
    · have := ih (by omega); have := bpow_pos n; show _ ≤ 1000000 * bpow n; omega
theorem bval_append (a b : List Int) : bval (a ++ b) = bval a + bpow a.length * bval b := by
  induction a with
  | nil => simp [bval, bpow]
  | cons d l ih =>
    show d + 1000000 * bval (l ++ b) = d + 1000000 * bval l + 1000000 * bpow l.length * bval b
    rw [ih]; grind
/-- All digits. -/
def digL (l : List Int) : Prop := ∀ d ∈ l, 0 ≤ d ∧ d < 1000000
theorem bval_bd (l : List Int) (h : digL l) : 0 ≤ bval l ∧ bval l < bpow l.length := by
  induction l with
  | nil => simp [bval, bpow]
  | cons d l ih =>
    obtain ⟨i1, i2⟩ := ih fun x hx => h x (List.mem_cons_of_mem _ hx)
    obtain ⟨d1, d2⟩ := h d (List.mem_cons_self ..)
    show 0 ≤ d + 1000000 * bval l ∧ d + 1000000 * bval l < 1000000 * bpow l.length
    omega
theorem bval_diff (a b c : List Int) (x y : Int) (hl : a.length = b.length) (ha : digL a) (hb : digL b) (hxy : x < y) : bval (a ++ x :: c) < bval (b ++ y :: c) := by
  rw [bval_append, bval_append, hl]
  obtain ⟨a1, a2⟩ := bval_bd a ha
  obtain ⟨b1, b2⟩ := bval_bd b hb
  rw [hl] at a2
  show bval a + bpow b.length * (x + 1000000 * bval c) < bval b + bpow b.length * (y + 1000000 * bval c)
  have h1 : bpow b.length * (x + 1) ≤ bpow b.length * y := Int.mul_le_mul_of_nonneg_left (by omega) (Int.le_of_lt (bpow_pos _))
  rw [Int.mul_add, Int.mul_add] 
  rw [Int.mul_add] at h1
  omega
/-- The digits of a number: none above the first that counts. -/
def canD (l : List Int) : Prop := digL l ∧ (0 < l.length → nth l (l.length - 1) ≠ 0)
theorem split_last (l : List Int) (h : 0 < l.length) : l = l.take (l.length - 1) ++ [nth l (l.length - 1)] := by
  have := take_nth l (l.length - 1) (by omega)
  rw [show l.length - 1 + 1 = l.length by omega, List.take_length] at this
  exact this
theorem digL_nth {l : List Int} (h : digL l) {k : Nat} (hk : k < l.length) : 0 ≤ nth l k ∧ nth l k < 1000000 := h _ (by
  have e : nth l k = l[k] := by simp [nth, List.getD_eq_getElem?_getD, List.getElem?_eq_getElem hk]
  rw [e]; exact List.getElem_mem hk)
theorem digL_take {l : List Int} (h : digL l) (k : Nat) : digL (l.take k) := fun d hd => h d (List.mem_of_mem_take hd)
theorem bval_ge (l : List Int) (h : canD l) (hl : 0 < l.length) : bpow (l.length - 1) ≤ bval l := by
  have e := split_last l hl
  have h0 := h.2 hl
  have hd := digL_nth h.1 (show l.length - 1 < l.length by omega)
  obtain ⟨t1, t2⟩ := bval_bd (l.take (l.length - 1)) (digL_take h.1 _)
  have hlen : (l.take (l.length - 1)).length = l.length - 1 := by simp
  rw [e, bval_append, hlen, ← e]
  have h1 : bpow (l.length - 1) * 1 ≤ bpow (l.length - 1) * nth l (l.length - 1) := Int.mul_le_mul_of_nonneg_left (by omega) (Int.le_of_lt (bpow_pos _))
  show _ ≤ _ + bpow (l.length - 1) * (nth l (l.length - 1) + 1000000 * 0)
  simp only [Int.mul_zero, Int.add_zero, Int.mul_one] at h1 ⊢
  omega
theorem bval_short (x y : List Int) (hx : canD x) (hy : canD y) (h : x.length < y.length) : bval x < bval y := by
  have h1 := (bval_bd x hx.1).2
  have h2 := bval_ge y hy (by omega)
  have h3 := bpow_mono (show x.length ≤ y.length - 1 by omega)
  omega
theorem bval_top (x y : List Int) (hx : digL x) (hy : digL y) (hl : x.length = y.length) (i : Nat) (hi : i < x.length) (he : ∀ j, i < j → j < x.length → nth x j = nth y j) (hlt : nth x i < nth y i) : bval x < bval y := by
  have hd : x.drop (i + 1) = y.drop (i + 1) := by
    apply nth_ext (by simp; omega)
    intro j hj
    simp at hj
    have := he (i + 1 + j) (by omega) (by omega)
    simpa [nth, List.getD_eq_getElem?_getD, List.getElem?_drop] using this
  have ex : x = x.take i ++ nth x i :: x.drop (i + 1) := by
    have := take_nth x i hi
    rw [← List.singleton_append, ← List.append_assoc, ← this, List.take_append_drop]
  have ey : y = y.take i ++ nth y i :: y.drop (i + 1) := by
    have := take_nth y i (by omega)
    rw [← List.singleton_append, ← List.append_assoc, ← this, List.take_append_drop]
  rw [ex, ey, ← hd]
  exact bval_diff _ _ _ _ _ (by simp; omega) (digL_take hx _) (digL_take hy _) hlt
theorem bval_set (l : List Int) (j : Nat) (v : Int) (h : j < l.length) : bval (l.set j v) = bval l + bpow j * (v - nth l j) := by
  induction l generalizing j with
  | nil => simp at h
  | cons d l ih =>
    cases j with
    | zero => show v + 1000000 * bval l = d + 1000000 * bval l + 1 * (v - d); omega
    | succ j =>
      show d + 1000000 * bval (l.set j v) = d + 1000000 * bval l + 1000000 * bpow j * (v - nth l j)
      rw [ih j (by simpa using h)]; grind
theorem nth_set (l : List Int) (j k : Nat) (v : Int) (h : j < l.length) : nth (l.set j v) k = if k = j then v else nth l k := by
  unfold nth
  rw [List.getD_eq_getElem?_getD, List.getD_eq_getElem?_getD, List.getElem?_set]
  by_cases e : k = j
  · subst e; simp [h]
  · rw [if_neg (fun g => e g.symm), if_neg e]
theorem bval_take_succ (l : List Int) (k : Nat) (h : k < l.length) : bval (l.take (k + 1)) = bval (l.take k) + bpow k * nth l k := by
  rw [take_nth l k h, bval_append]
  have : (l.take k).length = k := by simp; omega
  rw [this]
  show _ + bpow k * (nth l k + 1000000 * 0) = _
  simp
end Go.Proofs.Ytdflamblbhpngaa
