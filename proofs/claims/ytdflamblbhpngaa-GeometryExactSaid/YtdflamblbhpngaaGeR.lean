/- product of the reference of package geometry. -/
import Derived.Test.YtdflamblbhpngaaRows
import Derived.WalkKit
import Derived.WalkLawsBesides
import Derived.WalkSpells
import Derived.ProofKit
import Derived.Below
import Derived.Outline
import Derived.Lib.Hide
import Derived.Deep.RegionWith
import Derived.Deep.RegionHeld3
import Derived.Deep.DrawnRows
import Derived.StillTailTactics
import Derived.BigQuiet
import Derived.Deep.QuietTactic
import Derived.Deep.LoopGhost
import Derived.IntWalk
import Derived.Test.YtdflamblbhpngaaGeQ
namespace Go.Proofs.Ytdflamblbhpngaa
open Go.RowKit
attribute [local go_sem ↓] Go.wp_at_zero Go.wp_at_succ
attribute [local go_sem] wrap_lit

/-- After i whole rows and k places of the next row: no place is too large, and the value is what it should be. -/
def PInv (xs ys l : List Int) (i k : Nat) : Prop :=
  l.length = xs.length + ys.length + 1 ∧ (∀ j, j < l.length → 0 ≤ nth l j ∧ nth l j ≤ ((i : Int) + if j < i + k then 1 else 0) * 1000000000000) ∧
  bval l = bval (xs.take i) * bval ys + bpow i * nth xs i * bval (ys.take k)
theorem bval_zero (n : Nat) : bval (List.replicate n 0) = 0 := by
  induction n with
  | zero => rfl
  | succ n ih => show 0 + 1000000 * bval (List.replicate n 0) = 0; rw [ih]; rfl
theorem nth_zero (n j : Nat) : nth (List.replicate n 0) j = 0 := by
  unfold nth
  rw [List.getD_eq_getElem?_getD]
  by_cases h : j < n <;> simp [h]
theorem PInv.start (xs ys : List Int) : PInv xs ys (List.replicate (xs.length + ys.length + 1) 0) 0 0 := by
  refine ⟨by simp, fun j _ => by rw [nth_zero]; simp, ?_⟩
  rw [bval_zero]; simp [bval]
theorem PInv.step {xs ys l : List Int} {i k : Nat} (h : PInv xs ys l i k) (hi : i < xs.length) (hk : k < ys.length) (hx : digL xs) (hy : digL ys) : PInv xs ys (l.set (i + k) (nth l (i + k) + nth xs i * nth ys k)) i (k + 1) := by
  obtain ⟨h1, h2, h3⟩ := h
  have hj : i + k < l.length := by omega
  have dx := digL_nth hx hi
  have dy := digL_nth hy hk
  have p0 : 0 ≤ nth xs i * nth ys k := Int.mul_nonneg dx.1 dy.1
  have p1 : nth xs i * nth ys k ≤ 1000000 * 1000000 := Int.mul_le_mul (by omega) (by omega) dy.1 (by omega)
  refine ⟨by rw [List.length_set]; exact h1, fun j hjl => ?_, ?_⟩
  · rw [List.length_set] at hjl
    rw [nth_set _ _ _ _ hj]
    by_cases e : j = i + k
    · rw [if_pos e, if_pos (by omega)]
      have := h2 (i + k) hj
      rw [if_neg (by omega)] at this
      omega
    · rw [if_neg e]
      have := h2 j hjl
      by_cases c : j < i + k
      · rw [if_pos c] at this; rw [if_pos (by omega)]; exact this
      · rw [if_neg c] at this; rw [if_neg (by omega)]; exact this
  · rw [bval_set _ _ _ hj, h3, bval_take_succ ys k hk, bpow_add]
    grind
theorem PInv.row {xs ys l : List Int} {i : Nat} (h : PInv xs ys l i ys.length) (hi : i < xs.length) : PInv xs ys l (i + 1) 0 := by
  obtain ⟨h1, h2, h3⟩ := h
  refine ⟨h1, fun j hj => ?_, ?_⟩
  · have := h2 j hj
    by_cases c : j < i + 1 + 0
    · rw [if_pos c]
      by_cases c' : j < i + ys.length
      · rw [if_pos c'] at this; constructor <;> omega
      · rw [if_neg c'] at this; constructor <;> omega
    · rw [if_neg c]
      by_cases c' : j < i + ys.length
      · rw [if_pos c'] at this; constructor <;> omega
      · rw [if_neg c'] at this; constructor <;> omega
  · rw [h3, bval_take_succ xs i hi, List.take_length]
    simp [bval]
    grind
/-- The carries, up to place i. -/
def CInv (l : List Int) (V : Int) (N i : Nat) : Prop := l.length = N ∧ bval l = V ∧ (∀ j, j < i → 0 ≤ nth l j ∧ nth l j < 1000000) ∧ (i < N → 0 ≤ nth l i ∧ nth l i ≤ 9000000000000) ∧ (∀ j, i < j → j < N → 0 ≤ nth l j ∧ nth l j ≤ 8000000000000)
theorem CInv.step {l : List Int} {V : Int} {N i : Nat} (h : CInv l V N i) (hi : i + 1 < N) :
    CInv ((l.set (i + 1) (nth l (i + 1) + nth l i / 1000000)).set i (nth l i % 1000000)) V N (i + 1) := by
  obtain ⟨h1, h2, h3, h4, h5⟩ := h
  have hl1 : i + 1 < l.length := by omega
  have hl0 : i < (l.set (i + 1) (nth l (i + 1) + nth l i / 1000000)).length := by rw [List.length_set]; omega
  have g0 := h4 (by omega)
  have g1 := h5 (i + 1) (by omega) hi
  refine ⟨by simp [h1], ?_, fun j hj => ?_, fun hN => ?_, fun j hj hjN => ?_⟩
  · rw [bval_set _ _ _ hl0, bval_set _ _ _ hl1, nth_set _ _ _ _ hl1, if_neg (by omega), h2]
    have e : nth l i = nth l i % 1000000 + 1000000 * (nth l i / 1000000) := by omega
    have e2 : bpow (i + 1) = 1000000 * bpow i := rfl
    rw [e2]
    generalize nth l i / 1000000 = a at e
    generalize nth l i % 1000000 = b at e
    rw [e]
    grind
  · rw [nth_set _ _ _ _ hl0]
    by_cases e : j = i
    · rw [if_pos e]; omega
    · rw [if_neg e, nth_set _ _ _ _ hl1, if_neg (by omega)]; exact h3 j (by omega)
  · rw [nth_set _ _ _ _ hl0, if_neg (by omega), nth_set _ _ _ _ hl1, if_pos rfl]; omega
  · rw [nth_set _ _ _ _ hl0, if_neg (by omega), nth_set _ _ _ _ hl1, if_neg (by omega)]; exact h5 j (by omega) hjN
/-- The last place is 0 at the end, and so all are digits. -/
theorem CInv.fin {l : List Int} {V : Int} {N : Nat} (h : CInv l V (N + 1) N) (hV : V < bpow N) : digL l := by
  obtain ⟨h1, h2, h3, h4, _⟩ := h
  have hlast := h4 (by omega)
  have e := split_last l (by omega)
  rw [h1] at e
  simp only [Nat.add_sub_cancel] at e
  have hd : digL (l.take N) := by
    intro d hd
    obtain ⟨j, hj, rfl⟩ := List.mem_iff_getElem.1 hd
    have hj' : j < N := by simp at hj; omega
    have := h3 j hj'
    have e2 : nth l j = (l.take N)[j] := by simp [nth, List.getD_eq_getElem?_getD, List.getElem?_eq_getElem (show j < l.length by omega)]
    rw [← e2]; exact this
  have hb := (bval_bd _ hd).1
  have hlen : (l.take N).length = N := by simp; omega
  have hv : bval (l.take N) + bpow N * nth l N = V := by
    rw [← h2]
    conv => rhs; rw [e, bval_append, hlen]
    show _ = _ + bpow N * (nth l N + 1000000 * 0)
    simp
  have h0 : nth l N = 0 := by
    rcases Int.lt_or_le 0 (nth l N) with g | g
    · have : bpow N * 1 ≤ bpow N * nth l N := Int.mul_le_mul_of_nonneg_left (by omega) (Int.le_of_lt (bpow_pos _))
      omega
    · omega
  rw [e]
  intro d hd'
  rcases List.mem_append.1 hd' with g | g
  · exact hd d g
  · simp at g; omega
theorem prod_lt (xs ys : List Int) (hx : digL xs) (hy : digL ys) : bval xs * bval ys < bpow (xs.length + ys.length) := by
  obtain ⟨a1, a2⟩ := bval_bd xs hx
  obtain ⟨b1, b2⟩ := bval_bd ys hy
  rw [bpow_add]
  rcases Int.lt_or_le 0 (bval xs) with h | h
  · exact Int.lt_of_lt_of_le (Int.mul_lt_mul_of_pos_left b2 h) (Int.mul_le_mul_of_nonneg_right (Int.le_of_lt a2) (Int.le_of_lt (bpow_pos _)))
  · have : bval xs = 0 := by omega
    rw [this, Int.zero_mul]
    exact Int.mul_pos (bpow_pos _) (bpow_pos _)
theorem PInv.carry {xs ys l : List Int} (h : PInv xs ys l xs.length 0) (hx : xs.length ≤ 7) : CInv l (bval xs * bval ys) (xs.length + ys.length + 1) 0 := by
  obtain ⟨h1, h2, h3⟩ := h
  refine ⟨h1, ?_, fun j hj => absurd hj (by omega), fun hN => ?_, fun j _ hjN => ?_⟩
  · rw [h3, List.take_length]; simp [bval]
  · have := h2 0 (by omega)
    split at this <;> constructor <;> omega
  · have := h2 j (by omega)
    split at this <;> constructor <;> omega
end Go.Proofs.Ytdflamblbhpngaa
