/- What Run computes, as plain functions on lists, and their laws. -/
import Derived.Test.YtephkhaebkajkaaRgB
namespace Go.Proofs.Ytephkhaebkajkaa

def stp (i : Nat) (r : Int) (s : Int × Int × Int × Int) : Int × Int × Int × Int :=
  if r < 0 then s
  else if s.2.2.2 < 0 ∨ 16 < (i : Int) - s.2.2.2 then (nwR r, 0, nwN r, (i : Int))
  else (uR s.1 s.2.1 s.2.2.1 r ((i : Int) - s.2.2.2), uV s.1 s.2.1 s.2.2.1 r ((i : Int) - s.2.2.2), uN s.1 s.2.1 s.2.2.1 r ((i : Int) - s.2.2.2), (i : Int))
def st (l : List Int) : Nat → Int × Int × Int × Int
  | 0 => (0, 0, 0, -1)
  | k + 1 => stp k (nth l k) (st l k)
def sR (l : List Int) (k : Nat) : Int := (st l k).1
def sV (l : List Int) (k : Nat) : Int := (st l k).2.1
def sN (l : List Int) (k : Nat) : Int := (st l k).2.2.1
def sL (l : List Int) (k : Nat) : Int := (st l k).2.2.2
theorem s_zero (l : List Int) : sR l 0 = 0 ∧ sV l 0 = 0 ∧ sN l 0 = 0 ∧ sL l 0 = -1 := ⟨rfl, rfl, rfl, rfl⟩
theorem s_neg (l : List Int) (k : Nat) (h : nth l k < 0) : sR l (k + 1) = sR l k ∧ sV l (k + 1) = sV l k ∧ sN l (k + 1) = sN l k ∧ sL l (k + 1) = sL l k := by
  simp [sR, sV, sN, sL, st, stp, h]
theorem s_new (l : List Int) (k : Nat) (h : 0 ≤ nth l k) (h2 : sL l k < 0 ∨ 16 < (k : Int) - sL l k) : sR l (k + 1) = nwR (nth l k) ∧ sV l (k + 1) = 0 ∧ sN l (k + 1) = nwN (nth l k) ∧ sL l (k + 1) = k := by
  have h' : ¬ nth l k < 0 := by omega
  unfold sL at h2
  simp [sR, sV, sN, sL, st, stp, h', h2]
theorem s_upd (l : List Int) (k : Nat) (h : 0 ≤ nth l k) (h2 : ¬ (sL l k < 0 ∨ 16 < (k : Int) - sL l k)) :
    sR l (k + 1) = uR (sR l k) (sV l k) (sN l k) (nth l k) (k - sL l k) ∧ sV l (k + 1) = uV (sR l k) (sV l k) (sN l k) (nth l k) (k - sL l k) ∧ sN l (k + 1) = uN (sR l k) (sV l k) (sN l k) (nth l k) (k - sL l k) ∧ sL l (k + 1) = k := by
  have h' : ¬ nth l k < 0 := by omega
  unfold sL at h2
  simp only [sR, sV, sN, sL, st, stp, h', h2, if_false, and_self]

def outs (l : List Int) : Nat → List Int
  | 0 => []
  | k + 1 => outs l k ++ [sR l (k + 1), sV l (k + 1), sN l (k + 1)]
theorem outs_len (l : List Int) (n : Nat) : (outs l n).length = 3 * n := by
  induction n with
  | zero => rfl
  | succ n ih => simp [outs, ih]; omega
theorem nth_append_left (xs ys : List Int) (j : Nat) (h : j < xs.length) : nth (xs ++ ys) j = nth xs j := by
  simp [nth, List.getD_eq_getElem?_getD, List.getElem?_append_left h]
theorem nth_append_right (xs ys : List Int) (j : Nat) (h : xs.length ≤ j) : nth (xs ++ ys) j = nth ys (j - xs.length) := by
  simp [nth, List.getD_eq_getElem?_getD, List.getElem?_append_right h]
theorem nth_outs (l : List Int) (n k : Nat) (h : k < n) : nth (outs l n) (k * 3) = sR l (k + 1) ∧ nth (outs l n) (k * 3 + 1) = sV l (k + 1) ∧ nth (outs l n) (k * 3 + 2) = sN l (k + 1) := by
  induction n with
  | zero => omega
  | succ n ih =>
    have hl := outs_len l n
    by_cases hk : k < n
    · obtain ⟨h1, h2, h3⟩ := ih hk
      simp only [outs]
      rw [nth_append_left _ _ _ (by omega), nth_append_left _ _ _ (by omega), nth_append_left _ _ _ (by omega)]
      exact ⟨h1, h2, h3⟩
    · obtain rfl : k = n := by omega
      simp only [outs]
      rw [nth_append_right _ _ _ (by omega), nth_append_right _ _ _ (by omega), nth_append_right _ _ _ (by omega), hl]
      rw [show k * 3 - 3 * k = 0 by omega, show k * 3 + 1 - 3 * k = 1 by omega, show k * 3 + 2 - 3 * k = 2 by omega]
      exact ⟨rfl, rfl, rfl⟩

def okl (l : List Int) : Prop := ∀ k, k < l.length → -1 ≤ nth l k ∧ nth l k ≤ 8192
instance (l : List Int) : Decidable (okl l) := by unfold okl; infer_instance
theorem lim_bd (n lo hi : Int) (h : lo ≤ hi) : lo ≤ lim n lo hi ∧ lim n lo hi ≤ hi := by unfold lim; omega
theorem inv (l : List Int) (h : okl l) (k : Nat) (hk : k ≤ l.length) :
    (sL l k = -1 ∧ sN l k = 0 ∧ sR l k = 0 ∧ sV l k = 0) ∨ (0 ≤ sL l k ∧ sL l k < k ∧ okX (sR l k) (sV l k) (sN l k)) := by
  induction k with
  | zero => exact .inl ⟨rfl, rfl, rfl, rfl⟩
  | succ k ih =>
    have ih := ih (by omega)
    have hr := h k (by omega)
    by_cases h0 : nth l k < 0
    · obtain ⟨e1, e2, e3, e4⟩ := s_neg l k h0
      rw [e1, e2, e3, e4]
      rcases ih with ih | ⟨i1, i2, i3⟩
      · exact .inl ih
      · exact .inr ⟨i1, by omega, i3⟩
    · by_cases hn : sL l k < 0 ∨ 16 < (k : Int) - sL l k
      · obtain ⟨e1, e2, e3, e4⟩ := s_new l k (by omega) hn
        rw [e1, e2, e3, e4]
        have ho : okr (nth l k) := ⟨by omega, by omega⟩
        refine .inr ⟨by omega, by omega, ?_⟩
        unfold nwR nwN
        rw [if_pos ho, if_pos ho]
        unfold okX; omega
      · obtain ⟨e1, e2, e3, e4⟩ := s_upd l k (by omega) hn
        rw [e1, e2, e3, e4]
        rcases ih with ih | ⟨i1, i2, i3⟩
        · omega
        · have ho : okU (sR l k) (sV l k) (sN l k) (nth l k) (k - sL l k) := ⟨i3, by omega, by omega, by omega, by omega⟩
          refine .inr ⟨by omega, by omega, ?_⟩
          unfold uR uV uN
          rw [if_pos ho, if_pos ho, if_pos ho]
          obtain ⟨j1, j2, j3, j4, j5, j6⟩ := i3
          have b1 := lim_bd (sR l k + (k - sL l k) * sV l k + rnd (2 * (2 * gn (sN l k) - 1) * (256 * nth l k - (sR l k + (k - sL l k) * sV l k))) (gn (sN l k) * (gn (sN l k) + 1))) 0 2097152 (by omega)
          have b2 := lim_bd (sV l k + rnd (6 * (256 * nth l k - (sR l k + (k - sL l k) * sV l k))) (gn (sN l k) * (gn (sN l k) + 1) * (k - sL l k))) (-16384) 16384 (by omega)
          unfold okX upR upV upN
          omega
/-- In an update step the arguments are in order. -/
theorem upd_ok (l : List Int) (h : okl l) (k : Nat) (hk : k < l.length) (h0 : 0 ≤ nth l k) (hn : ¬ (sL l k < 0 ∨ 16 < (k : Int) - sL l k)) : okU (sR l k) (sV l k) (sN l k) (nth l k) (k - sL l k) := by
  have hr := h k hk
  rcases inv l h k (by omega) with ih | ⟨i1, i2, i3⟩
  · omega
  · exact ⟨i3, by omega, by omega, by omega, by omega⟩

def runE (l : List Int) : Int := if 256 < l.length then 4 else if okl l then 0 else 1
def runN (l : List Int) : Nat := if 256 < l.length then 0 else if okl l then l.length else 0
def runO (l : List Int) : List Int := outs l (runN l)
theorem runO_len (l : List Int) : (runO l).length = 3 * runN l := outs_len _ _
theorem runN_le (l : List Int) : runN l ≤ 256 := by unfold runN; split <;> (try split) <;> omega
end Go.Proofs.Ytephkhaebkajkaa
