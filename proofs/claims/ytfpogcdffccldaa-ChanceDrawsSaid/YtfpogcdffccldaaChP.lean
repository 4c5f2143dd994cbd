/- Plain functions: what Shuffle and Fates compute, and their laws. -/
import Derived.Test.YtfpogcdffccldaaChB
namespace Go.Proofs.Ytfpogcdffccldaa

def swapL (l : List Int) (i j : Nat) : List Int := (l.set i (nth l j)).set j (nth l i)
theorem swapL_len (l : List Int) (i j : Nat) : (swapL l i j).length = l.length := by simp [swapL]
theorem nth_set (l : List Int) (i : Nat) (v : Int) (k : Nat) (hi : i < l.length) : nth (l.set i v) k = if i = k then v else nth l k := by
  unfold nth
  rw [List.getD_eq_getElem?_getD, List.getD_eq_getElem?_getD, List.getElem?_set]
  by_cases h : i = k
  · subst h; simp [hi]
  · simp [h]
theorem nth_swap (l : List Int) (i j k : Nat) (hi : i < l.length) (hj : j < l.length) : nth (swapL l i j) k = if j = k then nth l i else if i = k then nth l j else nth l k := by
  unfold swapL
  rw [nth_set _ _ _ _ (by simpa using hj), nth_set _ _ _ _ hi]
theorem swap_perm (l : List Int) (i j : Nat) (hi : i < l.length) (hj : j < l.length) : (swapL l i j).Perm l := by
  have := List.set_set_perm hi hj
  simpa [swapL, nth, List.getD_eq_getElem?_getD, hi, hj] using this

def shGo : Nat → List Int → Int → List Int × Int
  | 0, l, x => (l, x)
  | i + 1, l, x => shGo i (swapL l (i + 1) (drw x (i + 2)).toNat) (tms x 48271)
def rng (n : Nat) : List Int := (List.range n).map fun k : Nat => (k : Int)
theorem rng_len (n : Nat) : (rng n).length = n := by simp [rng]
theorem nth_rng (n k : Nat) (h : k < n) : nth (rng n) k = k := by simp [nth, rng, List.getD_eq_getElem?_getD, h]
theorem rng_succ (n : Nat) : rng (n + 1) = rng n ++ [(n : Int)] := by simp [rng, List.range_succ]
theorem sh_len (i : Nat) (l : List Int) (x : Int) : (shGo i l x).1.length = l.length := by
  induction i generalizing l x with
  | zero => rfl
  | succ i ih => rw [shGo, ih, swapL_len]
theorem sh_bd (i : Nat) (l : List Int) (x : Int) (h0 : 1 ≤ x) (h1 : x < 2147483647) : 1 ≤ (shGo i l x).2 ∧ (shGo i l x).2 < 2147483647 := by
  induction i generalizing l x with
  | zero => exact ⟨h0, h1⟩
  | succ i ih => rw [shGo]; exact ih _ _ (tms_pos x h0 h1) (tms_bd x 48271).2
theorem sh_perm (i : Nat) (l : List Int) (x : Int) (h : i < l.length ∨ i = 0) : (shGo i l x).1.Perm l := by
  induction i generalizing l x with
  | zero => exact .refl _
  | succ i ih =>
    rw [shGo]
    have hi : i + 1 < l.length := by omega
    have hb := drw_bd x (i + 2) (by omega)
    exact (ih _ _ (.inl (by rw [swapL_len]; omega))).trans (swap_perm _ _ _ hi (by omega))
/-- The result of Shuffle(n) from the state x, and the new state. -/
def shuf (n : Nat) (x : Int) : List Int × Int := shGo (n - 1) (rng n) x
theorem shuf_len (n : Nat) (x : Int) : (shuf n x).1.length = n := by unfold shuf; rw [sh_len, rng_len]
theorem shuf_mem (n : Nat) (x : Int) (i : Nat) (h : i < n) : (i : Int) ∈ (shuf n x).1 := by
  unfold shuf
  rw [(sh_perm (n - 1) (rng n) x (by rw [rng_len]; omega)).mem_iff]
  simp only [rng, List.mem_map, List.mem_range]
  exact ⟨i, h, rfl⟩

/-! ### Fates -/
/-- After k messages: the fates so far, the state, and the losses in a row at their end. -/
def ftGo (lose delay run x : Int) : Nat → List Int × Int × Int
  | 0 => ([], x, 0)
  | k + 1 =>
    let s := ftGo lose delay run x k
    if drw s.2.1 100 < lose ∧ s.2.2 < run then (s.1 ++ [-1], tms (tms s.2.1 48271) 48271, s.2.2 + 1)
    else (s.1 ++ [drw (tms s.2.1 48271) (delay + 1)], tms (tms s.2.1 48271) 48271, 0)
def ftL (lose delay run x : Int) (k : Nat) : List Int := (ftGo lose delay run x k).1
def ftX (lose delay run x : Int) (k : Nat) : Int := (ftGo lose delay run x k).2.1
def ftC (lose delay run x : Int) (k : Nat) : Int := (ftGo lose delay run x k).2.2
section
variable (lose delay run x : Int)
theorem ft_hit (k : Nat) (h : drw (ftX lose delay run x k) 100 < lose ∧ ftC lose delay run x k < run) :
    ftL lose delay run x (k + 1) = ftL lose delay run x k ++ [-1] ∧ ftX lose delay run x (k + 1) = tms (tms (ftX lose delay run x k) 48271) 48271 ∧ ftC lose delay run x (k + 1) = ftC lose delay run x k + 1 := by
  unfold ftL ftX ftC at *
  rw [ftGo]
  simp [h]
theorem ft_miss (k : Nat) (h : ¬ (drw (ftX lose delay run x k) 100 < lose ∧ ftC lose delay run x k < run)) :
    ftL lose delay run x (k + 1) = ftL lose delay run x k ++ [drw (tms (ftX lose delay run x k) 48271) (delay + 1)] ∧ ftX lose delay run x (k + 1) = tms (tms (ftX lose delay run x k) 48271) 48271 ∧ ftC lose delay run x (k + 1) = 0 := by
  unfold ftL ftX ftC at *
  rw [ftGo]
  simp only [h, if_false, and_self]
theorem ft_x (k : Nat) : ftX lose delay run x (k + 1) = tms (tms (ftX lose delay run x k) 48271) 48271 := by
  by_cases h : drw (ftX lose delay run x k) 100 < lose ∧ ftC lose delay run x k < run
  · exact (ft_hit lose delay run x k h).2.1
  · exact (ft_miss lose delay run x k h).2.1
theorem ft_len (k : Nat) : (ftL lose delay run x k).length = k := by
  induction k with
  | zero => rfl
  | succ k ih =>
    by_cases h : drw (ftX lose delay run x k) 100 < lose ∧ ftC lose delay run x k < run
    · rw [(ft_hit lose delay run x k h).1]; simp [ih]
    · rw [(ft_miss lose delay run x k h).1]; simp [ih]
theorem ft_xbd (h0 : 1 ≤ x) (h1 : x < 2147483647) (k : Nat) : 1 ≤ ftX lose delay run x k ∧ ftX lose delay run x k < 2147483647 := by
  induction k with
  | zero => exact ⟨h0, h1⟩
  | succ k ih =>
    rw [ft_x]
    have a := tms_pos _ ih.1 ih.2
    have b := tms_bd (ftX lose delay run x k) 48271
    exact ⟨tms_pos _ a b.2, (tms_bd _ 48271).2⟩
theorem ft_cbd (k : Nat) : 0 ≤ ftC lose delay run x k ∧ ftC lose delay run x k ≤ k := by
  induction k with
  | zero => exact ⟨by show (0 : Int) ≤ 0; omega, by show (0 : Int) ≤ ((0 : Nat) : Int); omega⟩
  | succ k ih =>
    by_cases h : drw (ftX lose delay run x k) 100 < lose ∧ ftC lose delay run x k < run
    · rw [(ft_hit lose delay run x k h).2.2]; omega
    · rw [(ft_miss lose delay run x k h).2.2]; omega
end
end Go.Proofs.Ytfpogcdffccldaa
