/- Plain laws of chapter 12: lives, sweep by sweep. -/
import Derived.Test.YtmkpblfacnnnoaaFrF
import Derived.Test.YtmkpblfacnnnoaaKR
namespace Go.Proofs.Ytmkpblfacnnnoaa
/-! ### Lives, sweep by sweep -/
def ckR : List (List Int) → Int
  | [] => 0
  | s :: l => if ckS s = 0 then ckR l else ckS s
theorem ckR_bad : ∀ {xss : List (List Int)} {k : Nat}, (∀ r, r < k → ckS (row xss r) = 0) → k < xss.length → ¬ ckS (row xss k) = 0 → ckR xss = ckS (row xss k)
  | [], k, _, hk, _ => by simp at hk
  | s :: l, 0, _, _, h => by unfold ckR; rw [if_neg (show ¬ ckS s = 0 from h)]; rfl
  | s :: l, k + 1, h, hk, hb => by
    unfold ckR
    rw [if_pos (show ckS s = 0 from h 0 (by omega))]
    exact ckR_bad (xss := l) (k := k) (fun r hr => h (r + 1) (by omega)) (by simpa using hk) hb
theorem ckR_ok : ∀ {xss : List (List Int)}, (∀ r, r < xss.length → ckS (row xss r) = 0) → ckR xss = 0
  | [], _ => rfl
  | s :: l, h => by
    unfold ckR
    rw [if_pos (show ckS s = 0 from h 0 (by simp))]
    exact ckR_ok (xss := l) fun r hr => h (r + 1) (by simpa using hr)
theorem ckR_all : ∀ {xss : List (List Int)}, ckR xss = 0 → ∀ r, r < xss.length → ckS (row xss r) = 0
  | [], _, r, hr => by simp at hr
  | s :: l, h, r, hr => by
    unfold ckR at h
    by_cases g : ckS s = 0
    · rw [if_pos g] at h
      cases r with
      | zero => exact g
      | succ r => exact ckR_all (xss := l) h r (by simpa using hr)
    · rw [if_neg g] at h
      exact absurd h g
def lfE (xss : List (List Int)) (u : Int) : Int := if xss.length = 0 then 3 else if 16 < xss.length then 4 else if ckR xss = 0 then (if 0 ≤ u ∧ u ≤ 1024 then 0 else 1) else ckR xss
theorem lfE_ok {xss : List (List Int)} {u : Int} : lfE xss u = 0 ↔ (0 < xss.length ∧ xss.length ≤ 16) ∧ ckR xss = 0 ∧ 0 ≤ u ∧ u ≤ 1024 := by
  unfold lfE
  by_cases h0 : xss.length = 0
  · rw [if_pos h0]; constructor
    · intro h; cases h
    · omega
  · rw [if_neg h0]
    by_cases h1 : 16 < xss.length
    · rw [if_pos h1]; constructor
      · intro h; cases h
      · omega
    · rw [if_neg h1]
      by_cases h2 : ckR xss = 0
      · rw [if_pos h2]
        by_cases h3 : 0 ≤ u ∧ u ≤ 1024
        · rw [if_pos h3]; simp [h2, h3]; omega
        · rw [if_neg h3]; constructor
          · intro h; cases h
          · exact fun h => absurd h.2.2 h3
      · rw [if_neg h2]; constructor
        · exact fun h => absurd h h2
        · exact fun h => absurd h.2.1 h2
def prv (xss : List (List Int)) : Nat → List Int
  | 0 => []
  | k + 1 => row xss k
def lfA (u : Int) (xss : List (List Int)) : Nat → List Int
  | 0 => []
  | k + 1 => lfS u (prv xss k) (lfA u xss k) (row xss k)
def lfL (xss : List (List Int)) (u : Int) : List Int := if lfE xss u = 0 then lfA u xss xss.length else []
theorem lfA_len (u : Int) (xss : List (List Int)) (k : Nat) : (lfA u xss k).length = (prv xss k).length := by
  cases k with
  | zero => rfl
  | succ k => exact lfS_len _ _ _ _
theorem lfP_bd {before : List Int} {M : Int} (hM : 0 ≤ M) (hb : ∀ j, 0 ≤ nth before j ∧ nth before j ≤ M) : ∀ (l : List (Nat × Nat)) (cur : List Int), (∀ j, 0 ≤ nth cur j ∧ nth cur j ≤ M + 1) → ∀ j, 0 ≤ nth (lfP before l cur) j ∧ nth (lfP before l cur) j ≤ M + 1
  | [], _, h, j => h j
  | p :: l, cur, h, j => by
    refine lfP_bd hM hb l _ (fun j => ?_) j
    show 0 ≤ nth (cur.set p.2 (nth before p.1 + 1)) j ∧ nth (cur.set p.2 (nth before p.1 + 1)) j ≤ M + 1
    by_cases hp : p.2 < cur.length
    · rw [nth_set _ _ _ _ hp]
      have := hb p.1
      split
      · omega
      · exact h j
    · rw [List.set_eq_of_length_le (by omega)]
      exact h j
theorem nth_ones (n j : Nat) : 0 ≤ nth (List.replicate n (1 : Int)) j ∧ nth (List.replicate n (1 : Int)) j ≤ 1 := by
  unfold nth
  rw [List.getD_eq_getElem?_getD, List.getElem?_replicate]
  split <;> simp
theorem lfA_bd (u : Int) (xss : List (List Int)) : ∀ k j, 0 ≤ nth (lfA u xss k) j ∧ nth (lfA u xss k) j ≤ k
  | 0, j => by show 0 ≤ nth [] j ∧ nth [] j ≤ _; unfold nth; simp
  | k + 1, j => by
    have := lfP_bd (before := lfA u xss k) (M := k) (by omega) (lfA_bd u xss k) (gr u (prv xss k) (row xss k) 0 0) (List.replicate (row xss k).length 1) (fun j => by have := nth_ones (row xss k).length j; omega) j
    show 0 ≤ nth (lfS u (prv xss k) (lfA u xss k) (row xss k)) j ∧ nth (lfS u (prv xss k) (lfA u xss k) (row xss k)) j ≤ ((k + 1 : Nat) : Int)
    unfold lfS
    omega
theorem lfP_snoc (before : List Int) (l : List (Nat × Nat)) (p : Nat × Nat) (cur : List Int) : lfP before (l ++ [p]) cur = (lfP before l cur).set p.2 (nth before p.1 + 1) := by
  unfold lfP; rw [List.foldl_append]; rfl
theorem lfP_keep (before : List Int) (y : Nat) : ∀ (l : List (Nat × Nat)) (cur : List Int), (∀ p ∈ l, p.2 ≠ y) → nth (lfP before l cur) y = nth cur y
  | [], _, _ => rfl
  | p :: l, cur, h => by
    show nth (lfP before l (cur.set p.2 _)) y = _
    rw [lfP_keep before y l _ fun q hq => h q (List.mem_cons_of_mem _ hq)]
    by_cases hp : p.2 < cur.length
    · rw [nth_set _ _ _ _ hp, if_neg (fun e => h p List.mem_cons_self e.symm)]
    · rw [List.set_eq_of_length_le (by omega)]
theorem Asc_take : ∀ (l : List (Nat × Nat)) (k : Nat), Asc l → k < l.length → ∀ p ∈ l.take k, p.2 < (l.getD k (0, 0)).2
  | [], k, _, hk, p, hp => by simp at hk
  | q :: l, 0, _, _, p, hp => by simp at hp
  | q :: l, k + 1, h, hk, p, hp => by
    rw [List.take_succ_cons] at hp
    have hk' : k < l.length := by simpa using hk
    have e : (q :: l).getD (k + 1) (0, 0) = l.getD k (0, 0) := by simp
    rw [e]
    rcases List.mem_cons.1 hp with rfl | hp
    · refine (h.1 _ ?_).2
      rw [List.getD_eq_getElem?_getD, List.getElem?_eq_getElem hk']
      exact List.getElem_mem _
    · exact Asc_take l k h.2 hk' p hp
theorem take_pair (l : List (Nat × Nat)) (k : Nat) (h : k < l.length) : l.take (k + 1) = l.take k ++ [l.getD k (0, 0)] := by
  rw [List.take_succ_eq_append_getElem h]; simp [List.getD_eq_getElem?_getD, h]
theorem flat_nth : ∀ (l : List (Nat × Nat)) (k : Nat), k < l.length → nth (flat l) (k * 2) = ((l.getD k (0, 0)).1 : Int) ∧ nth (flat l) (k * 2 + 1) = ((l.getD k (0, 0)).2 : Int)
  | [], k, h => by simp at h
  | p :: l, 0, _ => ⟨rfl, rfl⟩
  | p :: l, k + 1, h => by
    have ih := flat_nth l k (by simpa using h)
    have e : (k + 1) * 2 = k * 2 + 1 + 1 := by omega
    have e2 : (p :: l).getD (k + 1) (0, 0) = l.getD k (0, 0) := by simp
    rw [e, e2]
    exact ih
end Go.Proofs.Ytmkpblfacnnnoaa
