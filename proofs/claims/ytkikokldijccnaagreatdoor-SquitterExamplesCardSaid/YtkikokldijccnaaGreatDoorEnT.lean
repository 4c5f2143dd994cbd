/- Plain laws of texts: numerals, splitting, lines and words. -/
import Derived.Lib.AtoiAll
import Derived.Lib.ItoaNum
import Derived.Lib.SplitLaws
import Derived.Lib.IndexLaws
import Derived.Lib.IndexMore
import Derived.Lib.Join
namespace Go.Proofs.YtkikokldijccnaaGreatDoor
open Go
abbrev Tx := List UInt8
def isD (c : UInt8) : Prop := 48 ≤ c.toNat ∧ c.toNat ≤ 57
instance : DecidablePred isD := fun c => by unfold isD; infer_instance

/-! ### decimal numerals -/
theorem dig_isD (u : Nat) (h : u < 10) : isD (UInt8.ofNat (48 + u)) ∧ (UInt8.ofNat (48 + u)).toNat = 48 + u := by
  have e : (UInt8.ofNat (48 + u)).toNat = 48 + u := by
    rw [UInt8.toNat_ofNat']; omega
  exact ⟨by unfold isD; omega, e⟩
theorem dd_dig : ∀ (n : Nat), ∀ c ∈ Lib.decDigits n, isD c := by
  intro n
  induction n using Nat.strongRecOn with
  | _ n ih =>
    intro c hc
    rw [Lib.decDigits] at hc
    split at hc
    · rw [List.mem_singleton] at hc
      rw [hc]; exact (dig_isD n (by omega)).1
    · rename_i hn
      rw [List.mem_append, List.mem_singleton] at hc
      rcases hc with hc | hc
      · exact ih (n / 10) (by omega) c hc
      · rw [hc]; exact (dig_isD (n % 10) (by omega)).1
theorem dd_ne (n : Nat) : Lib.decDigits n ≠ [] := by
  rw [Lib.decDigits]; split <;> simp
theorem pu_app : ∀ (a b : List UInt8) (acc v : Nat), Lib.parseUint10 acc a = .ok v → Lib.parseUint10 acc (a ++ b) = Lib.parseUint10 v b
  | [], b, acc, v, h => by
    simp only [Lib.parseUint10] at h
    injection h with h
    rw [h]; rfl
  | c :: r, b, acc, v, h => by
    simp only [Lib.parseUint10, List.cons_append] at h ⊢
    split at h
    · rename_i h1
      rw [if_pos h1]
      split at h
      · cases h
      · rename_i h2
        rw [if_neg h2]
        split at h
        · cases h
        · rename_i h3
          rw [if_neg h3]
          exact pu_app r b _ v h
    · cases h
theorem pu_dd : ∀ (n : Nat), n < 18446744073709551616 → Lib.parseUint10 0 (Lib.decDigits n) = .ok n := by
  intro n
  induction n using Nat.strongRecOn with
  | _ n ih =>
    intro hn
    rw [Lib.decDigits]
    split
    · rename_i h
      obtain ⟨h1, h2⟩ := dig_isD n h
      simp only [Lib.parseUint10]
      rw [if_pos (show 48 ≤ _ ∧ _ from h1), if_neg (by omega), if_neg (by rw [h2]; omega), h2]
      congr 1; omega
    · rename_i h
      rw [pu_app _ _ _ _ (ih (n / 10) (by omega) (by omega))]
      obtain ⟨h1, h2⟩ := dig_isD (n % 10) (by omega)
      simp only [Lib.parseUint10]
      rw [if_pos (show 48 ≤ _ ∧ _ from h1), if_neg (by omega), if_neg (by rw [h2]; omega), h2]
      congr 1; omega
theorem pm_dd (n : Nat) (hn : n < 18446744073709551616) : Lib.parseMag (Lib.decDigits n) = .ok n := by
  unfold Lib.parseMag
  rw [if_neg (dd_ne n), pu_dd n hn]
theorem nD_le : ∀ (j u : Nat), 1 ≤ j → u < 10 ^ j → Lib.nDigits u ≤ j
  | 0, _, h, _ => by omega
  | 1, u, _, h => by rw [Lib.nDigits_small (by simpa using h)]; omega
  | j + 2, u, _, h => by
    by_cases hu : u < 10
    · rw [Lib.nDigits_small hu]; omega
    · rw [Lib.nDigits_big hu]
      have := nD_le (j + 1) (u / 10) (by omega) (by rw [Nat.pow_succ] at h ⊢; rw [Nat.pow_succ] at h; rw [Nat.div_lt_iff_lt_mul (by omega)]; omega)
      omega
def small (n : Int) : Prop := -1000000000 < n ∧ n < 1000000000
theorem dd_len9 (u : Nat) : (Lib.decDigits u).length ≤ 9 ↔ u < 1000000000 := by
  rw [Lib.decDigits_length]
  refine ⟨fun h => ?_, fun h => nD_le 9 u (by omega) (by simpa using h)⟩
  have h1 := Lib.lt_pow_nDigits u
  have h2 : (10 : Nat) ^ Lib.nDigits u ≤ 10 ^ 9 := Nat.pow_le_pow_right (by omega) h
  have h3 : (10 : Nat) ^ 9 = 1000000000 := by decide
  omega
theorem dd_head (u : Nat) : ∃ c m, Lib.decDigits u = c :: m ∧ isD c := by
  cases h : Lib.decDigits u with
  | nil => exact absurd h (dd_ne u)
  | cons c m => exact ⟨c, m, rfl, dd_dig u c (by rw [h]; exact List.mem_cons_self)⟩
theorem isD_ne {c : UInt8} (h : isD c) (k : UInt8) (hk : k.toNat < 48 ∨ 57 < k.toNat) : c ≠ k := by
  rintro rfl
  unfold isD at h
  omega
theorem tp_dd (u : Nat) : Lib.trimPrefix (Lib.decDigits u) [45] = Lib.decDigits u := by
  obtain ⟨c, m, e, hc⟩ := dd_head u
  rw [e]
  unfold Lib.trimPrefix Lib.hasPrefix
  have : (45 : UInt8) ≠ c := fun e => isD_ne hc 45 (by decide) e.symm
  simp [List.isPrefixOf, this]
theorem tp_neg (l : List UInt8) : Lib.trimPrefix (45 :: l) [45] = l := by simp [Lib.trimPrefix, Lib.hasPrefix, List.isPrefixOf]
/-- What the package's scanner takes for a number. -/
def numO (w : Tx) : Option Int :=
  match Lib.atoiAll w with
  | .ok n => if Lib.itoa n = w ∧ (Lib.trimPrefix w [45]).length ≤ 9 then some n else none
  | _ => none
theorem trim_itoa (n : Int) : Lib.trimPrefix (Lib.itoa n) [45] = Lib.decDigits n.natAbs := by
  unfold Lib.itoa
  split
  · exact tp_neg _
  · rw [tp_dd]; congr 1; omega
theorem itoa_small (n : Int) : (Lib.trimPrefix (Lib.itoa n) [45]).length ≤ 9 ↔ small n := by
  rw [trim_itoa, dd_len9]; unfold small; omega
theorem atoi_itoa (n : Int) (h0 : -9223372036854775808 ≤ n) (h1 : n ≤ 9223372036854775807) : Lib.atoiAll (Lib.itoa n) = .ok n := by
  unfold Lib.itoa
  split
  · rename_i h
    have e : Lib.parseMag (if (45 : UInt8).toNat = 43 ∨ (45 : UInt8).toNat = 45 then Lib.decDigits n.natAbs else 45 :: Lib.decDigits n.natAbs) = .ok n.natAbs := by
      rw [if_pos (Or.inr (by decide))]; exact pm_dd _ (by omega)
    simp only [Lib.atoiAll]
    rw [e]
    have h45 : (45 : UInt8).toNat = 45 := by decide
    simp only [h45, not_true_eq_false, false_and, if_false, true_and, if_true]
    rw [if_neg (by omega)]
    congr 1; omega
  · rename_i h
    obtain ⟨c, m, e, hc⟩ := dd_head n.toNat
    have hp := pm_dd n.toNat (by omega)
    rw [e] at hp ⊢
    unfold isD at hc
    simp only [Lib.atoiAll]
    rw [if_neg (by omega), hp]
    have h45 : ¬ c.toNat = 45 := by omega
    simp only [h45, not_false_eq_true, true_and, false_and, if_false]
    rw [if_neg (by omega)]
    congr 1; omega
theorem numO_iff (w : Tx) (n : Int) : numO w = some n ↔ Lib.itoa n = w ∧ small n := by
  constructor
  · intro h
    unfold numO at h
    split at h
    · split at h
      · rename_i hh
        obtain rfl := Option.some.inj h
        refine ⟨hh.1, ?_⟩
        have := hh.2
        rw [← hh.1] at this
        exact (itoa_small _).1 this
      · cases h
    · cases h
  · rintro ⟨rfl, h⟩
    unfold numO
    have h' := h
    unfold small at h'
    rw [atoi_itoa n (by omega) (by omega)]
    simp only
    rw [if_pos ⟨trivial, (itoa_small n).2 h⟩]
theorem numO_itoa {n : Int} (h : small n) : numO (Lib.itoa n) = some n := (numO_iff _ _).2 ⟨rfl, h⟩
theorem itoa_no {n : Int} {k : UInt8} (h45 : k ≠ 45) (hk : k.toNat < 48 ∨ 57 < k.toNat) : k ∉ Lib.itoa n := by
  unfold Lib.itoa
  split
  · intro h
    rcases List.mem_cons.1 h with h | h
    · exact h45 h
    · exact isD_ne (dd_dig _ _ h) k hk rfl
  · intro h
    exact isD_ne (dd_dig _ _ h) k hk rfl
theorem itoa_ne (n : Int) : Lib.itoa n ≠ [] := by
  unfold Lib.itoa; split
  · simp
  · exact dd_ne _
theorem itoa_len {n : Int} (h : small n) : (Lib.itoa n).length ≤ 10 := by
  unfold small at h
  unfold Lib.itoa
  split
  · have := (dd_len9 n.natAbs).2 (by omega)
    simp; omega
  · have := (dd_len9 n.toNat).2 (by omega)
    omega

/-! ### splitting at a byte -/
def splitC (c : UInt8) : List UInt8 → List (List UInt8)
  | [] => [[]]
  | x :: l => if x = c then [] :: splitC c l else (match splitC c l with | [] => [[x]] | h :: t => (x :: h) :: t)
theorem splitC_ne (c : UInt8) : ∀ l, splitC c l ≠ []
  | [] => by simp [splitC]
  | x :: l => by
    unfold splitC
    split
    · simp
    · split <;> simp
theorem splitC_none {c : UInt8} : ∀ {l : List UInt8}, c ∉ l → splitC c l = [l]
  | [], _ => rfl
  | x :: l, h => by
    rw [List.mem_cons, not_or] at h
    unfold splitC
    rw [if_neg (fun e => h.1 e.symm), splitC_none h.2]
theorem splitC_at {c : UInt8} : ∀ {a m : List UInt8}, c ∉ a → splitC c (a ++ c :: m) = a :: splitC c m
  | [], m, _ => by simp [splitC]
  | x :: a, m, h => by
    rw [List.mem_cons, not_or] at h
    rw [List.cons_append]
    conv => lhs; unfold splitC
    rw [if_neg (fun e => h.1 e.symm), splitC_at h.2]
theorem splitC_mem {c : UInt8} : ∀ {l : List UInt8}, ∀ x ∈ splitC c l, c ∉ x
  | [], x, h => by simp [splitC] at h; simp [h]
  | y :: l, x, h => by
    unfold splitC at h
    split at h
    · rcases List.mem_cons.1 h with rfl | h
      · simp
      · exact splitC_mem x h
    · rename_i hy
      split at h
      · simp at h; subst h; simp; exact fun e => hy e.symm
      · rename_i a t e
        rcases List.mem_cons.1 h with rfl | h
        · rw [List.mem_cons, not_or]
          exact ⟨fun e => hy e.symm, splitC_mem a (by rw [e]; exact List.mem_cons_self)⟩
        · exact splitC_mem x (by rw [e]; exact List.mem_cons_of_mem _ h)
/-- a byte is found or not -/
theorem find_c (c : UInt8) : ∀ l : List UInt8, c ∉ l ∨ ∃ a m, l = a ++ c :: m ∧ c ∉ a
  | [] => .inl (by simp)
  | x :: l => by
    by_cases h : x = c
    · exact .inr ⟨[], l, by simp [h], by simp⟩
    · rcases find_c c l with g | ⟨a, m, rfl, g⟩
      · exact .inl (by rw [List.mem_cons, not_or]; exact ⟨fun e => h e.symm, g⟩)
      · exact .inr ⟨x :: a, m, rfl, by rw [List.mem_cons, not_or]; exact ⟨fun e => h e.symm, g⟩⟩
theorem splitC_join (c : UInt8) : ∀ l, Lib.join (splitC c l) [c] = l := by
  intro l
  generalize hn : l.length = n
  induction n using Nat.strongRecOn generalizing l with
  | _ n ih =>
    rcases find_c c l with g | ⟨a, m, rfl, g⟩
    · rw [splitC_none g, Lib.join_one]
    · rw [splitC_at g, Lib.join_cons]
      have e := ih m.length (by rw [← hn]; simp; omega) m rfl
      cases hs : splitC c m with
      | nil => exact absurd hs (splitC_ne c m)
      | cons h t =>
        rw [hs, Lib.join_cons] at e
        rw [← e]
        simp [Lib.joinTail]
theorem splitC_of_join {c : UInt8} : ∀ {xs : List (List UInt8)}, xs ≠ [] → (∀ x ∈ xs, c ∉ x) → splitC c (Lib.join xs [c]) = xs
  | [], h, _ => absurd rfl h
  | [x], _, h => by rw [Lib.join_one, splitC_none (h x (by simp))]
  | x :: y :: r, _, h => by
    have ih := splitC_of_join (xs := y :: r) (by simp) (fun z hz => h z (List.mem_cons_of_mem _ hz))
    rw [Lib.join_cons] at ih ⊢
    have e : Lib.joinTail [c] (y :: r) = c :: (y ++ Lib.joinTail [c] r) := by simp [Lib.joinTail]
    rw [e, splitC_at (h x (by simp)), ih]
theorem splitC_lines {c : UInt8} : ∀ {ls : List (List UInt8)}, (∀ x ∈ ls, c ∉ x) → splitC c ((ls.map (· ++ [c])).flatten) = ls ++ [[]]
  | [], _ => by simp [splitC]
  | x :: ls, h => by
    have ih := splitC_lines (ls := ls) (fun z hz => h z (List.mem_cons_of_mem _ hz))
    rw [List.map_cons, List.flatten_cons, List.append_assoc, List.singleton_append, splitC_at (h x (by simp)), ih]
    rfl
theorem splitC_concat (c : UInt8) (l : List UInt8) (h : (splitC c l).getLast (splitC_ne c l) = []) : (((splitC c l).dropLast).map (· ++ [c])).flatten = l := by
  generalize hn : l.length = n
  induction n using Nat.strongRecOn generalizing l with
  | _ n ih =>
    rcases find_c c l with g | ⟨a, m, rfl, g⟩
    · simp only [splitC_none g] at h ⊢
      simp at h ⊢
      exact h
    · have hl : (splitC c m).getLast (splitC_ne c m) = [] := by
        have : (a :: splitC c m).getLast (by simp) = [] := by
          rw [← h]; congr 1; exact (splitC_at g).symm
        rwa [List.getLast_cons (splitC_ne c m)] at this
      have e := ih m.length (by rw [← hn]; simp; omega) m hl rfl
      rw [splitC_at g, List.dropLast_cons_of_ne_nil (splitC_ne c m), List.map_cons, List.flatten_cons, e]
      simp
/-! ### the library's index, cut, split -/
theorem idx_none : ∀ {l : List UInt8} {c : UInt8}, c ∉ l → Lib.index l [c] = -1 := by
  intro l c h
  refine Lib.index_none fun j hj => ?_
  cases e : Lib.occAt l [c] j with
  | false => rfl
  | true =>
    have := Lib.occAt_head (c := c) (t := []) rfl e
    exact absurd (List.mem_of_getElem? this) h
theorem idx_at : ∀ {l m : List UInt8} {c : UInt8}, c ∉ l → Lib.index (l ++ c :: m) [c] = l.length := by
  intro l m c h
  refine Lib.index_first (by simp) (by simp [Lib.occAt, List.isPrefixOf]) fun j hj => ?_
  cases e : Lib.occAt (l ++ c :: m) [c] j with
  | false => rfl
  | true =>
    have := Lib.occAt_head (c := c) (t := []) rfl e
    rw [List.getElem?_append_left hj] at this
    exact absurd (List.mem_of_getElem? this) h
theorem cut_none {l : List UInt8} {c : UInt8} (h : c ∉ l) : Lib.cut l [c] = (l, [], false) := by
  unfold Lib.cut; rw [idx_none h]; rfl
theorem cut_at {l m : List UInt8} {c : UInt8} (h : c ∉ l) : Lib.cut (l ++ c :: m) [c] = (l, m, true) := by
  unfold Lib.cut; rw [idx_at h]
  rw [if_pos (by omega)]
  have : ((l.length : Int)).toNat = l.length := by omega
  rw [this]
  simp
theorem splitK_eq (c : UInt8) : ∀ (k : Nat) (s : List UInt8), s.count c ≤ k → Lib.splitK [c] 0 k s = splitC c s
  | 0, s, h => by
    have : c ∉ s := fun g => by have := List.count_pos_iff.2 g; omega
    rw [splitC_none this]; rfl
  | k + 1, s, h => by
    unfold Lib.splitK
    rcases find_c c s with g | ⟨a, m, rfl, g⟩
    · rw [idx_none g, splitC_none g]; rfl
    · rw [idx_at g, splitC_at g]
      have h1 : ((a.length : Int) == -1) = false := by rw [beq_eq_false_iff_ne]; omega
      rw [h1]
      have h2 : ((a.length : Int)).toNat = a.length := by omega
      simp only [Bool.false_eq_true, if_false, h2, Nat.add_zero, List.length_singleton]
      have h3 : (a ++ c :: m).take a.length = a := by simp
      have h4 : (a ++ c :: m).drop (a.length + 1) = m := by simp
      rw [h3, h4, splitK_eq c k m (by rw [List.count_append, List.count_cons_self] at h; omega)]
theorem split_eq (s : List UInt8) (c : UInt8) : Lib.split s [c] = splitC c s := by
  unfold Lib.split
  exact splitK_eq c _ s (by rw [Lib.count_one]; exact Nat.le_refl _)
end Go.Proofs.YtkikokldijccnaaGreatDoor
