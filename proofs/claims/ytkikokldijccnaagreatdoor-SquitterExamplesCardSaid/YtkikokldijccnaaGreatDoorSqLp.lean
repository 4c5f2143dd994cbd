/- squitter in plain Lean: what check sees of a row; a table to whose end an address is put. -/
import Derived.Test.YtkikokldijccnaaGreatDoorSqS
import Derived.Test.YtkikokldijccnaaGreatDoorK
namespace Go.Proofs.YtkikokldijccnaaGreatDoor
/-- the first k cycles are not behind the time, and ascend -/
def GoodC (now : Int) (cy : List Int) (k : Nat) : Prop := ∀ j, j < k → nth cy j ≤ now ∧ (j = 0 ∨ nth cy (j - 1) < nth cy j)
theorem GoodC.zero (now : Int) (cy : List Int) : GoodC now cy 0 := fun _ hj => absurd hj (Nat.not_lt_zero _)
theorem GoodC.succ {now : Int} {cy : List Int} {k : Nat} (h : GoodC now cy k) (h' : nth cy k ≤ now ∧ (k = 0 ∨ nth cy (k - 1) < nth cy k)) : GoodC now cy (k + 1) := fun j hj => by
  by_cases e : j = k
  · subst e; exact h'
  · exact h j (by omega)
theorem nth_get {l : List Int} {j : Nat} (h : j < l.length) : nth l j = l[j] := by simp [nth, List.getD_eq_getElem?_getD, h]
theorem nthL_mem {l : List Int} {j : Nat} (h : j < l.length) : nth l j ∈ l := by rw [nth_get h]; exact List.getElem_mem h
theorem GoodC.up {now : Int} {cy : List Int} {k : Nat} (h : GoodC now cy k) : ∀ j i, i < j → j < k → nth cy i < nth cy j := by
  intro j
  induction j with
  | zero => intro i hi; omega
  | succ j ih =>
    intro i hi hj
    have h1 := (h (j + 1) hj).2
    have h2 : nth cy j < nth cy (j + 1) := by
      rcases h1 with h1 | h1
      · omega
      · exact h1
    by_cases e : i = j
    · subst e; exact h2
    · exact Int.lt_trans (ih i (by omega) (by omega)) h2
theorem GoodC.all {now : Int} {cy : List Int} (h : GoodC now cy cy.length) : (∀ c ∈ cy, c ≤ now) ∧ cy.Pairwise (· < ·) := by
  refine ⟨fun c hc => ?_, ?_⟩
  · obtain ⟨j, hj, rfl⟩ := List.mem_iff_getElem.1 hc
    rw [← nth_get hj]; exact (h j hj).1
  · rw [List.pairwise_iff_getElem]
    intro i j hi hj hij
    rw [← nth_get hi, ← nth_get hj]
    exact h.up j i hij hj
theorem GoodC.of {now : Int} {cy : List Int} (h1 : ∀ c ∈ cy, c ≤ now) (h2 : cy.Pairwise (· < ·)) : ∀ j, j < cy.length → nth cy j ≤ now ∧ (j = 0 ∨ nth cy (j - 1) < nth cy j) := fun j hj => by
  refine ⟨by rw [nth_get hj]; exact h1 _ (List.getElem_mem hj), ?_⟩
  by_cases e : j = 0
  · exact .inl e
  · refine .inr ?_
    rw [nth_get hj, nth_get (by omega : j - 1 < cy.length)]
    exact List.pairwise_iff_getElem.1 h2 (j - 1) j (by omega) hj (by omega)
theorem chk_no {t : Ts} {x : Tk} {j : Nat} (hj : j < x.cy.length) (h : ¬ (nth x.cy j ≤ t.now ∧ (j = 0 ∨ nth x.cy (j - 1) < nth x.cy j))) : ¬ ChkT t x := fun ⟨h1, h2, _⟩ => h (GoodC.of h1 h2 j hj)
theorem headD_nth {l : List Int} : l.headD 0 = nth l 0 := by cases l <;> rfl
theorem chk_end {t : Ts} {x : Tk} (h : GoodC t.now x.cy x.cy.length) : ChkT t x ↔ (x.kn = true ∨ (x.cy.length : Int) < t.need) ∧ (t.win ≤ t.now - nth x.cy 0 → x.kn = true ∧ x.cy.length = 1 ∧ t.now - nth x.cy 0 < t.keep) := by
  unfold ChkT
  rw [headD_nth]
  obtain ⟨h1, h2⟩ := h.all
  exact ⟨fun ⟨_, _, a, b⟩ => ⟨a, b⟩, fun ⟨a, b⟩ => ⟨h1, h2, a, b⟩⟩
theorem putT_end {a : Int} {x : Tk} : ∀ {l : List (Int × Tk)}, (∀ p ∈ l, p.1 < a) → putT a x l = l ++ [(a, x)]
  | [], _ => rfl
  | p :: l, h => by
    have h1 := h p (List.mem_cons_self ..)
    unfold putT
    rw [if_neg (by omega), if_neg (by omega), putT_end fun q hq => h q (List.mem_cons_of_mem _ hq)]
    rfl
theorem look_end {a : Int} : ∀ {l : List (Int × Tk)}, (∀ p ∈ l, p.1 < a) → lookT a l = none
  | [], _ => rfl
  | p :: l, h => by
    have h1 := h p (List.mem_cons_self ..)
    unfold lookT
    rw [if_neg (by omega), look_end fun q hq => h q (List.mem_cons_of_mem _ hq)]
/-! ### loadR, row by row -/
/-- what Load makes of a row of numbers: an address, if it can be so -/
def rowM (t : Ts) (last : Int) (ns : List Int) : Option (Int × Tk) :=
  match ns with
  | a :: k :: c :: cy => if last < a ∧ a ≤ 16777215 ∧ k ≤ 1 ∧ ChkT t ⟨decide (k = 1), c :: cy⟩ then some (a, ⟨decide (k = 1), c :: cy⟩) else none
  | _ => none
theorem loadR_cons (t : Ts) (last : Int) (line : Tx) (rest : List Tx) : loadR t last (line :: rest) = (match numsM line with
    | some ns => (match rowM t last ns with | some p => loadR (addT t p) p.1 rest | none => none)
    | none => none) := by
  conv => lhs; unfold loadR
  unfold rowM
  rcases numsM line with _ | ns
  · rfl
  · rcases ns with _ | ⟨a, _ | ⟨k, _ | ⟨c, cy⟩⟩⟩
    · rfl
    · rfl
    · rfl
    · simp only
      split <;> rfl
theorem rowM_short {t : Ts} {last : Int} {ns : List Int} (h : ¬ 3 ≤ ns.length) : rowM t last ns = none := by
  rcases ns with _ | ⟨a, _ | ⟨k, _ | ⟨c, cy⟩⟩⟩
  · rfl
  · rfl
  · rfl
  · simp at h
theorem rowM_long {t : Ts} {last : Int} {ns : List Int} (h : 3 ≤ ns.length) : rowM t last ns = if last < nth ns 0 ∧ nth ns 0 ≤ 16777215 ∧ nth ns 1 ≤ 1 ∧ ChkT t ⟨decide (nth ns 1 = 1), ns.drop 2⟩ then some (nth ns 0, ⟨decide (nth ns 1 = 1), ns.drop 2⟩) else none := by
  rcases ns with _ | ⟨a, _ | ⟨k, _ | ⟨c, cy⟩⟩⟩
  · simp at h
  · simp at h
  · simp at h
  · rfl
theorem chk_add {t : Ts} {p : Int × Tk} {x : Tk} : ChkT (addT t p) x ↔ ChkT t x := Iff.rfl
theorem load_len {s : Tx} (h : ¬ (2 ≤ (splitC 10 s).length ∧ (splitC 10 s).length ≤ 66)) : loadT s = none := by
  unfold loadT
  rw [if_neg (fun g => h ⟨g.1, g.2.1⟩)]
theorem load_lastne {s : Tx} (h : (splitC 10 s).getLast (splitC_ne 10 s) ≠ []) : loadT s = none := by
  unfold loadT
  rw [if_neg (fun g => h g.2.2)]
theorem load_rest {s : Tx} {l0 : Tx} {rest : List Tx} (h : splitC 10 s = l0 :: (rest ++ [[]])) (hl : rest.length ≤ 64) : (numsM l0 = none → loadT s = none) ∧ (∀ ns, numsM l0 = some ns → ns.length ≠ 4 → loadT s = none) ∧ (∀ need win keep now, numsM l0 = some [need, win, keep, now] → loadT s = if newE need win keep = 0 then loadR ⟨need, win, keep, now, []⟩ (-1) rest else none) := by
  have h' : splitC 10 s = (l0 :: rest) ++ [[]] := h
  have e := load_of h'
  rw [if_pos (by simp; omega)] at e
  simp only [List.headD_cons, List.tail_cons] at e
  refine ⟨fun hn => by rw [e, hn], fun ns hn hk => ?_, fun need win keep now hn => by rw [e, hn]⟩
  rw [e, hn]
  rcases ns with _ | ⟨a, _ | ⟨b, _ | ⟨c, _ | ⟨d, _ | ⟨x, l⟩⟩⟩⟩⟩
  · rfl
  · rfl
  · rfl
  · rfl
  · simp at hk
  · rfl
theorem ends_split {ls : List Tx} (h2 : 2 ≤ ls.length) (hne : ls ≠ []) (h : ls.getLast hne = []) : ∃ l0 rest, ls = l0 :: (rest ++ [[]]) ∧ ls.length = rest.length + 2 := by
  have e := List.dropLast_concat_getLast hne
  rw [h] at e
  cases hd : ls.dropLast with
  | nil => rw [hd] at e; rw [← e] at h2; simp at h2
  | cons l0 rest =>
    rw [hd] at e
    refine ⟨l0, rest, e.symm, ?_⟩
    rw [← e]; simp
theorem rest_at {l0 : Tx} {rest : List Tx} {i : Nat} {u : Tx} (h : rest[i]? = some u) : (l0 :: (rest ++ [[]]))[1 + i]? = some u := by
  rw [Nat.add_comm, List.getElem?_cons_succ, List.getElem?_append_left (List.getElem?_eq_some_iff.1 h).1]; exact h
end Go.Proofs.YtkikokldijccnaaGreatDoor
