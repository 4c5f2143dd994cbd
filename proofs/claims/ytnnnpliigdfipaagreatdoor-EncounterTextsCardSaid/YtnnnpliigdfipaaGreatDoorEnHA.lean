/- encounter: how the reference reads a number, in plain Lean. -/
import Derived.Test.YtnnnpliigdfipaaGreatDoorEnU
namespace Go.Proofs.YtnnnpliigdfipaaGreatDoor
open Go
def dval (a : Nat) (l : Tx) : Nat := l.foldl (fun a c => 10 * a + (c.toNat - 48)) a
theorem dval_nil (a : Nat) : dval a [] = a := by unfold dval; rw [List.foldl_nil]
theorem dval_cons (a : Nat) (c : UInt8) (l : Tx) : dval a (c :: l) = dval (10 * a + (c.toNat - 48)) l := by unfold dval; rw [List.foldl_cons]
theorem dval_snoc (c : UInt8) (l : Tx) (a : Nat) : dval a (l ++ [c]) = 10 * dval a l + (c.toNat - 48) := by
  unfold dval; rw [List.foldl_append, List.foldl_cons, List.foldl_nil]
theorem dval_ge : ∀ (l : Tx) (a : Nat), a ≤ dval a l
  | [], a => Nat.le_refl _
  | c :: l, a => by
    rw [dval_cons]
    have := dval_ge l (10 * a + (c.toNat - 48))
    omega
theorem dval_lt : ∀ (l : Tx) (a j : Nat), (∀ c ∈ l, isD c) → a < 10 ^ j → dval a l < 10 ^ (j + l.length)
  | [], a, j, _, h => h
  | c :: l, a, j, hd, h => by
    have h1 := (hd c (by simp)).2
    have := dval_lt l (10 * a + (c.toNat - 48)) (j + 1) (fun x hx => hd x (by simp [hx])) (by rw [Nat.pow_succ]; omega)
    rw [dval_cons, List.length_cons, show j + (l.length + 1) = j + 1 + l.length by omega]
    exact this
theorem dval_dd (n : Nat) : dval 0 (Lib.decDigits n) = n := by
  induction n using Nat.strongRecOn with
  | _ n ih =>
    rw [Lib.decDigits]
    split
    · rename_i h
      rw [dval_cons, dval_nil, (dig_isD n h).2]
      omega
    · rename_i h
      rw [dval_snoc, ih (n / 10) (by omega), (dig_isD (n % 10) (by omega)).2]
      omega
theorem dd_dval : ∀ (k : Nat) (l : Tx), l.length = k → l ≠ [] → (∀ c ∈ l, isD c) → (1 < l.length → l.headD 0 ≠ 48) → Lib.decDigits (dval 0 l) = l := by
  intro k
  induction k with
  | zero => intro l h hn; cases l with
    | nil => exact absurd rfl hn
    | cons c m => simp at h
  | succ k ih =>
    intro l hl hn hd hh
    rcases List.eq_nil_or_concat l with e | ⟨m, c, e⟩
    · exact absurd e hn
    · rw [List.concat_eq_append] at e
      subst e
      have hc := hd c (by simp)
      unfold isD at hc
      have hof : UInt8.ofNat (48 + (c.toNat - 48)) = c := by rw [show 48 + (c.toNat - 48) = c.toNat by omega]; simp
      rw [dval_snoc]
      cases m with
      | nil =>
        rw [Lib.decDigits, dif_pos (by rw [dval_nil]; omega)]
        rw [dval_nil, Nat.mul_zero, Nat.zero_add, hof, List.nil_append]
      | cons x r =>
        have hx := hd x (by simp)
        unfold isD at hx
        have hx48 : x ≠ 48 := by have := hh (by simp); simpa using this
        have hxn : x.toNat ≠ 48 := fun e => hx48 (UInt8.toNat_inj.1 (by rw [e]; rfl))
        have hpos : 1 ≤ dval 0 (x :: r) := by
          rw [dval_cons]
          have := dval_ge r (10 * 0 + (x.toNat - 48))
          omega
        rw [Lib.decDigits, dif_neg (by omega), show (10 * dval 0 (x :: r) + (c.toNat - 48)) / 10 = dval 0 (x :: r) by omega,
          show (10 * dval 0 (x :: r) + (c.toNat - 48)) % 10 = c.toNat - 48 by omega, hof]
        rw [ih (x :: r) (by simpa using hl) (by simp) (fun y hy => hd y (by simp at hy ⊢; rcases hy with h | h <;> simp [h])) (fun _ => by simpa using hx48)]
/-- the digits of a numeral -/
def digs (s : Tx) : Tx := if s.headD 0 = 45 then s.tail else s
def refN (s : Tx) : Option Int :=
  if (digs s).length = 0 ∨ 9 < (digs s).length ∨ ((digs s).headD 0 = 48 ∧ (1 < (digs s).length ∨ 1 < s.length)) then none
  else if ∀ c ∈ digs s, isD c then some (if (digs s).length < s.length then - (dval 0 (digs s) : Int) else (dval 0 (digs s) : Int)) else none
theorem dd_head48 {u : Nat} (h : (Lib.decDigits u).headD 0 = 48) : u = 0 := by
  induction u using Nat.strongRecOn with
  | _ n ih =>
    rw [Lib.decDigits] at h
    split at h
    · rename_i hn
      simp only [List.headD_cons] at h
      have := (dig_isD n hn).2
      rw [h] at this
      have e : (48 : UInt8).toNat = 48 := rfl
      omega
    · rename_i hn
      obtain ⟨c, m, e, -⟩ := dd_head (n / 10)
      rw [e, List.cons_append, List.headD_cons] at h
      have := ih (n / 10) (by omega) (by rw [e]; exact h)
      omega
theorem isD_45 {c : UInt8} (h : isD c) : c ≠ 45 := isD_ne h 45 (by decide)
theorem refN_to {s : Tx} {n : Int} (h : refN s = some n) : Lib.itoa n = s ∧ small n := by
  unfold refN at h
  obtain ⟨d, e⟩ : ∃ d, d = digs s := ⟨_, rfl⟩
  rw [← e] at h
  split at h
  · cases h
  rename_i h1
  by_cases hd : ∀ c ∈ d, isD c
  case neg => rw [if_neg hd] at h; cases h
  rw [if_pos hd] at h
  have a1 : ¬ d.length = 0 := fun e => h1 (.inl e)
  have a2 : ¬ 9 < d.length := fun e => h1 (.inr (.inl e))
  have a3 : d.headD 0 = 48 → ¬ 1 < d.length ∧ ¬ 1 < s.length := fun e => ⟨fun g => h1 (.inr (.inr ⟨e, .inl g⟩)), fun g => h1 (.inr (.inr ⟨e, .inr g⟩))⟩
  have hn : d ≠ [] := fun e => a1 (by rw [e]; rfl)
  have hdd := dd_dval _ d rfl hn hd (fun g e => (a3 e).1 g)
  have hlt := dval_lt d 0 0 hd (by simp)
  have hlt9 : dval 0 d < 1000000000 := by
    have : (10 : Nat) ^ (0 + d.length) ≤ 10 ^ 9 := Nat.pow_le_pow_right (by omega) (by omega)
    omega
  clear hlt
  obtain ⟨v, hv⟩ : ∃ v, v = dval 0 d := ⟨_, rfl⟩
  rw [← hv] at h hdd hlt9
  injection h with h
  by_cases h45 : s.headD 0 = 45
  · have e2 : digs s = s.tail := by unfold digs; rw [if_pos h45]
    cases s with
    | nil => simp at h45
    | cons c m =>
      rw [List.headD_cons] at h45
      subst h45
      rw [e2, List.tail_cons] at e
      subst e
      rw [if_pos (by simp)] at h
      have hv0 : v ≠ 0 := by
        intro h0
        have e0 : Lib.decDigits 0 = [48] := by rw [Lib.decDigits]; rfl
        rw [h0, e0] at hdd
        have := (a3 (by rw [← hdd]; rfl)).2
        rw [← hdd] at this
        simp at this
      refine ⟨?_, by unfold small; omega⟩
      unfold Lib.itoa
      rw [if_pos (by omega), show n.natAbs = v by omega, hdd]
  · have e2 : digs s = s := by unfold digs; rw [if_neg h45]
    rw [e2] at e
    subst e
    rw [if_neg (by omega)] at h
    refine ⟨?_, by unfold small; omega⟩
    unfold Lib.itoa
    rw [if_neg (by omega), show n.toNat = v by omega, hdd]
theorem digs_itoa (n : Int) : digs (Lib.itoa n) = Lib.decDigits n.natAbs := by
  unfold Lib.itoa
  split
  · unfold digs
    rw [if_pos (by simp)]; rfl
  · rename_i h
    obtain ⟨c, m, e, hc⟩ := dd_head n.toNat
    have e2 : n.natAbs = n.toNat := by omega
    rw [e2, e]
    unfold digs
    rw [if_neg (by simpa using isD_45 hc)]
theorem refN_of {n : Int} (h : small n) : refN (Lib.itoa n) = some n := by
  have hs := h
  unfold small at hs
  have l9 := (dd_len9 n.natAbs).2 (by omega)
  have hne := dd_ne n.natAbs
  have hl0 : ¬ (Lib.decDigits n.natAbs).length = 0 := fun e => hne (List.length_eq_zero_iff.1 e)
  unfold refN
  rw [digs_itoa, if_neg, if_pos (dd_dig n.natAbs), dval_dd]
  · unfold Lib.itoa
    split
    · rw [if_pos (by simp)]; congr 1; omega
    · rename_i h0
      rw [show n.toNat = n.natAbs by omega, if_neg (by omega)]; congr 1; omega
  · rintro (g | g | ⟨g1, g2⟩)
    · exact hl0 g
    · omega
    · have h0 := dd_head48 g1
      obtain rfl : n = 0 := by omega
      have e0 : Lib.decDigits (0 : Int).natAbs = [48] := by show Lib.decDigits 0 = _; rw [Lib.decDigits]; rfl
      have e1 : Lib.itoa 0 = [48] := by unfold Lib.itoa; rw [if_neg (by omega)]; exact e0
      rw [e0, e1] at g2
      simp at g2
theorem refN_eq (s : Tx) : refN s = numO s := by
  apply Option.ext
  intro n
  rw [numO_iff]
  constructor
  · exact refN_to
  · rintro ⟨rfl, h⟩; exact refN_of h
end Go.Proofs.YtnnnpliigdfipaaGreatDoor
