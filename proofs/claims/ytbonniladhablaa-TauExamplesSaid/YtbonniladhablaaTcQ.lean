/- Plain laws of chapter 35: tables, indices, classes. -/
import Derived.Test.YtbonniladhablaaTaE
import Derived.Test.YtbonniladhablaaKW
namespace Go.Proofs.Ytbonniladhablaa
/-! ### Tables -/
/-- The first k floors ascend, from the least altitude to the greatest. -/
def flOk (fl : List Int) : Nat → Bool
  | 0 => true
  | k + 1 => flOk fl k && decide ((if k = 0 then -1000 else nth fl (k - 1) + 1) ≤ nth fl k ∧ nth fl k ≤ 50000)
def lo (fl : List Int) (k : Nat) : Int := if k = 0 then -1000 else nth fl (k - 1) + 1
theorem flOk_step {fl : List Int} {k : Nat} (h : flOk fl k = true) (h' : lo fl k ≤ nth fl k ∧ nth fl k ≤ 50000) : flOk fl (k + 1) = true := by
  unfold flOk; rw [h, Bool.true_and]; exact decide_eq_true h'
theorem flOk_at {fl : List Int} : ∀ {n k : Nat}, flOk fl n = true → k < n → lo fl k ≤ nth fl k ∧ nth fl k ≤ 50000
  | n + 1, k, h, hk => by
    unfold flOk at h
    rw [Bool.and_eq_true] at h
    rcases Nat.lt_or_ge k n with g | g
    · exact flOk_at h.1 g
    · obtain rfl : k = n := by omega
      exact of_decide_eq_true h.2
theorem flOk_bad {fl : List Int} {n k : Nat} (hk : k < n) (h : ¬ (lo fl k ≤ nth fl k ∧ nth fl k ≤ 50000)) : flOk fl n = false := by
  rcases e : flOk fl n with _ | _
  · rfl
  · exact absurd (flOk_at e hk) h
theorem lo_ge {fl : List Int} : ∀ {k : Nat}, flOk fl k = true → -1000 ≤ lo fl k ∧ lo fl k ≤ 50001
  | 0, _ => ⟨Int.le_refl _, by show (-1000 : Int) ≤ 50001; omega⟩
  | k + 1, h => by
    have h1 := flOk_at h (Nat.lt_succ_self k)
    have h2 : flOk fl k = true := by unfold flOk at h; rw [Bool.and_eq_true] at h; exact h.1
    have h3 := lo_ge h2
    have e : lo fl (k + 1) = nth fl k + 1 := rfl
    omega
theorem fl_asc {fl : List Int} {n : Nat} (h : flOk fl n = true) {i : Nat} : ∀ {j : Nat}, i < j → j < n → nth fl i < nth fl j
  | j + 1, h1, h2 => by
    have h3 := flOk_at h h2
    have e : lo fl (j + 1) = nth fl j + 1 := rfl
    rcases Nat.lt_or_ge i j with g | g
    · have := fl_asc h g (by omega)
      omega
    · obtain rfl : i = j := by omega
      omega
/-- The k-th level of a list of levels is valid: four numbers each: time, near, high, vert. -/
def okLv (xs : List Int) (k : Nat) : Prop := okL (nth xs (k * 4)) (nth xs (k * 4 + 1)) (nth xs (k * 4 + 2)) (nth xs (k * 4 + 3))
instance okLvD (xs : List Int) (k : Nat) : Decidable (okLv xs k) := by unfold okLv; infer_instance
def lvOk (xs : List Int) : Nat → Bool
  | 0 => true
  | k + 1 => lvOk xs k && decide (okLv xs k)
theorem lvOk_step {xs : List Int} {k : Nat} (h : lvOk xs k = true) (h' : okLv xs k) : lvOk xs (k + 1) = true := by
  unfold lvOk; rw [h, Bool.true_and]; exact decide_eq_true h'
theorem lvOk_at {xs : List Int} : ∀ {n k : Nat}, lvOk xs n = true → k < n → okLv xs k
  | n + 1, k, h, hk => by
    unfold lvOk at h
    rw [Bool.and_eq_true] at h
    rcases Nat.lt_or_ge k n with g | g
    · exact lvOk_at h.1 g
    · obtain rfl : k = n := by omega
      exact of_decide_eq_true h.2
theorem lvOk_bad {xs : List Int} {n k : Nat} (hk : k < n) (h : ¬ okLv xs k) : lvOk xs n = false := by
  rcases e : lvOk xs n with _ | _
  · rfl
  · exact absurd (lvOk_at e hk) h
def okF (far tall : Int) : Prop := 0 ≤ far ∧ far ≤ 8192 ∧ 0 ≤ tall ∧ tall ≤ 50000
instance okFD (far tall : Int) : Decidable (okF far tall) := by unfold okF; infer_instance
/-- What Check returns: floors fl, na levels xa, nb levels xb. -/
def ckTb (fl : List Int) (na : Nat) (xa : List Int) (nb : Nat) (xb : List Int) (far tall : Int) : Int :=
  if 15 < fl.length then 4 else if flOk fl fl.length = true then (if na = fl.length + 1 ∧ nb = fl.length + 1 then (if lvOk xa na = true ∧ lvOk xb nb = true ∧ okF far tall then 0 else 1) else 2) else 1
theorem ckTb_4 {fl : List Int} {na : Nat} {xa : List Int} {nb : Nat} {xb : List Int} {far tall : Int} (h : 15 < fl.length) : ckTb fl na xa nb xb far tall = 4 := by unfold ckTb; rw [if_pos h]
theorem ckTb_f {fl : List Int} {na : Nat} {xa : List Int} {nb : Nat} {xb : List Int} {far tall : Int} (h : ¬ 15 < fl.length) (h1 : flOk fl fl.length = false) : ckTb fl na xa nb xb far tall = 1 := by unfold ckTb; rw [if_neg h, if_neg (by rw [h1]; simp)]
theorem ckTb_2 {fl : List Int} {na : Nat} {xa : List Int} {nb : Nat} {xb : List Int} {far tall : Int} (h : ¬ 15 < fl.length) (h1 : flOk fl fl.length = true) (h2 : ¬ (na = fl.length + 1 ∧ nb = fl.length + 1)) : ckTb fl na xa nb xb far tall = 2 := by unfold ckTb; rw [if_neg h, if_pos h1, if_neg h2]
theorem ckTb_1 {fl : List Int} {na : Nat} {xa : List Int} {nb : Nat} {xb : List Int} {far tall : Int} (h : ¬ 15 < fl.length) (h1 : flOk fl fl.length = true) (h2 : na = fl.length + 1 ∧ nb = fl.length + 1) (h3 : ¬ (lvOk xa na = true ∧ lvOk xb nb = true ∧ okF far tall)) : ckTb fl na xa nb xb far tall = 1 := by unfold ckTb; rw [if_neg h, if_pos h1, if_pos h2, if_neg h3]
theorem ckTb_ok {fl : List Int} {na : Nat} {xa : List Int} {nb : Nat} {xb : List Int} {far tall : Int} : ckTb fl na xa nb xb far tall = 0 ↔ fl.length ≤ 15 ∧ flOk fl fl.length = true ∧ (na = fl.length + 1 ∧ nb = fl.length + 1) ∧ lvOk xa na = true ∧ lvOk xb nb = true ∧ okF far tall := by
  unfold ckTb
  by_cases h1 : 15 < fl.length
  · rw [if_pos h1]; constructor
    · intro h; cases h
    · intro h; omega
  · rw [if_neg h1]
    by_cases h2 : flOk fl fl.length = true
    · rw [if_pos h2]
      by_cases h3 : na = fl.length + 1 ∧ nb = fl.length + 1
      · rw [if_pos h3]
        by_cases h4 : lvOk xa na = true ∧ lvOk xb nb = true ∧ okF far tall
        · rw [if_pos h4]; exact ⟨fun _ => ⟨by omega, h2, h3, h4⟩, fun _ => rfl⟩
        · rw [if_neg h4]; constructor
          · intro h; cases h
          · intro h; exact absurd h.2.2.2 h4
      · rw [if_neg h3]; constructor
        · intro h; cases h
        · intro h; exact absurd h.2.2.1 h3
    · rw [if_neg h2]; constructor
      · intro h; cases h
      · intro h; exact absurd h.2.1 h2
/-! ### Indices -/
/-- How many of the first k floors are at most own. -/
def ixN (fl : List Int) (own : Int) : Nat → Int
  | 0 => 0
  | k + 1 => if nth fl k ≤ own then ixN fl own k + 1 else ixN fl own k
theorem ixN_bd (fl : List Int) (own : Int) : ∀ k : Nat, 0 ≤ ixN fl own k ∧ ixN fl own k ≤ k
  | 0 => ⟨Int.le_refl _, Int.le_refl _⟩
  | k + 1 => by
    have := ixN_bd fl own k
    unfold ixN; split <;> omega
theorem ixN_all {fl : List Int} {own : Int} : ∀ {k : Nat}, (∀ j, j < k → nth fl j ≤ own) → ixN fl own k = k
  | 0, _ => rfl
  | k + 1, h => by
    unfold ixN
    rw [if_pos (h k (by omega)), ixN_all fun j hj => h j (by omega)]; push_cast; rfl
theorem ixN_stop {fl : List Int} {own : Int} {n : Nat} (h1 : ∀ j, j < n → nth fl j ≤ own) : ∀ {k : Nat}, n ≤ k → (∀ j, n ≤ j → j < k → own < nth fl j) → ixN fl own k = n
  | 0, h2, _ => by
    obtain rfl : n = 0 := by omega
    rfl
  | k + 1, h2, h3 => by
    rcases Nat.lt_or_ge n (k + 1) with g | g
    · have := h3 k (by omega) (by omega)
      unfold ixN
      rw [if_neg (by omega)]
      exact ixN_stop h1 (by omega) fun j a b => h3 j a (by omega)
    · obtain rfl : n = k + 1 := by omega
      exact ixN_all h1
def okOwn (own : Int) : Prop := -1000 ≤ own ∧ own ≤ 50000
instance okOwnD (own : Int) : Decidable (okOwn own) := by unfold okOwn; infer_instance
def ixE (fl : List Int) (na : Nat) (xa : List Int) (nb : Nat) (xb : List Int) (far tall own : Int) : Int := if ckTb fl na xa nb xb far tall = 0 then (if okOwn own then 0 else 1) else ckTb fl na xa nb xb far tall
def ixV (fl : List Int) (na : Nat) (xa : List Int) (nb : Nat) (xb : List Int) (far tall own : Int) : Int := if ixE fl na xa nb xb far tall own = 0 then ixN fl own fl.length else 0
/-! ### Classes -/
/-- Both tests of the k-th level are passed. -/
def psB (R V a r : Int) (xs : List Int) (k : Nat) : Bool := hz R V (nth xs (k * 4)) (nth xs (k * 4 + 1)) && vt a r (nth xs (k * 4 + 2)) (nth xs (k * 4 + 3))
def clE (fl : List Int) (na : Nat) (xa : List Int) (nb : Nat) (xb : List Int) (far tall own R V N a r : Int) : Int :=
  if ixE fl na xa nb xb far tall own = 0 then (if okX R V N then rlE a r else 1) else ixE fl na xa nb xb far tall own
def clV (fl : List Int) (na : Nat) (xa : List Int) (nb : Nat) (xb : List Int) (far tall own R V N a r : Int) : Int :=
  if clE fl na xa nb xb far tall own R V N a r = 0 then
    (if psB R V a r xb (ixN fl own fl.length).toNat = true then 3 else if psB R V a r xa (ixN fl own fl.length).toNat = true then 2 else if R ≤ 256 * far ∧ max a (-a) ≤ tall then 1 else 0) else 0
end Go.Proofs.Ytbonniladhablaa
