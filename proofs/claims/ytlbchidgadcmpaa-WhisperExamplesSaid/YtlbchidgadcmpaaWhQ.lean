/- Plain laws of chapter 13: steps, checks, replies, tiles. -/
import Derived.Test.YtlbchidgadcmpaaWhP
import Derived.Test.YtlbchidgadcmpaaKR
namespace Go.Proofs.Ytlbchidgadcmpaa
/-! ### Steps: a list of pairs of numbers -/
def stl (st : List (Int × Int)) (j : Nat) : Int := (st.getD j (0, 0)).1
def sth (st : List (Int × Int)) (j : Nat) : Int := (st.getD j (0, 0)).2
def flatS (l : List (Int × Int)) : List Int := l.flatMap fun p => [p.1, p.2]
theorem flatS_snoc (l : List (Int × Int)) (p : Int × Int) : flatS (l ++ [p]) = flatS l ++ [p.1, p.2] := by simp [flatS]
theorem flatS_len : ∀ l : List (Int × Int), (flatS l).length = l.length * 2
  | [] => rfl
  | p :: l => by
    show (p.1 :: p.2 :: flatS l).length = _
    simp only [List.length_cons, flatS_len l]; omega
theorem flatS_nth : ∀ (l : List (Int × Int)) (k : Nat), k < l.length → nth (flatS l) (k * 2) = stl l k ∧ nth (flatS l) (k * 2 + 1) = sth l k
  | [], k, h => by simp at h
  | p :: l, 0, _ => ⟨rfl, rfl⟩
  | p :: l, k + 1, h => by
    have ih := flatS_nth l k (by simpa using h)
    have e1 : (k + 1) * 2 = k * 2 + 1 + 1 := by omega
    rw [e1]
    exact ih
theorem sts_ext {l l' : List (Int × Int)} (hl : l.length = l'.length) (h : ∀ k, k < l.length → stl l k = stl l' k ∧ sth l k = sth l' k) : l = l' := by
  apply List.ext_getElem hl
  intro i h1 h2
  have := h i h1
  unfold stl sth at this
  rw [List.getD_eq_getElem?_getD, List.getD_eq_getElem?_getD, List.getElem?_eq_getElem h1, List.getElem?_eq_getElem h2] at this
  exact Prod.ext this.1 this.2
theorem sts_at {l : List (Int × Int)} {k : Nat} (h : k < l.length) : (stl l k, sth l k) ∈ l := by
  unfold stl sth
  rw [List.getD_eq_getElem?_getD, List.getElem?_eq_getElem h]
  exact List.getElem_mem h
/-- A list of 2 n numbers is a list of n steps. -/
def unflat (xs : List Int) : Nat → List (Int × Int)
  | 0 => []
  | k + 1 => unflat xs k ++ [(nth xs (k * 2), nth xs (k * 2 + 1))]
theorem unflat_len (xs : List Int) : ∀ k, (unflat xs k).length = k
  | 0 => rfl
  | k + 1 => by simp [unflat, unflat_len xs k]
theorem unflat_flat (xs : List Int) : ∀ k, k * 2 ≤ xs.length → flatS (unflat xs k) = xs.take (k * 2)
  | 0, _ => rfl
  | k + 1, h => by
    have e1 : (k + 1) * 2 = k * 2 + 1 + 1 := by omega
    rw [unflat, flatS_snoc, unflat_flat xs k (by omega), e1, take_nth _ _ (by omega), take_nth _ _ (by omega)]
    simp
/-! ### Checks -/
def stOk (st : List (Int × Int)) : Nat → Bool
  | 0 => true
  | k + 1 => stOk st k && decide (0 ≤ stl st k ∧ stl st k < sth st k ∧ sth st k ≤ 255)
def ckT (st : List (Int × Int)) : Int := if st.length = 0 then 3 else if 32 < st.length then 4 else if stOk st st.length = true then 0 else 1
theorem stOk_at {st : List (Int × Int)} : ∀ {n k : Nat}, stOk st n = true → k < n → 0 ≤ stl st k ∧ stl st k < sth st k ∧ sth st k ≤ 255
  | n + 1, k, h, hk => by
    unfold stOk at h
    rw [Bool.and_eq_true] at h
    rcases Nat.lt_or_ge k n with g | g
    · exact stOk_at h.1 g
    · obtain rfl : k = n := by omega
      exact of_decide_eq_true h.2
theorem stOk_bad {st : List (Int × Int)} {n k : Nat} (hk : k < n) (h : ¬ (0 ≤ stl st k ∧ stl st k < sth st k ∧ sth st k ≤ 255)) : stOk st n = false := by
  rcases e : stOk st n with _ | _
  · rfl
  · exact absurd (stOk_at e hk) h
theorem stOk_step {st : List (Int × Int)} {k : Nat} (h : stOk st k = true) (h' : 0 ≤ stl st k ∧ stl st k < sth st k ∧ sth st k ≤ 255) : stOk st (k + 1) = true := by
  unfold stOk; rw [h, Bool.true_and]; exact decide_eq_true h'
theorem ckT_ok {st : List (Int × Int)} : ckT st = 0 ↔ (0 < st.length ∧ st.length ≤ 32) ∧ stOk st st.length = true := by
  unfold ckT
  by_cases h1 : st.length = 0
  · rw [if_pos h1]; constructor
    · intro h; cases h
    · intro h; omega
  · rw [if_neg h1]
    by_cases h2 : 32 < st.length
    · rw [if_pos h2]; constructor
      · intro h; cases h
      · intro h; omega
    · rw [if_neg h2]
      by_cases h3 : stOk st st.length = true
      · rw [if_pos h3]; exact ⟨fun _ => ⟨by omega, h3⟩, fun _ => rfl⟩
      · rw [if_neg h3]; constructor
        · intro h; cases h
        · intro h; exact absurd h.2 h3
def snOk (xs : List Int) : Nat → Bool
  | 0 => true
  | k + 1 => snOk xs k && decide (1 ≤ nth xs k ∧ nth xs k ≤ 255)
def ckN (xs : List Int) : Int := if 64 < xs.length then 4 else if snOk xs xs.length = true then 0 else 1
theorem snOk_at {xs : List Int} : ∀ {n k : Nat}, snOk xs n = true → k < n → 1 ≤ nth xs k ∧ nth xs k ≤ 255
  | n + 1, k, h, hk => by
    unfold snOk at h
    rw [Bool.and_eq_true] at h
    rcases Nat.lt_or_ge k n with g | g
    · exact snOk_at h.1 g
    · obtain rfl : k = n := by omega
      exact of_decide_eq_true h.2
theorem snOk_bad {xs : List Int} {n k : Nat} (hk : k < n) (h : ¬ (1 ≤ nth xs k ∧ nth xs k ≤ 255)) : snOk xs n = false := by
  rcases e : snOk xs n with _ | _
  · rfl
  · exact absurd (snOk_at e hk) h
theorem snOk_step {xs : List Int} {k : Nat} (h : snOk xs k = true) (h' : 1 ≤ nth xs k ∧ nth xs k ≤ 255) : snOk xs (k + 1) = true := by
  unfold snOk; rw [h, Bool.true_and]; exact decide_eq_true h'
theorem snOk_of {xs : List Int} : ∀ {n : Nat}, (∀ k, k < n → 1 ≤ nth xs k ∧ nth xs k ≤ 255) → snOk xs n = true
  | 0, _ => rfl
  | n + 1, h => snOk_step (snOk_of fun k hk => h k (by omega)) (h n (by omega))
theorem ckN_ok {xs : List Int} : ckN xs = 0 ↔ xs.length ≤ 64 ∧ snOk xs xs.length = true := by
  unfold ckN
  by_cases h2 : 64 < xs.length
  · rw [if_pos h2]; constructor
    · intro h; cases h
    · intro h; omega
  · rw [if_neg h2]
    by_cases h3 : snOk xs xs.length = true
    · rw [if_pos h3]; exact ⟨fun _ => ⟨by omega, h3⟩, fun _ => rfl⟩
    · rw [if_neg h3]; constructor
      · intro h; cases h
      · intro h; exact absurd h.2 h3
/-! ### Replies -/
/-- Who of the first k answers the step from l to h. -/
def rp (xs : List Int) (l h : Int) : Nat → List Int
  | 0 => []
  | k + 1 => if l < nth xs k ∧ nth xs k ≤ h then rp xs l h k ++ [(k : Int)] else rp xs l h k
theorem rp_len (xs : List Int) (l h : Int) : ∀ k, (rp xs l h k).length ≤ k
  | 0 => Nat.le_refl _
  | k + 1 => by
    have := rp_len xs l h k
    unfold rp; split
    · simp; omega
    · omega
def rpE (st : List (Int × Int)) (xs : List Int) : Int := if ckT st = 0 then ckN xs else ckT st
def rpR (st : List (Int × Int)) (xs : List Int) : List (List Int) := st.map fun p => rp xs p.1 p.2 xs.length
def rpL (st : List (Int × Int)) (xs : List Int) : List (List Int) := if rpE st xs = 0 then rpR st xs else []
theorem rpE_ok {st : List (Int × Int)} {xs : List Int} : rpE st xs = 0 ↔ ckT st = 0 ∧ ckN xs = 0 := by
  unfold rpE
  by_cases h : ckT st = 0
  · rw [if_pos h]; exact ⟨fun g => ⟨h, g⟩, fun g => g.2⟩
  · rw [if_neg h]; exact ⟨fun g => absurd g h, fun g => absurd g.1 h⟩
theorem rpL_ok {st : List (Int × Int)} {xs : List Int} (h : rpE st xs = 0) : rpL st xs = rpR st xs := by unfold rpL; rw [if_pos h]
theorem rpL_bad {st : List (Int × Int)} {xs : List Int} (h : ¬ rpE st xs = 0) : rpL st xs = [] := by unfold rpL; rw [if_neg h]
theorem rpR_len (st : List (Int × Int)) (xs : List Int) : (rpR st xs).length = st.length := List.length_map _
theorem rpR_row {st : List (Int × Int)} {xs : List Int} {k : Nat} (h : k < st.length) : row (rpR st xs) k = rp xs (stl st k) (sth st k) xs.length := by
  unfold row rpR stl sth
  simp [List.getD_eq_getElem?_getD, h]
theorem rpL_row (st : List (Int × Int)) (xs : List Int) (k : Nat) : (row (rpL st xs) k).length ≤ xs.length := by
  by_cases h : rpE st xs = 0
  · rw [rpL_ok h]
    by_cases hk : k < st.length
    · rw [rpR_row hk]; exact rp_len _ _ _ _
    · unfold row; rw [List.getD_eq_getElem?_getD, List.getElem?_eq_none (by rw [rpR_len]; omega)]; simp
  · rw [rpL_bad h]; simp [row]
/-- The greatest length of the first k rows. -/
def wsM (rows : List (List Int)) : Nat → Int
  | 0 => 0
  | k + 1 => max (wsM rows k) (row rows k).length
theorem wsM_bd (rows : List (List Int)) (M : Int) (hM : 0 ≤ M) (h : ∀ k, ((row rows k).length : Int) ≤ M) : ∀ k, 0 ≤ wsM rows k ∧ wsM rows k ≤ M
  | 0 => ⟨Int.le_refl _, hM⟩
  | k + 1 => by
    have := wsM_bd rows M hM h k
    have := h k
    unfold wsM; omega
/-! ### Tiles -/
/-- How many of the first k steps the sensitivity s answers. -/
def tlN (st : List (Int × Int)) (s : Int) : Nat → Int
  | 0 => 0
  | k + 1 => if stl st k < s ∧ s ≤ sth st k then tlN st s k + 1 else tlN st s k
theorem tlN_bd (st : List (Int × Int)) (s : Int) : ∀ k : Nat, 0 ≤ tlN st s k ∧ tlN st s k ≤ k
  | 0 => ⟨Int.le_refl _, Int.le_refl _⟩
  | k + 1 => by
    have := tlN_bd st s k
    unfold tlN; split <;> omega
def tlK (st : List (Int × Int)) : Nat → Bool
  | 0 => true
  | s + 1 => tlK st s && decide (tlN st ((s + 1 : Nat) : Int) st.length = 1)
def tlB (st : List (Int × Int)) : Bool := decide (ckT st = 0) && tlK st 255
theorem tlK_at {st : List (Int × Int)} : ∀ {n s : Nat}, tlK st n = true → s < n → tlN st ((s + 1 : Nat) : Int) st.length = 1
  | n + 1, s, h, hs => by
    unfold tlK at h
    rw [Bool.and_eq_true] at h
    rcases Nat.lt_or_ge s n with g | g
    · exact tlK_at h.1 g
    · obtain rfl : s = n := by omega
      exact of_decide_eq_true h.2
theorem tlK_bad {st : List (Int × Int)} {n s : Nat} (hs : s < n) (h : ¬ tlN st ((s + 1 : Nat) : Int) st.length = 1) : tlK st n = false := by
  rcases e : tlK st n with _ | _
  · rfl
  · exact absurd (tlK_at e hs) h
theorem tlK_step {st : List (Int × Int)} {s : Nat} (h : tlK st s = true) (h' : tlN st ((s + 1 : Nat) : Int) st.length = 1) : tlK st (s + 1) = true := by
  unfold tlK; rw [h, Bool.true_and]; exact decide_eq_true h'
/-- The differences that Tiles of the package notes: what the first k steps begin and end at s. -/
def chg (st : List (Int × Int)) (s : Int) : Nat → Int
  | 0 => 0
  | k + 1 => chg st s k + (if stl st k + 1 = s then 1 else 0) - (if sth st k + 1 = s then 1 else 0)
theorem chg_bd (st : List (Int × Int)) (s : Int) : ∀ k : Nat, -(k : Int) ≤ chg st s k ∧ chg st s k ≤ k
  | 0 => ⟨Int.le_refl _, Int.le_refl _⟩
  | k + 1 => by
    have := chg_bd st s k
    unfold chg
    split <;> split <;> omega
theorem tlN_zero {st : List (Int × Int)} : ∀ {k : Nat}, (∀ j, j < k → 0 ≤ stl st j) → tlN st 0 k = 0
  | 0, _ => rfl
  | k + 1, h => by
    have := h k (by omega)
    unfold tlN
    rw [if_neg (by omega), tlN_zero fun j hj => h j (by omega)]
theorem tlN_step {st : List (Int × Int)} (s : Int) : ∀ {k : Nat}, (∀ j, j < k → stl st j < sth st j) → tlN st (s + 1) k = tlN st s k + chg st (s + 1) k
  | 0, _ => rfl
  | k + 1, h => by
    have h0 := h k (by omega)
    have ih := tlN_step (st := st) s (k := k) (fun j hj => h j (by omega))
    unfold tlN chg
    by_cases e1 : stl st k = s
    · rw [if_pos (show stl st k < s + 1 ∧ s + 1 ≤ sth st k by omega), if_neg (show ¬ (stl st k < s ∧ s ≤ sth st k) by omega), if_pos (show stl st k + 1 = s + 1 by omega), if_neg (show ¬ sth st k + 1 = s + 1 by omega)]; omega
    · by_cases e2 : sth st k = s
      · rw [if_neg (show ¬ (stl st k < s + 1 ∧ s + 1 ≤ sth st k) by omega), if_pos (show stl st k < s ∧ s ≤ sth st k by omega), if_neg (show ¬ stl st k + 1 = s + 1 by omega), if_pos (show sth st k + 1 = s + 1 by omega)]; omega
      · rw [if_neg (show ¬ stl st k + 1 = s + 1 by omega), if_neg (show ¬ sth st k + 1 = s + 1 by omega)]
        by_cases e3 : stl st k < s ∧ s ≤ sth st k
        · rw [if_pos (show stl st k < s + 1 ∧ s + 1 ≤ sth st k by omega), if_pos e3]; omega
        · rw [if_neg (show ¬ (stl st k < s + 1 ∧ s + 1 ≤ sth st k) by omega), if_neg e3]; omega
/-! ### Plans -/
def plE (xs : List Int) (most : Int) : Int :=
  if ckN xs = 0 then (if most < 1 then 1 else if ∀ s : Nat, s < 255 → cnt xs s (s + 1) ≤ most then (if 32 < F (Al xs most) 0 then 4 else 0) else 9) else ckN xs
def plL (xs : List Int) (most : Int) : List (Int × Int) := if plE xs most = 0 then (Pl (Al xs most) 0).map fun p => ((p.1 : Int), (p.2 : Int)) else []
theorem plE_ok {xs : List Int} {most : Int} : plE xs most = 0 ↔ ckN xs = 0 ∧ 1 ≤ most ∧ (∀ s : Nat, s < 255 → (cnt xs s (s + 1) : Int) ≤ most) ∧ F (Al xs most) 0 ≤ 32 := by
  unfold plE
  by_cases h1 : ckN xs = 0
  · rw [if_pos h1]
    by_cases h2 : most < 1
    · rw [if_pos h2]; constructor
      · intro h; cases h
      · intro h; omega
    · rw [if_neg h2]
      by_cases h3 : ∀ s : Nat, s < 255 → (cnt xs s (s + 1) : Int) ≤ most
      · rw [if_pos h3]
        by_cases h4 : 32 < F (Al xs most) 0
        · rw [if_pos h4]; constructor
          · intro h; cases h
          · intro h; omega
        · rw [if_neg h4]; exact ⟨fun _ => ⟨h1, by omega, h3, by omega⟩, fun _ => rfl⟩
      · rw [if_neg h3]; constructor
        · intro h; cases h
        · intro h; exact absurd h.2.2.1 h3
  · rw [if_neg h1]; constructor
    · intro h; exact absurd h h1
    · intro h; exact absurd h.1 h1
theorem plL_ok {xs : List Int} {most : Int} (h : plE xs most = 0) : plL xs most = (Pl (Al xs most) 0).map fun p => ((p.1 : Int), (p.2 : Int)) := by unfold plL; rw [if_pos h]
theorem plL_bad {xs : List Int} {most : Int} (h : ¬ plE xs most = 0) : plL xs most = [] := by unfold plL; rw [if_neg h]
theorem fits_of {xs : List Int} {most : Int} (h : ∀ s : Nat, s < 255 → (cnt xs s (s + 1) : Int) ≤ most) : Fits xs most := fun x hx => decide_eq_true (by have := h x hx; push_cast; exact this)
end Go.Proofs.Ytlbchidgadcmpaa
