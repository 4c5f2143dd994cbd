/- Plain laws of chapter 13: plans of steps, counts of sensitivities. -/
import Derived.Test.YtlbchidgadcmpaaK2
namespace Go.Proofs.Ytlbchidgadcmpaa
/-! ### Plans: the widest step again and again -/
/-- From h on, as far as steps from x are allowed. -/
def wdn (P : Nat → Nat → Bool) (x : Nat) : Nat → Nat → Nat
  | 0, h => h
  | n + 1, h => if P x (h + 1) = true then wdn P x n (h + 1) else h
def Wd (P : Nat → Nat → Bool) (x : Nat) : Nat := wdn P x (254 - x) (x + 1)
def Fw (P : Nat → Nat → Bool) : Nat → Nat → Nat
  | 0, _ => 0
  | n + 1, x => if x < 255 then 1 + Fw P n (Wd P x) else 0
def F (P : Nat → Nat → Bool) (x : Nat) : Nat := Fw P (255 - x) x
theorem wdn_bd (P : Nat → Nat → Bool) (x : Nat) : ∀ n h, h ≤ wdn P x n h ∧ wdn P x n h ≤ h + n
  | 0, h => ⟨Nat.le_refl _, Nat.le_refl _⟩
  | n + 1, h => by
    have := wdn_bd P x n (h + 1)
    unfold wdn; split <;> omega
theorem Wd_bd (P : Nat → Nat → Bool) {x : Nat} (h : x < 255) : x < Wd P x ∧ Wd P x ≤ 255 := by
  have := wdn_bd P x (254 - x) (x + 1)
  unfold Wd; omega
theorem wdn_ok (P : Nat → Nat → Bool) (x : Nat) : ∀ n h, P x h = true → P x (wdn P x n h) = true
  | 0, _, k => k
  | n + 1, h, k => by
    unfold wdn; split
    · exact wdn_ok P x n (h + 1) ‹_›
    · exact k
theorem wdn_max (P : Nat → Nat → Bool) (x : Nat) : ∀ n h y, h ≤ y → y ≤ h + n → (∀ z, h < z → z ≤ y → P x z = true) → y ≤ wdn P x n h
  | 0, h, y, h1, h2, _ => by show y ≤ h; omega
  | n + 1, h, y, h1, h2, hz => by
    rcases Nat.eq_or_lt_of_le h1 with e | e
    · have := (wdn_bd P x (n + 1) h).1; omega
    · unfold wdn
      rw [if_pos (hz (h + 1) (by omega) (by omega))]
      exact wdn_max P x n (h + 1) y (by omega) (by omega) fun z a b => hz z (by omega) b
theorem Fw_fuel (P : Nat → Nat → Bool) : ∀ n m x, 255 - x ≤ n → 255 - x ≤ m → Fw P n x = Fw P m x
  | 0, 0, _, _, _ => rfl
  | 0, m + 1, x, h, _ => by show 0 = Fw P (m + 1) x; rw [Fw, if_neg (by omega)]
  | n + 1, 0, x, _, h => by show Fw P (n + 1) x = 0; rw [Fw, if_neg (by omega)]
  | n + 1, m + 1, x, h1, h2 => by
    rw [Fw, Fw]
    by_cases h : x < 255
    · have := Wd_bd P h
      rw [if_pos h, if_pos h, Fw_fuel P n m (Wd P x) (by omega) (by omega)]
    · rw [if_neg h, if_neg h]
theorem F_end (P : Nat → Nat → Bool) : F P 255 = 0 := rfl
theorem F_in (P : Nat → Nat → Bool) {x : Nat} (h : x < 255) : F P x = 1 + F P (Wd P x) := by
  have := Wd_bd P h
  unfold F
  obtain ⟨n, hn⟩ : ∃ n, 255 - x = n + 1 := ⟨254 - x, by omega⟩
  rw [hn, Fw, if_pos h, Fw_fuel P n (255 - Wd P x) (Wd P x) (by omega) (Nat.le_refl _)]
/-- Steps inside an allowed step are allowed. -/
structure Anti (P : Nat → Nat → Bool) : Prop where
  inn : ∀ x x' y y', x ≤ x' → y' ≤ y → P x y = true → P x' y' = true
  one : ∀ x, x < 255 → P x (x + 1) = true
theorem Wd_mono {P : Nat → Nat → Bool} (hP : Anti P) {x y : Nat} (h : x ≤ y) (hy : y < 255) : Wd P x ≤ Wd P y := by
  have b1 := Wd_bd P (x := x) (by omega)
  have b2 := Wd_bd P hy
  rcases Nat.lt_or_ge y (Wd P x) with g | g
  · have k : P x (Wd P x) = true := wdn_ok P x _ _ (hP.one x (by omega))
    exact wdn_max P y (254 - y) (y + 1) (Wd P x) (by omega) (by omega) fun z _ hz => hP.inn x y (Wd P x) z h hz k
  · omega
theorem F_anti {P : Nat → Nat → Bool} (hP : Anti P) : ∀ n x y, 255 - x ≤ n → x ≤ y → y ≤ 255 → F P y ≤ F P x
  | 0, x, y, hn, h, hy => by
    obtain rfl : y = x := by omega
    exact Nat.le_refl _
  | n + 1, x, y, hn, h, hy => by
    by_cases h1 : y < 255
    · have b1 := Wd_bd P (x := x) (by omega)
      have b2 := Wd_bd P h1
      have m := Wd_mono hP h h1
      have := F_anti hP n (Wd P x) (Wd P y) (by omega) m (by omega)
      rw [F_in P h1, F_in P (x := x) (by omega)]
      omega
    · obtain rfl : y = 255 := by omega
      rw [F_end]; omega
theorem F_le {P : Nat → Nat → Bool} (hP : Anti P) {x y : Nat} (h : x < y) (hy : y ≤ 255) (hp : P x y = true) : F P x ≤ 1 + F P y := by
  have b := Wd_bd P (x := x) (by omega)
  have k : y ≤ Wd P x := wdn_max P x (254 - x) (x + 1) y (by omega) (by omega) fun z _ hz => hP.inn x x y z (Nat.le_refl _) hz hp
  have := F_anti hP _ y (Wd P x) (Nat.le_refl _) k (by omega)
  rw [F_in P (x := x) (by omega)]
  omega
theorem F_bd (P : Nat → Nat → Bool) : ∀ n x, 255 - x ≤ n → F P x ≤ 255 - x
  | 0, x, h => by
    unfold F
    rw [show 255 - x = 0 by omega]; exact Nat.le_refl _
  | n + 1, x, h => by
    by_cases h1 : x < 255
    · have b := Wd_bd P h1
      have := F_bd P n (Wd P x) (by omega)
      rw [F_in P h1]; omega
    · unfold F
      rw [show 255 - x = 0 by omega]; exact Nat.le_refl _
/-- The first place from h on from where one step fewer is needed than from x. -/
def nx (P : Nat → Nat → Bool) (x : Nat) : Nat → Nat → Nat
  | 0, h => h
  | n + 1, h => if F P h + 1 = F P x then h else nx P x n (h + 1)
def Nx (P : Nat → Nat → Bool) (x : Nat) : Nat := nx P x (254 - x) (x + 1)
theorem nx_spec (P : Nat → Nat → Bool) (x : Nat) : ∀ n h y, h ≤ y → y ≤ h + n → F P y + 1 = F P x → h ≤ nx P x n h ∧ nx P x n h ≤ y ∧ F P (nx P x n h) + 1 = F P x ∧ ∀ z, h ≤ z → z < nx P x n h → ¬ F P z + 1 = F P x
  | 0, h, y, h1, h2, hy => by
    obtain rfl : y = h := by omega
    exact ⟨Nat.le_refl _, Nat.le_refl _, hy, fun z a b => by simp only [nx] at b; omega⟩
  | n + 1, h, y, h1, h2, hy => by
    unfold nx
    by_cases e : F P h + 1 = F P x
    · rw [if_pos e]
      exact ⟨Nat.le_refl _, h1, e, fun z a b => by omega⟩
    · rw [if_neg e]
      have hne : h ≠ y := fun k => e (k ▸ hy)
      obtain ⟨k1, k2, k3, k4⟩ := nx_spec P x n (h + 1) y (by omega) (by omega) hy
      refine ⟨by omega, k2, k3, fun z a b => ?_⟩
      rcases Nat.eq_or_lt_of_le a with g | g
      · exact g ▸ e
      · exact k4 z g b
theorem Nx_spec {P : Nat → Nat → Bool} (hP : Anti P) {x : Nat} (h : x < 255) : x < Nx P x ∧ Nx P x ≤ 255 ∧ F P (Nx P x) + 1 = F P x ∧ P x (Nx P x) = true ∧ ∀ z, x < z → z < Nx P x → ¬ F P z + 1 = F P x := by
  have b := Wd_bd P h
  obtain ⟨k1, k2, k3, k4⟩ := nx_spec P x (254 - x) (x + 1) (Wd P x) (by omega) (by omega) (by rw [F_in P h]; omega)
  unfold Nx
  refine ⟨by omega, by omega, k3, ?_, fun z a b => k4 z (by omega) b⟩
  exact hP.inn x x (Wd P x) _ (Nat.le_refl _) k2 (wdn_ok P x _ _ (hP.one x h))
/-- The steps of the plan from x on. -/
def pl (P : Nat → Nat → Bool) : Nat → Nat → List (Nat × Nat)
  | 0, _ => []
  | n + 1, x => if x < 255 then (x, Nx P x) :: pl P n (Nx P x) else []
def Pl (P : Nat → Nat → Bool) (x : Nat) : List (Nat × Nat) := pl P (255 - x) x
theorem Nx_bd (P : Nat → Nat → Bool) {x : Nat} (h : x < 255) : x < Nx P x ∧ Nx P x ≤ 255 := by
  have : ∀ n h, h ≤ nx P x n h ∧ nx P x n h ≤ h + n := by
    intro n
    induction n with
    | zero => intro h; exact ⟨Nat.le_refl _, Nat.le_refl _⟩
    | succ n ih => intro h; have := ih (h + 1); unfold nx; split <;> omega
  have := this (254 - x) (x + 1)
  unfold Nx; omega
theorem pl_fuel (P : Nat → Nat → Bool) : ∀ n m x, 255 - x ≤ n → 255 - x ≤ m → pl P n x = pl P m x
  | 0, 0, _, _, _ => rfl
  | 0, m + 1, x, h, _ => by show [] = pl P (m + 1) x; rw [pl, if_neg (by omega)]
  | n + 1, 0, x, _, h => by show pl P (n + 1) x = []; rw [pl, if_neg (by omega)]
  | n + 1, m + 1, x, h1, h2 => by
    rw [pl, pl]
    by_cases h : x < 255
    · have := Nx_bd P h
      rw [if_pos h, if_pos h, pl_fuel P n m (Nx P x) (by omega) (by omega)]
    · rw [if_neg h, if_neg h]
theorem Pl_end (P : Nat → Nat → Bool) : Pl P 255 = [] := rfl
theorem Pl_in (P : Nat → Nat → Bool) {x : Nat} (h : x < 255) : Pl P x = (x, Nx P x) :: Pl P (Nx P x) := by
  have := Nx_bd P h
  unfold Pl
  obtain ⟨n, hn⟩ : ∃ n, 255 - x = n + 1 := ⟨254 - x, by omega⟩
  rw [hn, pl, if_pos h, pl_fuel P n (255 - Nx P x) (Nx P x) (by omega) (Nat.le_refl _)]
theorem Pl_len {P : Nat → Nat → Bool} (hP : Anti P) : ∀ n x, 255 - x ≤ n → x ≤ 255 → (Pl P x).length = F P x
  | 0, x, h, hx => by
    obtain rfl : x = 255 := by omega
    rfl
  | n + 1, x, h, hx => by
    by_cases h1 : x < 255
    · obtain ⟨k1, k2, k3, -⟩ := Nx_spec hP h1
      rw [Pl_in P h1, List.length_cons, Pl_len hP n (Nx P x) (by omega) k2]
      exact k3
    · obtain rfl : x = 255 := by omega
      rfl
/-- More is allowed: not more steps are needed. -/
theorem F_more {P Q : Nat → Nat → Bool} (hP : Anti P) (hQ : Anti Q) (h : ∀ x y, P x y = true → Q x y = true) : ∀ n x, 255 - x ≤ n → x ≤ 255 → F Q x ≤ F P x
  | 0, x, hn, hx => by
    obtain rfl : x = 255 := by omega
    exact Nat.le_refl _
  | n + 1, x, hn, hx => by
    by_cases h1 : x < 255
    · have b := Wd_bd P h1
      have k : P x (Wd P x) = true := wdn_ok P x _ _ (hP.one x h1)
      have e := F_le hQ b.1 b.2 (h _ _ k)
      have := F_more hP hQ h n (Wd P x) (by omega) b.2
      rw [F_in P h1]
      omega
    · obtain rfl : x = 255 := by omega
      exact Nat.le_refl _
/-- The reference's table. -/
def lsR (P : Nat → Nat → Bool) (L : Nat → Nat) (x : Nat) : Nat → Nat
  | 0 => 1000
  | k + 1 => if L (x + k + 1) + 1 < lsR P L x k ∧ P x (x + k + 1) = true then L (x + k + 1) + 1 else lsR P L x k
theorem lsR_F {P : Nat → Nat → Bool} (hP : Anti P) {L : Nat → Nat} {x : Nat} (hx : x < 255) (hL : ∀ y, x < y → y ≤ 255 → L y = F P y) : lsR P L x (255 - x) = F P x := by
  have hb := F_bd P _ x (Nat.le_refl _)
  have lo : ∀ k, x + k ≤ 255 → F P x ≤ lsR P L x k := by
    intro k
    induction k with
    | zero => intro _; unfold lsR; omega
    | succ k ih =>
      intro hk
      unfold lsR
      split
      · rename_i c
        rw [hL _ (by omega) (by omega)] at c ⊢
        have := F_le hP (x := x) (y := x + k + 1) (by omega) (by omega) c.2
        omega
      · exact ih (by omega)
  have hi : ∀ k, x + k ≤ 255 → ∀ y, x < y → y ≤ x + k → P x y = true → lsR P L x k ≤ F P y + 1 := by
    intro k
    induction k with
    | zero => intro _ y h1 h2; omega
    | succ k ih =>
      intro hk y h1 h2 hp
      unfold lsR
      rcases Nat.lt_or_ge (x + k) y with g | g
      · obtain rfl : y = x + k + 1 := by omega
        rw [hL _ (by omega) (by omega)]
        split
        · omega
        · rename_i c
          have : ¬ F P (x + k + 1) + 1 < lsR P L x k := fun q => c ⟨q, hp⟩
          omega
      · have := ih (by omega) y h1 g hp
        split <;> omega
  have b := Wd_bd P hx
  have k : P x (Wd P x) = true := wdn_ok P x _ _ (hP.one x hx)
  have h1 := lo (255 - x) (by omega)
  have h2 := hi (255 - x) (by omega) (Wd P x) b.1 (by omega) k
  rw [F_in P hx] at h1 ⊢
  omega
theorem lsR_none {P : Nat → Nat → Bool} (hP : ∀ x x' y y', x ≤ x' → y' ≤ y → P x y = true → P x' y' = true) {L : Nat → Nat} {x s : Nat} (hx : x < s) (hs : P (s - 1) s = false) (hL : ∀ y, x < y → y < s → 1000 ≤ L y) : ∀ k, lsR P L x k = 1000
  | 0 => rfl
  | k + 1 => by
    unfold lsR
    rw [lsR_none hP hx hs hL k, if_neg]
    rintro ⟨a, b⟩
    rcases Nat.lt_or_ge (x + k + 1) s with g | g
    · have := hL _ (by omega) g
      omega
    · rw [hP x (s - 1) (x + k + 1) s (by omega) g b] at hs
      cases hs
/-! ### Counting sensitivities -/
def cnt (s : List Int) (lo hi : Int) : Nat := (s.filter fun x => decide (lo < x ∧ x ≤ hi)).length
theorem cnt_snoc (s : List Int) (x lo hi : Int) : cnt (s ++ [x]) lo hi = cnt s lo hi + if lo < x ∧ x ≤ hi then 1 else 0 := by
  unfold cnt
  rw [List.filter_append]
  by_cases h : lo < x ∧ x ≤ hi <;> simp [h]
theorem cnt_le (s : List Int) (lo hi : Int) : cnt s lo hi ≤ s.length := List.length_filter_le _ _
theorem cnt_split : ∀ (s : List Int) (a b c : Int), a ≤ b → b ≤ c → cnt s a c = cnt s a b + cnt s b c
  | [], _, _, _, _, _ => rfl
  | x :: s, a, b, c, h1, h2 => by
    have ih := cnt_split s a b c h1 h2
    unfold cnt at ih ⊢
    simp only [List.filter_cons]
    by_cases e1 : a < x ∧ x ≤ b
    · rw [if_pos (by simp; omega), if_pos (by simpa using e1), if_neg (by simp; omega)]
      simp only [List.length_cons]; omega
    · by_cases e2 : b < x ∧ x ≤ c
      · rw [if_pos (by simp; omega), if_neg (by simpa using e1), if_pos (by simpa using e2)]
        simp only [List.length_cons]; omega
      · rw [if_neg (by simp; omega), if_neg (by simpa using e1), if_neg (by simpa using e2)]
        exact ih
theorem cnt_inn (s : List Int) {a a' b b' : Int} (h1 : a ≤ a') (h2 : b' ≤ b) : cnt s a' b' ≤ cnt s a b := by
  induction s with
  | nil => exact Nat.le_refl _
  | cons x s ih =>
    unfold cnt at ih ⊢
    simp only [List.filter_cons]
    by_cases e1 : a' < x ∧ x ≤ b'
    · rw [if_pos (by simpa using e1), if_pos (by simp; omega)]
      simp only [List.length_cons]; omega
    · rw [if_neg (by simpa using e1)]
      split
      · simp only [List.length_cons]; omega
      · exact ih
theorem cnt_none {s : List Int} {a b : Int} (h : b ≤ a) : cnt s a b = 0 := by
  unfold cnt
  rw [List.length_eq_zero_iff, List.filter_eq_nil_iff]
  intro x _
  simp
  omega
theorem cnt_rev (s : List Int) (a b : Int) : cnt s.reverse a b = cnt s a b := by
  unfold cnt
  rw [List.filter_reverse, List.length_reverse]
/-- The steps that are allowed. -/
def Al (s : List Int) (most : Int) (x y : Nat) : Bool := decide ((cnt s x y : Int) ≤ most)
theorem Al_inn (s : List Int) (most : Int) : ∀ x x' y y' : Nat, x ≤ x' → y' ≤ y → Al s most x y = true → Al s most x' y' = true := fun x x' y y' h1 h2 h => by
  have := cnt_inn s (a := x) (a' := x') (b := y) (b' := y') (by omega) (by omega)
  have h := of_decide_eq_true h
  exact decide_eq_true (by omega)
/-- No single sensitivity has more than most. -/
def Fits (s : List Int) (most : Int) : Prop := ∀ x : Nat, x < 255 → Al s most x (x + 1) = true
theorem Al_anti {s : List Int} {most : Int} (h : Fits s most) : Anti (Al s most) := ⟨Al_inn s most, h⟩
end Go.Proofs.Ytlbchidgadcmpaa
