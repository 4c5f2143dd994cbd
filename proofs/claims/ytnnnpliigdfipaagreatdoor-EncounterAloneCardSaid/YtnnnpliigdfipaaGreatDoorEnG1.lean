/- encounter: plain laws of Nearest, Pulls and Alone. -/
import Derived.Test.YtnnnpliigdfipaaGreatDoorEnO
namespace Go.Proofs.YtnnnpliigdfipaaGreatDoor
/-! ### Nearest -/
def dN (a b : Cr) (n : Nat) : Int := s2G (posAt a n) (posAt b n)
theorem s2G_pos (p q : V3) : 0 ≤ s2G p q := by
  unfold s2G
  split
  · rename_i g
    exact (bdG p q ⟨0, 0, 0⟩ ⟨0, 0, 0⟩ (okG0.2 g)).1
  · omega
theorem neg_sq (a b : Int) : (95 * (a - b)) * (95 * (a - b)) = (95 * (b - a)) * (95 * (b - a)) := by
  have : 95 * (a - b) = -(95 * (b - a)) := by omega
  rw [this, Int.neg_mul_neg]
theorem neg_sq1 (a b : Int) : (a - b) * (a - b) = (b - a) * (b - a) := by
  have : a - b = -(b - a) := by omega
  rw [this, Int.neg_mul_neg]
theorem s2G_comm (p q : V3) : s2G p q = s2G q p := by
  unfold s2G
  by_cases h : okS p q
  · rw [if_pos h, if_pos (show okS q p from ⟨h.2, h.1⟩)]
    simp only [ppG, dot, rp]
    rw [neg_sq q.x p.x, neg_sq q.y p.y, neg_sq1 q.z p.z]
  · rw [if_neg h, if_neg (fun g : okS q p => h ⟨g.2, g.1⟩)]
theorem slG_comm (p q : V3) : slG p q = slG q p := by unfold slG; rw [s2G_comm]
theorem stN_comm (a b : Cr) : ∀ n, stN a b n = stN b a n
  | 0 => rfl
  | n + 1 => by
    unfold stN
    rw [stN_comm a b n, s2G_comm, slG_comm]
theorem numE_comm (x : En) (i k : Int) : numE x [i, k] = numE x [k, i] := by
  unfold numE
  split
  · rfl
  · have e : (∀ j, j < [i, k].length → 0 ≤ nth [i, k] j ∧ nth [i, k] j < x.cs.length) ↔ (∀ j, j < [k, i].length → 0 ≤ nth [k, i] j ∧ nth [k, i] j < x.cs.length) := by
      constructor
      · intro h j hj
        have h0 := h 0 (by simp)
        have h1 := h 1 (by simp)
        rcases (by simp at hj; omega : j = 0 ∨ j = 1) with rfl | rfl
        · exact h1
        · exact h0
      · intro h j hj
        have h0 := h 0 (by simp)
        have h1 := h 1 (by simp)
        rcases (by simp at hj; omega : j = 0 ∨ j = 1) with rfl | rfl
        · exact h1
        · exact h0
    by_cases h : (∀ j, j < [i, k].length → 0 ≤ nth [i, k] j ∧ nth [i, k] j < x.cs.length)
    · rw [if_pos h, if_pos (e.1 h)]
    · rw [if_neg h, if_neg (fun g => h (e.2 g))]
theorem nearR_comm (x : En) (i k : Int) : nearR x i k = nearR x k i := by
  unfold nearR
  rw [numE_comm, stN_comm]
  by_cases h : i = k
  · subst h; rfl
  · have h' : ¬ k = i := fun e => h e.symm
    rw [if_neg h, if_neg h']
theorem stN_spec (a b : Cr) : ∀ n, ∃ m : Nat, m ≤ n ∧ stN a b (n + 1) = (dN a b m, (m : Int), slG (posAt a m) (posAt b m)) ∧ ∀ j, j ≤ n → dN a b m ≤ dN a b j ∧ (dN a b j = dN a b m → m ≤ j)
  | 0 => ⟨0, Nat.le_refl _, by simp [stN, dN], fun j hj => by
    obtain rfl : j = 0 := (by omega)
    exact ⟨Int.le_refl _, fun _ => Nat.le_refl _⟩⟩
  | n + 1 => by
    obtain ⟨m, h1, h2, h3⟩ := stN_spec a b n
    have hp := s2G_pos (posAt a m) (posAt b m)
    by_cases hlt : dN a b (n + 1) < dN a b m
    · refine ⟨n + 1, Nat.le_refl _, ?_, fun j hj => ?_⟩
      · rw [stN, h2, if_pos (.inr hlt)]
        rfl
      · rcases Nat.lt_or_ge j (n + 1) with g | g
        · have := h3 j (by omega)
          exact ⟨by omega, fun e => by omega⟩
        · obtain rfl : j = n + 1 := by omega
          exact ⟨Int.le_refl _, fun _ => Nat.le_refl _⟩
    · refine ⟨m, by omega, ?_, fun j hj => ?_⟩
      · rw [stN, h2, if_neg (fun h => by
          rcases h with h | h
          · unfold dN at h; omega
          · exact hlt h)]
      · rcases Nat.lt_or_ge j (n + 1) with g | g
        · exact h3 j (by omega)
        · obtain rfl : j = n + 1 := by omega
          exact ⟨by omega, fun e => by omega⟩
theorem near_ok {x : En} {i k at_ sl : Int} (h : nearR x i k = ((at_, sl), 0)) : numE x [i, k] = 0 ∧ i ≠ k ∧ ∃ m : Nat, at_ = m ∧ (m : Int) ≤ x.cy ∧ sl = slG (posAt (crAt x i) m) (posAt (crAt x k) m) ∧ ∀ j : Nat, (j : Int) ≤ x.cy → dN (crAt x i) (crAt x k) m ≤ dN (crAt x i) (crAt x k) j ∧ (dN (crAt x i) (crAt x k) j = dN (crAt x i) (crAt x k) m → m ≤ j) := by
  unfold nearR at h
  split at h
  · rename_i hn
    obtain ⟨-, h2⟩ := Prod.mk.inj h
    exact absurd h2 hn
  · rename_i hn
    have hn0 : numE x [i, k] = 0 := Classical.not_not.1 hn
    obtain ⟨hc, -⟩ := numE_0 hn0
    obtain ⟨g1, -⟩ := chE_ok hc
    split at h
    · obtain ⟨-, h2⟩ := Prod.mk.inj h
      cases h2
    · rename_i hik
      obtain ⟨m, h1, h2, h3⟩ := stN_spec (crAt x i) (crAt x k) x.cy.toNat
      rw [h2] at h
      obtain ⟨h4, -⟩ := Prod.mk.inj h
      obtain ⟨rfl, rfl⟩ := Prod.mk.inj h4
      exact ⟨hn0, hik, m, rfl, by omega, rfl, fun j hj => h3 j (by omega)⟩
theorem near_bad {x : En} {i k : Int} (h : (nearR x i k).2 ≠ 0) : (nearR x i k).1 = (0, 0) := by
  unfold nearR at h ⊢
  split
  · rfl
  · rename_i h1
    rw [if_neg h1] at h
    split
    · rfl
    · rename_i h2
      rw [if_neg h2] at h
      exact absurd rfl h
/-! ### Pulls -/
theorem fly_un {z v a pu : Int} (h1 : (flyR z v a a pu).1 ≠ -1000) (h2 : (flyR z v a a pu).1 ≠ 50000) : flyR z v a a pu = (z + v, flV v a a pu) := by
  unfold flyR at h1 h2 ⊢
  by_cases h : inB (z + v) (-1000) 50000 = true
  · rw [if_pos h]
  · rw [if_neg h] at h1 h2
    unfold inB at h
    simp at h h1 h2
    omega
theorem flV_near {v a pu : Int} (hp : 1 ≤ pu) : (flV v a a pu - v ≤ pu ∧ v - flV v a a pu ≤ pu) ∧ ∀ d, 0 ≤ d → v - a ≤ d → a - v ≤ d → (flV v a a pu = a ∨ (flV v a a pu - a ≤ d - pu ∧ a - flV v a a pu ≤ d - pu)) := by
  unfold flV
  split
  · refine ⟨by omega, fun d h0 h1 h2 => ?_⟩
    by_cases g : v + pu ≤ a
    · right; omega
    · left; omega
  · split
    · refine ⟨by omega, fun d h0 h1 h2 => ?_⟩
      by_cases g : a ≤ v - pu
      · right; omega
      · left; omega
    · exact ⟨by omega, fun d h0 h1 h2 => by left; omega⟩
end Go.Proofs.YtnnnpliigdfipaaGreatDoor
