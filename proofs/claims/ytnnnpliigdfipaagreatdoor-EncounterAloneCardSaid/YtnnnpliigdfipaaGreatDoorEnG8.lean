/- encounter: the plain law of Alone. -/
import Derived.Test.YtnnnpliigdfipaaGreatDoorEnG7
namespace Go.Proofs.YtnnnpliigdfipaaGreatDoor
/-- an aircraft with one more leg -/
def Cr.leg (c : Cr) (y : Int × Int) : Cr := { c with lg := c.lg ++ [y] }
def onlyE (x : En) (c : Cr) : En := ⟨x.cy, x.gr, [c]⟩
theorem only_ok {x : En} {c : Cr} (h : chE x = 0) (hc : c ∈ x.cs) : chE (onlyE x c) = 0 := by
  obtain ⟨⟨g1, g1'⟩, ⟨g2, g2'⟩, g3, g4, g5⟩ := chE_ok h
  obtain ⟨ha, hcr⟩ := allE_ok x.cs [] g5 c hc
  unfold chE onlyE
  rw [if_neg (by rw [inB_t g1 g1', inB_t g2 g2']; decide), if_neg (by simp), if_neg (by simp)]
  simp only [allE]
  rw [if_neg (by rw [ha]; decide), if_neg (by simp), if_neg (by rw [hcr]; decide)]
theorem only_cr {x : En} {c : Cr} (h : chE (onlyE x c) = 0) : (1 ≤ x.cy ∧ x.cy ≤ 120) ∧ crE c x.cy = 0 := by
  obtain ⟨g1, -, -, -, g5⟩ := chE_ok h
  exact ⟨g1, (allE_ok [c] [] g5 c (by simp)).2⟩
theorem only_path {x : En} {c : Cr} : pathR (onlyE x c) 0 = if chE (onlyE x c) ≠ 0 then ([], chE (onlyE x c)) else (pathL c x.cy.toNat, 0) := by
  have e : numE (onlyE x c) [0] = chE (onlyE x c) := by
    unfold numE
    split
    · rfl
    · rename_i h
      rw [if_pos (fun j hj => by
        obtain rfl : j = 0 := by simpa using hj
        exact ⟨by simp [nth], by simp [nth, onlyE]⟩)]
      exact (Classical.not_not.1 h).symm
  unfold pathR
  rw [e]
  rfl
theorem leg_last {cy : Int} : ∀ (l : List (Int × Int)) (least : Int) (y : Int × Int), 0 ≤ least → legE cy least (l ++ [y]) = 0 → (0 ≤ y.1 ∧ y.1 ≤ cy - 1)
  | [], least, y, h0, h => by
    simp only [List.nil_append, legE] at h
    split at h
    · cases h
    · rename_i hb
      obtain ⟨h1, h2⟩ := inB_iff (of_nf hb)
      exact ⟨by omega, h2⟩
  | x :: l, least, y, h0, h => by
    simp only [List.cons_append, legE] at h
    split at h
    · cases h
    · rename_i hb
      obtain ⟨h1, h2⟩ := inB_iff (of_nf hb)
      split at h
      · cases h
      · exact leg_last l (x.1 + 1) y (by omega) h
theorem aimF_app (k : Int) (y : Int × Int) : ∀ (l : List (Int × Int)) (a : Int), aimF k a (l ++ [y]) = if y.1 ≤ k then y.2 else aimF k a l
  | [], a => rfl
  | x :: l, a => by
    simp only [List.cons_append, aimF]
    exact aimF_app k y l _
theorem aimE_leg (c : Cr) (y : Int × Int) (k : Int) (h : k < y.1) : aimE (c.leg y) k = aimE c k := by
  unfold aimE Cr.leg
  rw [aimF_app, if_neg (by omega)]
theorem flyN_leg (c : Cr) (y : Int × Int) : ∀ j : Nat, (j : Int) ≤ y.1 → flyN (c.leg y) j = flyN c j
  | 0, _ => rfl
  | j + 1, h => by
    have e := flyN_leg c y j (by omega)
    have a := aimE_leg c y (j : Int) (by omega)
    unfold flyN
    rw [e, a]
    rfl
theorem alone_leg {x : En} {c : Cr} {y : Int × Int} (h : chE (onlyE x (c.leg y)) = 0) : 0 ≤ y.1 ∧ y.1 ≤ x.cy - 1 := by
  obtain ⟨-, hc⟩ := only_cr h
  obtain ⟨-, -, -, -, -, -, -, hl⟩ := crE_ok hc
  exact leg_last c.lg 0 y (Int.le_refl _) hl
end Go.Proofs.YtnnnpliigdfipaaGreatDoor
