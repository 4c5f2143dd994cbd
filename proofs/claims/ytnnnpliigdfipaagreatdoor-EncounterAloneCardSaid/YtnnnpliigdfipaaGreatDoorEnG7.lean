/- encounter: the plain law of Pulls. -/
import Derived.Test.YtnnnpliigdfipaaGreatDoorEnG1
namespace Go.Proofs.YtnnnpliigdfipaaGreatDoor
theorem flV_self (v pu : Int) : flV v v v pu = v := by unfold flV; simp
theorem need_ge {pu : Int} (hp : 1 ≤ pu) : 200 ≤ (200 + pu - 1) / pu * pu := by
  have h1 := Int.emod_add_mul_ediv (200 + pu - 1) pu
  have h2 := Int.emod_lt_of_pos (200 + pu - 1) (show (0 : Int) < pu by omega)
  rw [Int.mul_comm] at h1
  omega
/-- how near the speed is to the aim held for `same` cycles -/
def Nr (v a same pu : Int) : Prop := v = a ∨ (v - a ≤ 200 - same * pu ∧ a - v ≤ 200 - same * pu)
theorem Nr.first {v a pu : Int} (hp : 1 ≤ pu) (hv : -100 ≤ v ∧ v ≤ 100) (ha : -100 ≤ a ∧ a ≤ 100) : Nr (flV v a a pu) a 1 pu := by
  rcases (flV_near (v := v) (a := a) hp).2 200 (by omega) (by omega) (by omega) with h | h
  · exact .inl h
  · exact .inr ⟨by omega, by omega⟩
theorem Nr.next {v a same pu : Int} (hp : 1 ≤ pu) (h : Nr v a same pu) : Nr (flV v a a pu) a (same + 1) pu := by
  have e : (same + 1) * pu = same * pu + pu := by rw [Int.add_mul, Int.one_mul]
  rcases h with rfl | ⟨h1, h2⟩
  · exact .inl (flV_self _ _)
  · rcases (flV_near (v := v) (a := a) hp).2 (200 - same * pu) (by omega) h1 h2 with h | h
    · exact .inl h
    · unfold Nr
      rw [e]
      exact .inr ⟨by omega, by omega⟩
theorem Nr.done {v a same pu : Int} (hp : 1 ≤ pu) (h : Nr v a same pu) (hs : (200 + pu - 1) / pu ≤ same) : v = a := by
  have h1 := need_ge hp
  have h2 : (200 + pu - 1) / pu * pu ≤ same * pu := Int.mul_le_mul_of_nonneg_right hs (by omega)
  rcases h with h | h
  · exact h
  · omega
end Go.Proofs.YtnnnpliigdfipaaGreatDoor
