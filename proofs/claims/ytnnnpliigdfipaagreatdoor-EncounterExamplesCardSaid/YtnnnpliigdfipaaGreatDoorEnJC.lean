/- EncounterExamples: the table of changes. -/
import Derived.Test.YtnnnpliigdfipaaGreatDoorRows
import Derived.WalkKit
import Derived.WalkLawsBesides
import Derived.WalkSpells
import Derived.ProofKit
import Derived.Below
import Derived.Outline
import Derived.Lib.Hide
import Derived.Deep.RegionWith
import Derived.Deep.RegionHeld3
import Derived.Deep.DrawnRows
import Derived.StillTailTactics
import Derived.BigQuiet
import Derived.Deep.QuietTactic
import Derived.Deep.LoopGhost
import Derived.IntWalk
import Derived.Lib.MinMax
import Derived.Test.YtnnnpliigdfipaaGreatDoorEnJB
import Derived.Test.YtnnnpliigdfipaaGreatDoorEnO
namespace Go.Proofs.YtnnnpliigdfipaaGreatDoor
open Go.RowKit
attribute [local go_sem ↓] Go.wp_at_zero Go.wp_at_succ
attribute [local go_sem] wrap_lit
def chX : Nat → En
  | 0 => ⟨120, 10000, [⟨16777215, ⟨0, 0, 0⟩, ⟨0, 0, 0⟩, 32, [], 2, 5, 8, 0⟩]⟩
  | 1 => ⟨0, 10000, []⟩
  | 2 => ⟨121, 10000, [⟨16777215, ⟨0, 0, 0⟩, ⟨0, 0, 0⟩, 32, [], 2, 5, 8, 0⟩]⟩
  | 3 => ⟨120, -1, [⟨16777215, ⟨0, 0, 0⟩, ⟨0, 0, 0⟩, 32, [], 2, 5, 8, 0⟩]⟩
  | 4 => ⟨120, 10001, [⟨16777215, ⟨0, 0, 0⟩, ⟨0, 0, 0⟩, 32, [], 2, 5, 8, 0⟩]⟩
  | 5 => ⟨120, 10000, []⟩
  | 6 => ⟨120, 10000, List.replicate 7 z0X⟩
  | 7 => ⟨120, 10000, [⟨-1, ⟨0, 0, 0⟩, ⟨0, 0, 0⟩, 32, [], 2, 5, 8, 0⟩]⟩
  | 8 => ⟨120, 10000, [⟨16777216, ⟨9999, 0, 0⟩, ⟨0, 0, 0⟩, 32, [], 2, 5, 8, 0⟩]⟩
  | 9 => ⟨120, 10000, [c0X, ⟨16777215, ⟨0, 0, 0⟩, ⟨0, 0, 0⟩, 0, [], 0, 0, 0, 0⟩]⟩
  | 10 => ⟨120, 10000, [⟨16777215, ⟨8193, 0, 0⟩, ⟨0, 0, 0⟩, 32, [], 9, 5, 8, 0⟩]⟩
  | 11 => ⟨120, 10000, [⟨16777215, ⟨0, 0, 0⟩, ⟨0, 0, 101⟩, 32, [], 2, 5, 8, 0⟩]⟩
  | 12 => ⟨120, 10000, [⟨16777215, ⟨8073, 0, 0⟩, ⟨1, 0, 0⟩, 0, [], 2, 5, 8, 0⟩]⟩
  | 13 => ⟨120, 10000, [⟨16777215, ⟨0, -8072, 0⟩, ⟨0, -1, 0⟩, 32, [], 2, 5, 8, 0⟩]⟩
  | 14 => ⟨120, 10000, [⟨16777215, ⟨0, 0, 0⟩, ⟨0, 0, 0⟩, 33, [], 3, 5, 8, 0⟩]⟩
  | 15 => ⟨120, 10000, [⟨16777215, ⟨0, 0, 0⟩, ⟨0, 0, 0⟩, 32, legs17.take 17, 3, 5, 8, 0⟩]⟩
  | 16 => ⟨120, 10000, [⟨16777215, ⟨0, 0, 0⟩, ⟨0, 0, 0⟩, 32, legs17.take 17, 2, 5, 8, 0⟩]⟩
  | 17 => ⟨120, 10000, [⟨16777215, ⟨0, 0, 0⟩, ⟨0, 0, 0⟩, 32, legs17.take 16, 2, 5, 8, 0⟩]⟩
  | 18 => ⟨120, 10000, [⟨16777215, ⟨0, 0, 0⟩, ⟨0, 0, 0⟩, 32, [(120, 101)], 2, 5, 8, 0⟩]⟩
  | 19 => ⟨120, 10000, [⟨16777215, ⟨0, 0, 0⟩, ⟨0, 0, 0⟩, 32, [(5, 0), (5, 0)], 2, 5, 8, 0⟩]⟩
  | 20 => ⟨120, 10000, [⟨16777215, ⟨0, 0, 0⟩, ⟨0, 0, 0⟩, 32, [(119, -101)], 2, 5, 8, 0⟩]⟩
  | _ => ⟨0, 0, []⟩
def ceX : Nat → Int
  | 0 => 0
  | 1 => 1
  | 2 => 1
  | 3 => 1
  | 4 => 1
  | 5 => 3
  | 6 => 4
  | 7 => 1
  | 8 => 1
  | 9 => 16
  | 10 => 1
  | 11 => 1
  | 12 => 7
  | 13 => 0
  | 14 => 1
  | 15 => 6
  | 16 => 4
  | 17 => 0
  | 18 => 2
  | 19 => 2
  | 20 => 1
  | _ => 0
def cfX (L : Nat) : Nat → Value
  | 0 => .func (.func 30) #[] #[]
  | 1 => .func (.func 31) #[] #[]
  | 2 => .func (.func 32) #[] #[]
  | 3 => .func (.func 33) #[] #[]
  | 4 => .func (.func 34) #[] #[]
  | 5 => .func (.func 35) #[] #[]
  | 6 => .func (.func 36) #[] #[]
  | 7 => .func (.func 37) #[] #[]
  | 8 => .func (.func 38) #[] #[]
  | 9 => .func (.func 39) #[] #[]
  | 10 => .func (.func 40) #[] #[]
  | 11 => .func (.func 41) #[] #[]
  | 12 => .func (.func 42) #[] #[]
  | 13 => .func (.func 43) #[] #[]
  | 14 => .func (.func 44) #[] #[]
  | 15 => .func (.func 45) #[] #[.pointer (some ⟨L, 0, none⟩)]
  | 16 => .func (.func 46) #[] #[.pointer (some ⟨L, 0, none⟩)]
  | 17 => .func (.func 47) #[] #[.pointer (some ⟨L, 0, none⟩)]
  | 18 => .func (.func 48) #[] #[]
  | 19 => .func (.func 49) #[] #[]
  | 20 => .func (.func 50) #[] #[]
  | _ => undef
theorem chX_ok (k : Nat) (hk : k < 21) : chE (chX k) = ceX k := by
  rcases (by omega : k = 0 ∨ k = 1 ∨ k = 2 ∨ k = 3 ∨ k = 4 ∨ k = 5 ∨ k = 6 ∨ k = 7 ∨ k = 8 ∨ k = 9 ∨ k = 10 ∨ k = 11 ∨ k = 12 ∨ k = 13 ∨ k = 14 ∨ k = 15 ∨ k = 16 ∨ k = 17 ∨ k = 18 ∨ k = 19 ∨ k = 20) with rfl | rfl | rfl | rfl | rfl | rfl | rfl | rfl | rfl | rfl | rfl | rfl | rfl | rfl | rfl | rfl | rfl | rfl | rfl | rfl | rfl <;> decide +kernel
theorem chX_mo (k : Nat) (hk : k < 21) : ∀ c ∈ (chX k).cs, 0 ≤ c.mo := by
  rcases (by omega : k = 0 ∨ k = 1 ∨ k = 2 ∨ k = 3 ∨ k = 4 ∨ k = 5 ∨ k = 6 ∨ k = 7 ∨ k = 8 ∨ k = 9 ∨ k = 10 ∨ k = 11 ∨ k = 12 ∨ k = 13 ∨ k = 14 ∨ k = 15 ∨ k = 16 ∨ k = 17 ∨ k = 18 ∨ k = 19 ∨ k = 20) with rfl | rfl | rfl | rfl | rfl | rfl | rfl | rfl | rfl | rfl | rfl | rfl | rfl | rfl | rfl | rfl | rfl | rfl | rfl | rfl | rfl <;> decide
theorem conX (k : Nat) (hk : k < 21) (L : Nat) : ∃ id caps, cfX L k = .func (.func id) #[] caps ∧ (∀ args w, (callFunc id args).run Tryz.prog w = .ok (.enter id args) w) ∧ ∀ (w : World) (H g gl : Nat), StX w H g L gl → Calls Tryz.prog id (#[.pointer (some ⟨H, 0, none⟩), .pointer (some ⟨g, 0, none⟩)] ++ caps) w (ClR H g (chX k) w) := by
  rcases (by omega : k = 0 ∨ k = 1 ∨ k = 2 ∨ k = 3 ∨ k = 4 ∨ k = 5 ∨ k = 6 ∨ k = 7 ∨ k = 8 ∨ k = 9 ∨ k = 10 ∨ k = 11 ∨ k = 12 ∨ k = 13 ∨ k = 14 ∨ k = 15 ∨ k = 16 ∨ k = 17 ∨ k = 18 ∨ k = 19 ∨ k = 20) with rfl | rfl | rfl | rfl | rfl | rfl | rfl | rfl | rfl | rfl | rfl | rfl | rfl | rfl | rfl | rfl | rfl | rfl | rfl | rfl | rfl
  · exact ⟨_, _, rfl, fun args w => by go_simp, fun w H g gl S => change0 w H g L gl S⟩
  · exact ⟨_, _, rfl, fun args w => by go_simp, fun w H g gl S => change1 w H g L gl S⟩
  · exact ⟨_, _, rfl, fun args w => by go_simp, fun w H g gl S => change2 w H g L gl S⟩
  · exact ⟨_, _, rfl, fun args w => by go_simp, fun w H g gl S => change3 w H g L gl S⟩
  · exact ⟨_, _, rfl, fun args w => by go_simp, fun w H g gl S => change4 w H g L gl S⟩
  · exact ⟨_, _, rfl, fun args w => by go_simp, fun w H g gl S => change5 w H g L gl S⟩
  · exact ⟨_, _, rfl, fun args w => by go_simp, fun w H g gl S => change6 w H g L gl S⟩
  · exact ⟨_, _, rfl, fun args w => by go_simp, fun w H g gl S => change7 w H g L gl S⟩
  · exact ⟨_, _, rfl, fun args w => by go_simp, fun w H g gl S => change8 w H g L gl S⟩
  · exact ⟨_, _, rfl, fun args w => by go_simp, fun w H g gl S => change9 w H g L gl S⟩
  · exact ⟨_, _, rfl, fun args w => by go_simp, fun w H g gl S => change10 w H g L gl S⟩
  · exact ⟨_, _, rfl, fun args w => by go_simp, fun w H g gl S => change11 w H g L gl S⟩
  · exact ⟨_, _, rfl, fun args w => by go_simp, fun w H g gl S => change12 w H g L gl S⟩
  · exact ⟨_, _, rfl, fun args w => by go_simp, fun w H g gl S => change13 w H g L gl S⟩
  · exact ⟨_, _, rfl, fun args w => by go_simp, fun w H g gl S => change14 w H g L gl S⟩
  · exact ⟨_, _, rfl, fun args w => by go_simp, fun w H g gl S => change15 w H g L gl S⟩
  · exact ⟨_, _, rfl, fun args w => by go_simp, fun w H g gl S => change16 w H g L gl S⟩
  · exact ⟨_, _, rfl, fun args w => by go_simp, fun w H g gl S => change17 w H g L gl S⟩
  · exact ⟨_, _, rfl, fun args w => by go_simp, fun w H g gl S => change18 w H g L gl S⟩
  · exact ⟨_, _, rfl, fun args w => by go_simp, fun w H g gl S => change19 w H g L gl S⟩
  · exact ⟨_, _, rfl, fun args w => by go_simp, fun w H g gl S => change20 w H g L gl S⟩
theorem errF {x : En} {e : Int} (h : chE x = e) : (foE x).2 = e := by
  unfold foE; split
  · exact h
  · rename_i g; rw [← h]; exact (Classical.not_not.1 g).symm
theorem numX {x : En} {e : Int} (h : chE x = e) : numE x [0] = e := by
  by_cases h0 : chE x = 0
  · obtain ⟨-, -, h3, -⟩ := chE_ok h0
    rw [← h, h0]
    exact numE_ok x [0] h0 (fun j hj => by obtain rfl : j = 0 := (by simpa using hj); exact ⟨by simp [nth], by simp [nth]; omega⟩)
  · unfold numE; rw [if_pos h0]; exact h
theorem errP {x : En} {e : Int} (h : chE x = e) : (pathR x 0).2 = e := by
  unfold pathR
  rw [numX h]
  split
  · rfl
  · rename_i g; exact (Classical.not_not.1 g).symm
theorem errA {x : En} {e : Int} (h : chE x = e) : (aimR x 0 0).2 = e := by
  unfold aimR
  rw [numX h]
  split
  · rfl
  · rename_i g
    have g' := Classical.not_not.1 g
    rw [g'] at h
    have := chE_ok h
    rw [if_neg (by rw [inB_t (by omega) (by omega)]; decide)]
    exact g'.symm
theorem errW {x : En} {e : Int} (h : chE x = e) : (wheR x 0 0).2 = e := by
  unfold wheR
  rw [errP h]
  split
  · rfl
  · rename_i g
    have g' := Classical.not_not.1 g
    rw [g'] at h
    have := chE_ok h
    rw [if_neg (by rw [inB_t (by omega) (by omega)]; decide)]
    exact g'.symm
end Go.Proofs.YtnnnpliigdfipaaGreatDoor
