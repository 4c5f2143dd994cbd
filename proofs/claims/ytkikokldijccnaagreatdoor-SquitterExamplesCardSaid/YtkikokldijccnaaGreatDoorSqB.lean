/- squitter: none, Now, advance. -/
import Derived.Test.YtkikokldijccnaaGreatDoorRows
import Derived.WalkKit
import Derived.WalkLawsBesides
import Derived.WalkSpells
import Derived.ProofKit
import Derived.Below
import Derived.Outline
import Derived.Lib.Hide
import Derived.Deep.RegionWith
import Derived.Deep.RegionHeld3
import Derived.Deep.DrawnRows
import Derived.StillTailTactics
import Derived.BigQuiet
import Derived.Deep.QuietTactic
import Derived.Deep.LoopGhost
import Derived.IntWalk
import Derived.BigQuiet
import Derived.Test.YtkikokldijccnaaGreatDoorSqA
namespace Go.Proofs.YtkikokldijccnaaGreatDoor
open Go.RowKit Go.Maps
attribute [local go_sem ↓] Go.wp_at_zero Go.wp_at_succ
attribute [local go_sem] wrap_lit
theorem cellOf {w : World} {b i : Nat} {cs : Array Value} {ty : TypeId} {z : Nat × Nat} (h : w.heap[b]? = some (.cells cs ty z)) : w.cell? ⟨b, i, none⟩ = cs[i]? := by simp [World.cell?, h]
theorem none32 (w : World) (H mb : Nat) (hc : w.cell? ⟨H, 4, none⟩ = some (.map (some mb))) : Calls Tryz.prog 17 #[.pointer (some ⟨H, 0, none⟩)] w fun e w' => e = .returned (.bool false) ∧ w' = w := by
  have e1 : ∀ w, Sem.run Tryz.prog (binOp BinOp.eql 34 (Value.map (some mb)) (Value.map none)) w = .ok (.bool false) w := fun w => by kernel_rfl
  go_enter Tryz.func17, Tryz.ntmps17
  go_wp2_with fail
  go_ret
  exact ⟨rfl, rfl⟩
theorem none32z (w : World) (H : Nat) (hc : w.cell? ⟨H, 4, none⟩ = some (.map none)) : Calls Tryz.prog 17 #[.pointer (some ⟨H, 0, none⟩)] w fun e w' => e = .returned (.bool true) ∧ w' = w := by
  have e1 : ∀ w, Sem.run Tryz.prog (binOp BinOp.eql 34 (Value.map none) (Value.map none)) w = .ok (.bool true) w := fun w => by kernel_rfl
  go_enter Tryz.func17, Tryz.ntmps17
  go_wp2_with fail
  go_ret
  exact ⟨rfl, rfl⟩
theorem none32n (w : World) : Calls Tryz.prog 17 #[.pointer none] w fun e w' => e = .returned (.bool true) ∧ w' = w := by
  go_enter Tryz.func17, Tryz.ntmps17
  go_wp2_with fail
  go_ret
  exact ⟨rfl, rfl⟩
end Go.Proofs.YtkikokldijccnaaGreatDoor
