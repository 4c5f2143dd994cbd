/- squitter: Hear, Known, Pending of nil and zero tables. -/
import Derived.Test.YtkikokldijccnaaGreatDoorRows
import Derived.WalkKit
import Derived.WalkLawsBesides
import Derived.WalkSpells
import Derived.ProofKit
import Derived.Below
import Derived.Outline
import Derived.Lib.Hide
import Derived.Deep.RegionWith
import Derived.Deep.RegionHeld3
import Derived.Deep.DrawnRows
import Derived.StillTailTactics
import Derived.BigQuiet
import Derived.Deep.QuietTactic
import Derived.Deep.LoopGhost
import Derived.IntWalk
import Derived.Test.YtkikokldijccnaaGreatDoorSqO
namespace Go.Proofs.YtkikokldijccnaaGreatDoor
open Go.RowKit Go.Maps
attribute [local go_sem ↓] Go.wp_at_zero Go.wp_at_succ
attribute [local go_sem] wrap_lit

set_option maxRecDepth 100000 in
theorem hear31z {w : World} {H : Nat} (hl : H < w.heap.size) (c4 : w.cell? ⟨H, 4, none⟩ = some (.map none)) (a s : Int) : Calls Tryz.prog 15 #[.pointer (some ⟨H, 0, none⟩), .agg #[.int .i64 a, .int .i64 s]] w fun e w' => e = .returned (.int .i64 11) ∧ Below w.heap.size w w' := by
  have b4 : ∀ ob : Obj, (w.alloc ob).cell? ⟨H, 4, none⟩ = some (.map none) := fun ob => (World.cell?_alloc_lt _ _ _ hl).trans c4
  go_enter Tryz.func15, Tryz.ntmps15
  go_wp2_with (first | (go_at_call 17; refine (none32z _ H (b4 _)).mono ?_; rintro e w1 ⟨rfl, rfl⟩) | go_in)
  go_ret
  exact ⟨rfl, (Below.refl _ _).alloc (Nat.le_refl _) _⟩
theorem heard25z {w : World} {H : Nat} (hl : H < w.heap.size) (c4 : w.cell? ⟨H, 4, none⟩ = some (.map none)) (a s : Int) : Calls Tryz.prog 6 #[.pointer (some ⟨H, 0, none⟩), .int .i64 a, .int .i64 s] w fun e w' => e = .returned (.int .i64 11) ∧ Below w.heap.size w w' := by
  go_enter Tryz.func6, Tryz.ntmps6
  go_wp2_with (first | (go_at_call 15; refine (hear31z hl c4 a s).mono ?_; rintro e w1 ⟨rfl, hb⟩) | go_in)
  go_ret
  exact ⟨rfl, hb⟩
set_option maxRecDepth 100000 in
theorem addrs33z {w : World} {H : Nat} (_hl : H < w.heap.size) (c4 : w.cell? ⟨H, 4, none⟩ = some (.map none)) (b : Bool) : Calls Tryz.prog 16 #[.pointer (some ⟨H, 0, none⟩), .bool b] w fun e w' => e = .returned (.slice none 0 0) ∧ w' = w := by
  go_enter Tryz.func16, Tryz.ntmps16
  go_wp2_with (first | (go_at_call 17; refine (none32z _ H c4).mono ?_; rintro e w1 ⟨rfl, rfl⟩) | go_in)
  go_ret
  exact ⟨rfl, rfl⟩
theorem known15z {w : World} {H : Nat} (hl : H < w.heap.size) (c4 : w.cell? ⟨H, 4, none⟩ = some (.map none)) : Calls Tryz.prog 7 #[.pointer (some ⟨H, 0, none⟩)] w fun e w' => e = .returned (.slice none 0 0) ∧ w' = w := by
  go_enter Tryz.func7, Tryz.ntmps7
  go_wp2_with (first | (go_at_call 16; refine (addrs33z hl c4 true).mono ?_; rintro e w1 ⟨rfl, rfl⟩) | go_in)
  go_ret
  exact ⟨rfl, rfl⟩
theorem pend16z {w : World} {H : Nat} (hl : H < w.heap.size) (c4 : w.cell? ⟨H, 4, none⟩ = some (.map none)) : Calls Tryz.prog 10 #[.pointer (some ⟨H, 0, none⟩)] w fun e w' => e = .returned (.slice none 0 0) ∧ w' = w := by
  go_enter Tryz.func10, Tryz.ntmps10
  go_wp2_with (first | (go_at_call 16; refine (addrs33z hl c4 false).mono ?_; rintro e w1 ⟨rfl, rfl⟩) | go_in)
  go_ret
  exact ⟨rfl, rfl⟩

set_option maxRecDepth 100000 in
theorem hear31n {w : World} (a s : Int) : Calls Tryz.prog 15 #[.pointer none, .agg #[.int .i64 a, .int .i64 s]] w fun e w' => e = .returned (.int .i64 11) ∧ Below w.heap.size w w' := by
  go_enter Tryz.func15, Tryz.ntmps15
  go_wp2_with (first | (go_at_call 17; refine (none32n _).mono ?_; rintro e w1 ⟨rfl, rfl⟩) | go_in)
  go_ret
  exact ⟨rfl, (Below.refl _ _).alloc (Nat.le_refl _) _⟩
theorem heard25n {w : World} (a s : Int) : Calls Tryz.prog 6 #[.pointer none, .int .i64 a, .int .i64 s] w fun e w' => e = .returned (.int .i64 11) ∧ Below w.heap.size w w' := by
  go_enter Tryz.func6, Tryz.ntmps6
  go_wp2_with (first | (go_at_call 15; refine (hear31n a s).mono ?_; rintro e w1 ⟨rfl, hb⟩) | go_in)
  go_ret
  exact ⟨rfl, hb⟩
set_option maxRecDepth 100000 in
theorem addrs33n {w : World} (b : Bool) : Calls Tryz.prog 16 #[.pointer none, .bool b] w fun e w' => e = .returned (.slice none 0 0) ∧ w' = w := by
  go_enter Tryz.func16, Tryz.ntmps16
  go_wp2_with (first | (go_at_call 17; refine (none32n _).mono ?_; rintro e w1 ⟨rfl, rfl⟩) | go_in)
  go_ret
  exact ⟨rfl, rfl⟩
theorem known15n {w : World} : Calls Tryz.prog 7 #[.pointer none] w fun e w' => e = .returned (.slice none 0 0) ∧ w' = w := by
  go_enter Tryz.func7, Tryz.ntmps7
  go_wp2_with (first | (go_at_call 16; refine (addrs33n true).mono ?_; rintro e w1 ⟨rfl, rfl⟩) | go_in)
  go_ret
  exact ⟨rfl, rfl⟩
theorem pend16n {w : World} : Calls Tryz.prog 10 #[.pointer none] w fun e w' => e = .returned (.slice none 0 0) ∧ w' = w := by
  go_enter Tryz.func10, Tryz.ntmps10
  go_wp2_with (first | (go_at_call 16; refine (addrs33n false).mono ?_; rintro e w1 ⟨rfl, rfl⟩) | go_in)
  go_ret
  exact ⟨rfl, rfl⟩
end Go.Proofs.YtkikokldijccnaaGreatDoor
