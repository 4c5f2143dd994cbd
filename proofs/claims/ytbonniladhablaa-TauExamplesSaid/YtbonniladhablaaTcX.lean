/- Long, the walk of TauClasses. -/
import Derived.Test.YtbonniladhablaaRows
import Derived.WalkKit
import Derived.WalkLawsBesides
import Derived.WalkSpells
import Derived.ProofKit
import Derived.Below
import Derived.Outline
import Derived.Lib.Hide
import Derived.Deep.RegionWith
import Derived.Deep.RegionHeld3
import Derived.Deep.DrawnRows
import Derived.StillTailTactics
import Derived.BigQuiet
import Derived.Deep.QuietTactic
import Derived.Deep.LoopGhost
import Derived.IntWalk
import Derived.Test.YtbonniladhablaaTcW
namespace Go.Proofs.Ytbonniladhablaa
open Go.RowKit
attribute [local go_sem ↓] Go.wp_at_zero Go.wp_at_succ
attribute [local go_sem] wrap_lit

set_option maxHeartbeats 2000000 in
theorem long19 (F A B' : Option Addr) (cf na ca nb cb : Nat) (fl : List Int) (far tall : Int) (w : World) (b : Bool) (hb : b = (decide (30 < fl.length) || (decide (30 < na) || decide (30 < nb)))) :
    Calls Try.prog 19 #[.agg #[.slice F fl.length cf, .slice A na ca, .slice B' nb cb, .int .i64 far, .int .i64 tall]] w fun e w' => e = .returned (.bool b) ∧ Below w.heap.size w w' := by
  subst hb
  by_cases g1 : 30 < fl.length
  · have h1 : (30 : Int) < (fl.length : Int) := by omega
    have d1 : decide (30 < fl.length) = true := by simp [g1]
    rw [d1]
    clear g1 d1
    go_enter Try.func19, Try.ntmps19
    go_wp2_with fail
    go_ret
    exact ⟨rfl, (Below.refl _ _).alloc (Nat.le_refl _) _⟩
  · have h1 : ¬ (30 : Int) < (fl.length : Int) := by omega
    have d1 : decide (30 < fl.length) = false := by simp; omega
    rw [d1]
    clear g1 d1
    by_cases g2 : 30 < na
    · have h2 : (30 : Int) < (na : Int) := by omega
      have d2 : decide (30 < na) = true := by simp [g2]
      rw [d2]
      clear g2 d2
      go_enter Try.func19, Try.ntmps19
      go_wp2_with fail
      go_ret
      exact ⟨rfl, (Below.refl _ _).alloc (Nat.le_refl _) _⟩
    · have h2 : ¬ (30 : Int) < (na : Int) := by omega
      have d2 : decide (30 < na) = false := by simp; omega
      rw [d2]
      clear g2 d2
      by_cases g3 : 30 < nb
      · have h3 : (30 : Int) < (nb : Int) := by omega
        have d3 : decide (30 < nb) = true := by simp [g3]
        rw [d3]
        clear g3 d3
        go_enter Try.func19, Try.ntmps19
        go_wp2_with fail
        go_ret
        exact ⟨rfl, (Below.refl _ _).alloc (Nat.le_refl _) _⟩
      · have h3 : ¬ (30 : Int) < (nb : Int) := by omega
        have d3 : decide (30 < nb) = false := by simp; omega
        rw [d3]
        clear g3 d3
        go_enter Try.func19, Try.ntmps19
        go_wp2_with fail
        go_ret
        exact ⟨rfl, (Below.refl _ _).alloc (Nat.le_refl _) _⟩
end Go.Proofs.Ytbonniladhablaa
