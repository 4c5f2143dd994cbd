/- GeometryExamples returns true. -/
import Derived.Test.YtdflamblbhpngaaRows
import Derived.WalkKit
import Derived.WalkLawsBesides
import Derived.WalkSpells
import Derived.ProofKit
import Derived.Below
import Derived.Outline
import Derived.Lib.Hide
import Derived.Deep.RegionWith
import Derived.Deep.RegionHeld3
import Derived.Deep.DrawnRows
import Derived.StillTailTactics
import Derived.BigQuiet
import Derived.Deep.QuietTactic
import Derived.Deep.LoopGhost
import Derived.IntWalk
import Derived.Test.YtdflamblbhpngaaGeX1
import Derived.Test.YtdflamblbhpngaaGeW
import Derived.Test.YtdflamblbhpngaaKO
import Derived.WalkKit
import Derived.ProofKit
import Derived.OpenShut
import Derived.ShutString
import Derived.ChangeOld
import Derived.Below
import Derived.Lib.SmallJoins
namespace Go.Proofs.Ytdflamblbhpngaa
open Go.RowKit
attribute [local go_sem ↓] Go.wp_at_zero Go.wp_at_succ
attribute [local go_sem] wrap_lit

theorem exS (p : V3) (h : ¬ okP p) (w : World) : Calls Try.prog 25 #[.agg #[.int .i64 0, .int .i64 0, .int .i64 0], .agg #[.int .i64 p.x, .int .i64 p.y, .int .i64 p.z]] w fun e w' => e = .returned (.tuple #[.int .i64 0, .int .i64 1]) ∧ Below w.heap.size w w' := by
  have H := slant25 (⟨0, 0, 0⟩ : V3) p w
  have k : ¬ okS (⟨0, 0, 0⟩ : V3) p := fun g => h g.2
  unfold s2G erS at H
  rw [if_neg k, if_neg k] at H
  exact H
theorem exM (p : V3) (h : ¬ okP p) (w : World) : Calls Try.prog 29 #[.agg #[.int .i64 p.x, .int .i64 p.y, .int .i64 p.z], .agg #[.int .i64 65, .int .i64 0, .int .i64 0], .int .i64 (-1)] w fun e w' => e = .returned (.tuple #[.agg #[.int .i64 0, .int .i64 0, .int .i64 0], .int .i64 1]) ∧ Below w.heap.size w w' := by
  have H := move29 p (⟨65, 0, 0⟩ : V3) (-1) w
  have k1 : ¬ okMv p (⟨65, 0, 0⟩ : V3) (-1) := fun g => h g.1
  have k2 : ¬ (okP p ∧ okV (⟨65, 0, 0⟩ : V3) ∧ okT (-1)) := fun g => h g.1
  unfold mvR mvE at H
  rw [if_neg k1, if_neg k2] at H
  exact H
theorem exC (p : V3) (h : ¬ okP p) (w : World) : Calls Try.prog 31 #[.agg #[.int .i64 p.x, .int .i64 p.y, .int .i64 p.z]] w fun e w' => e = .returned (.int .i64 1) ∧ Below w.heap.size w w' := by
  have H := chkB31 p w
  unfold ckP at H
  rw [if_neg h] at H
  exact H
theorem exI (u : V3) (h : ¬ okV u) (w : World) : Calls Try.prog 14 #[.agg #[.int .i64 0, .int .i64 0, .int .i64 0], .agg #[.int .i64 0, .int .i64 0, .int .i64 0], .agg #[.int .i64 0, .int .i64 0, .int .i64 0], .agg #[.int .i64 u.x, .int .i64 u.y, .int .i64 u.z]] w fun e w' => e = .returned (.tuple #[.int .i64 0, .int .i64 1]) ∧ Below w.heap.size w w' := by
  have H := miss14 (⟨0, 0, 0⟩ : V3) (⟨0, 0, 0⟩ : V3) (⟨0, 0, 0⟩ : V3) u w
  have k : ¬ okG (⟨0, 0, 0⟩ : V3) (⟨0, 0, 0⟩ : V3) (⟨0, 0, 0⟩ : V3) u := fun g => h g.2.2.2
  unfold missG erG at H
  rw [if_neg k, if_neg k] at H
  exact H
theorem exV (u : V3) (h : ¬ okV u) (w : World) : Calls Try.prog 33 #[.agg #[.int .i64 u.x, .int .i64 u.y, .int .i64 u.z]] w fun e w' => e = .returned (.int .i64 1) ∧ Below w.heap.size w w' := by
  have H := chkB33 u w
  unfold ckV at H
  rw [if_neg h] at H
  exact H
theorem fS : s2G (⟨-8192, -8192, -1000⟩ : V3) (⟨8192, 8192, 50000⟩ : V3) = 4847860980800 := by decide
theorem fE : erS (⟨-8192, -8192, -1000⟩ : V3) (⟨8192, 8192, 50000⟩ : V3) = 0 := by decide
theorem fG : okG (⟨-8192, -8192, -1000⟩ : V3) (⟨8192, 8192, 50000⟩ : V3) (⟨64, 64, 100⟩ : V3) (⟨-64, -64, -100⟩ : V3) := by decide
theorem fG0 : erG (⟨-8192, -8192, -1000⟩ : V3) (⟨8192, 8192, 50000⟩ : V3) (⟨64, 64, 100⟩ : V3) (⟨-64, -64, -100⟩ : V3) = 0 := by decide
theorem fN : 0 < coN (⟨-8192, -8192, -1000⟩ : V3) (⟨8192, 8192, 50000⟩ : V3) (⟨64, 64, 100⟩ : V3) (⟨-64, -64, -100⟩ : V3) ∧ 0 < coD (⟨-8192, -8192, -1000⟩ : V3) (⟨8192, 8192, 50000⟩ : V3) (⟨64, 64, 100⟩ : V3) (⟨-64, -64, -100⟩ : V3) := by
  obtain ⟨g, -, -, -, a, b, -⟩ := co_mul (⟨-8192, -8192, -1000⟩ : V3) (⟨8192, 8192, 50000⟩ : V3) (⟨64, 64, 100⟩ : V3) (⟨-64, -64, -100⟩ : V3) fG (by decide)
  exact ⟨b, a⟩
theorem exa1 (w : World) : Calls Try.prog 25 #[.agg #[.int .i64 (-8192), .int .i64 (-8192), .int .i64 (-1000)], .agg #[.int .i64 8192, .int .i64 8192, .int .i64 50000]] w fun e w' => e = .returned (.tuple #[.int .i64 4847860980800, .int .i64 0]) ∧ Below w.heap.size w w' := by
  have H := slant25 (⟨-8192, -8192, -1000⟩ : V3) (⟨8192, 8192, 50000⟩ : V3) w
  rw [fS, fE] at H
  exact H
theorem fWE0 : wiE (⟨-8192, -8192, -1000⟩ : V3) (⟨8192, 8192, 50000⟩ : V3) (⟨64, 64, 100⟩ : V3) (⟨-64, -64, -100⟩ : V3) (-1) 0 = 1 := by decide
theorem fWB0 : wiB (⟨-8192, -8192, -1000⟩ : V3) (⟨8192, 8192, 50000⟩ : V3) (⟨64, 64, 100⟩ : V3) (⟨-64, -64, -100⟩ : V3) (-1) 0 = false := by decide
theorem exw0 (w : World) : Calls Try.prog 16 #[.agg #[.int .i64 (-8192), .int .i64 (-8192), .int .i64 (-1000)], .agg #[.int .i64 8192, .int .i64 8192, .int .i64 50000], .agg #[.int .i64 64, .int .i64 64, .int .i64 100], .agg #[.int .i64 (-64), .int .i64 (-64), .int .i64 (-100)], .int .i64 (-1), .int .i64 0] w fun e w' => e = .returned (.tuple #[.bool false, .int .i64 1]) ∧ Below w.heap.size w w' := by
  have H := within16 (⟨-8192, -8192, -1000⟩ : V3) (⟨8192, 8192, 50000⟩ : V3) (⟨64, 64, 100⟩ : V3) (⟨-64, -64, -100⟩ : V3) (-1) 0 w
  rw [fWB0, fWE0] at H
  exact H
theorem fWE1 : wiE (⟨-8192, -8192, -1000⟩ : V3) (⟨8192, 8192, 50000⟩ : V3) (⟨64, 64, 100⟩ : V3) (⟨-64, -64, -100⟩ : V3) 32769 0 = 1 := by decide
theorem fWB1 : wiB (⟨-8192, -8192, -1000⟩ : V3) (⟨8192, 8192, 50000⟩ : V3) (⟨64, 64, 100⟩ : V3) (⟨-64, -64, -100⟩ : V3) 32769 0 = false := by decide
theorem exw1 (w : World) : Calls Try.prog 16 #[.agg #[.int .i64 (-8192), .int .i64 (-8192), .int .i64 (-1000)], .agg #[.int .i64 8192, .int .i64 8192, .int .i64 50000], .agg #[.int .i64 64, .int .i64 64, .int .i64 100], .agg #[.int .i64 (-64), .int .i64 (-64), .int .i64 (-100)], .int .i64 32769, .int .i64 0] w fun e w' => e = .returned (.tuple #[.bool false, .int .i64 1]) ∧ Below w.heap.size w w' := by
  have H := within16 (⟨-8192, -8192, -1000⟩ : V3) (⟨8192, 8192, 50000⟩ : V3) (⟨64, 64, 100⟩ : V3) (⟨-64, -64, -100⟩ : V3) 32769 0 w
  rw [fWB1, fWE1] at H
  exact H
theorem fWE2 : wiE (⟨-8192, -8192, -1000⟩ : V3) (⟨8192, 8192, 50000⟩ : V3) (⟨64, 64, 100⟩ : V3) (⟨-64, -64, -100⟩ : V3) 1 (-1) = 1 := by decide
theorem fWB2 : wiB (⟨-8192, -8192, -1000⟩ : V3) (⟨8192, 8192, 50000⟩ : V3) (⟨64, 64, 100⟩ : V3) (⟨-64, -64, -100⟩ : V3) 1 (-1) = false := by decide
theorem exw2 (w : World) : Calls Try.prog 16 #[.agg #[.int .i64 (-8192), .int .i64 (-8192), .int .i64 (-1000)], .agg #[.int .i64 8192, .int .i64 8192, .int .i64 50000], .agg #[.int .i64 64, .int .i64 64, .int .i64 100], .agg #[.int .i64 (-64), .int .i64 (-64), .int .i64 (-100)], .int .i64 1, .int .i64 (-1)] w fun e w' => e = .returned (.tuple #[.bool false, .int .i64 1]) ∧ Below w.heap.size w w' := by
  have H := within16 (⟨-8192, -8192, -1000⟩ : V3) (⟨8192, 8192, 50000⟩ : V3) (⟨64, 64, 100⟩ : V3) (⟨-64, -64, -100⟩ : V3) 1 (-1) w
  rw [fWB2, fWE2] at H
  exact H
theorem fWE3 : wiE (⟨-8192, -8192, -1000⟩ : V3) (⟨8192, 8192, 50000⟩ : V3) (⟨64, 64, 100⟩ : V3) (⟨-64, -64, -100⟩ : V3) 1 3601 = 1 := by decide
theorem fWB3 : wiB (⟨-8192, -8192, -1000⟩ : V3) (⟨8192, 8192, 50000⟩ : V3) (⟨64, 64, 100⟩ : V3) (⟨-64, -64, -100⟩ : V3) 1 3601 = false := by decide
theorem exw3 (w : World) : Calls Try.prog 16 #[.agg #[.int .i64 (-8192), .int .i64 (-8192), .int .i64 (-1000)], .agg #[.int .i64 8192, .int .i64 8192, .int .i64 50000], .agg #[.int .i64 64, .int .i64 64, .int .i64 100], .agg #[.int .i64 (-64), .int .i64 (-64), .int .i64 (-100)], .int .i64 1, .int .i64 3601] w fun e w' => e = .returned (.tuple #[.bool false, .int .i64 1]) ∧ Below w.heap.size w w' := by
  have H := within16 (⟨-8192, -8192, -1000⟩ : V3) (⟨8192, 8192, 50000⟩ : V3) (⟨64, 64, 100⟩ : V3) (⟨-64, -64, -100⟩ : V3) 1 3601 w
  rw [fWB3, fWE3] at H
  exact H
theorem fMR0 : mvR (⟨-8192, -8192, -1000⟩ : V3) (⟨-64, -64, -100⟩ : V3) 1 = (⟨0, 0, 0⟩ : V3) := by
  first
  | (have h : okMv (⟨-8192, -8192, -1000⟩ : V3) (⟨-64, -64, -100⟩ : V3) 1 := by decide
     unfold mvR; rw [if_pos h]; rfl)
  | (have h : ¬ okMv (⟨-8192, -8192, -1000⟩ : V3) (⟨-64, -64, -100⟩ : V3) 1 := by decide
     unfold mvR; rw [if_neg h])
theorem fME0 : mvE (⟨-8192, -8192, -1000⟩ : V3) (⟨-64, -64, -100⟩ : V3) 1 = 7 := by decide
theorem exm0 (w : World) : Calls Try.prog 29 #[.agg #[.int .i64 (-8192), .int .i64 (-8192), .int .i64 (-1000)], .agg #[.int .i64 (-64), .int .i64 (-64), .int .i64 (-100)], .int .i64 1] w fun e w' => e = .returned (.tuple #[.agg #[.int .i64 0, .int .i64 0, .int .i64 0], .int .i64 7]) ∧ Below w.heap.size w w' := by
  have H := move29 (⟨-8192, -8192, -1000⟩ : V3) (⟨-64, -64, -100⟩ : V3) 1 w
  rw [fMR0, fME0] at H
  exact H
theorem fMR1 : mvR (⟨8128, 0, 0⟩ : V3) (⟨64, 0, 0⟩ : V3) 1 = (⟨8192, 0, 0⟩ : V3) := by
  first
  | (have h : okMv (⟨8128, 0, 0⟩ : V3) (⟨64, 0, 0⟩ : V3) 1 := by decide
     unfold mvR; rw [if_pos h]; rfl)
  | (have h : ¬ okMv (⟨8128, 0, 0⟩ : V3) (⟨64, 0, 0⟩ : V3) 1 := by decide
     unfold mvR; rw [if_neg h])
theorem fME1 : mvE (⟨8128, 0, 0⟩ : V3) (⟨64, 0, 0⟩ : V3) 1 = 0 := by decide
theorem exm1 (w : World) : Calls Try.prog 29 #[.agg #[.int .i64 8128, .int .i64 0, .int .i64 0], .agg #[.int .i64 64, .int .i64 0, .int .i64 0], .int .i64 1] w fun e w' => e = .returned (.tuple #[.agg #[.int .i64 8192, .int .i64 0, .int .i64 0], .int .i64 0]) ∧ Below w.heap.size w w' := by
  have H := move29 (⟨8128, 0, 0⟩ : V3) (⟨64, 0, 0⟩ : V3) 1 w
  rw [fMR1, fME1] at H
  exact H
theorem fMR2 : mvR (⟨0, 0, 0⟩ : V3) (⟨0, 0, 0⟩ : V3) 3601 = (⟨0, 0, 0⟩ : V3) := by
  first
  | (have h : okMv (⟨0, 0, 0⟩ : V3) (⟨0, 0, 0⟩ : V3) 3601 := by decide
     unfold mvR; rw [if_pos h]; rfl)
  | (have h : ¬ okMv (⟨0, 0, 0⟩ : V3) (⟨0, 0, 0⟩ : V3) 3601 := by decide
     unfold mvR; rw [if_neg h])
theorem fME2 : mvE (⟨0, 0, 0⟩ : V3) (⟨0, 0, 0⟩ : V3) 3601 = 1 := by decide
theorem exm2 (w : World) : Calls Try.prog 29 #[.agg #[.int .i64 0, .int .i64 0, .int .i64 0], .agg #[.int .i64 0, .int .i64 0, .int .i64 0], .int .i64 3601] w fun e w' => e = .returned (.tuple #[.agg #[.int .i64 0, .int .i64 0, .int .i64 0], .int .i64 1]) ∧ Below w.heap.size w w' := by
  have H := move29 (⟨0, 0, 0⟩ : V3) (⟨0, 0, 0⟩ : V3) 3601 w
  rw [fMR2, fME2] at H
  exact H
theorem fZN : coN (⟨5, 0, 0⟩ : V3) (⟨0, 0, 0⟩ : V3) (⟨1, 0, 0⟩ : V3) (⟨1, 0, 0⟩ : V3) = 0 := by decide
theorem fZD : coD (⟨5, 0, 0⟩ : V3) (⟨0, 0, 0⟩ : V3) (⟨1, 0, 0⟩ : V3) (⟨1, 0, 0⟩ : V3) = 1 := by decide
theorem fZE : erG (⟨5, 0, 0⟩ : V3) (⟨0, 0, 0⟩ : V3) (⟨1, 0, 0⟩ : V3) (⟨1, 0, 0⟩ : V3) = 0 := by decide
theorem exz (w : World) : Calls Try.prog 12 #[.agg #[.int .i64 5, .int .i64 0, .int .i64 0], .agg #[.int .i64 0, .int .i64 0, .int .i64 0], .agg #[.int .i64 1, .int .i64 0, .int .i64 0], .agg #[.int .i64 1, .int .i64 0, .int .i64 0]] w fun e w' => e = .returned (.tuple #[.int .i64 0, .int .i64 1, .int .i64 0]) ∧ Below w.heap.size w w' := by
  have H := closest12 (⟨5, 0, 0⟩ : V3) (⟨0, 0, 0⟩ : V3) (⟨1, 0, 0⟩ : V3) (⟨1, 0, 0⟩ : V3) w
  rw [fZN, fZD, fZE] at H
  exact H
theorem fYB0 : wiB (⟨0, 0, 0⟩ : V3) (⟨0, 0, 0⟩ : V3) (⟨0, 0, 0⟩ : V3) (⟨0, 0, 0⟩ : V3) 0 0 = false := by decide
theorem fYE0 : wiE (⟨0, 0, 0⟩ : V3) (⟨0, 0, 0⟩ : V3) (⟨0, 0, 0⟩ : V3) (⟨0, 0, 0⟩ : V3) 0 0 = 0 := by decide
theorem exy0 (w : World) : Calls Try.prog 19 #[.agg #[.int .i64 0, .int .i64 0, .int .i64 0, .int .i64 0, .int .i64 0, .int .i64 0, .int .i64 0, .int .i64 0, .int .i64 0, .int .i64 0, .int .i64 0, .int .i64 0], .int .i64 0, .int .i64 0, .bool false] w fun e w' => e = .returned (.bool true) ∧ Below w.heap.size w w' := by
  have H := win19 (⟨0, 0, 0⟩ : V3) (⟨0, 0, 0⟩ : V3) (⟨0, 0, 0⟩ : V3) (⟨0, 0, 0⟩ : V3) 0 0 false w
  rw [fYB0, fYE0] at H
  exact H
theorem fYB1 : wiB (⟨0, 0, 0⟩ : V3) (⟨0, 0, 0⟩ : V3) (⟨0, 0, 0⟩ : V3) (⟨0, 0, 0⟩ : V3) 1 0 = true := by decide
theorem fYE1 : wiE (⟨0, 0, 0⟩ : V3) (⟨0, 0, 0⟩ : V3) (⟨0, 0, 0⟩ : V3) (⟨0, 0, 0⟩ : V3) 1 0 = 0 := by decide
theorem exy1 (w : World) : Calls Try.prog 19 #[.agg #[.int .i64 0, .int .i64 0, .int .i64 0, .int .i64 0, .int .i64 0, .int .i64 0, .int .i64 0, .int .i64 0, .int .i64 0, .int .i64 0, .int .i64 0, .int .i64 0], .int .i64 1, .int .i64 0, .bool true] w fun e w' => e = .returned (.bool true) ∧ Below w.heap.size w w' := by
  have H := win19 (⟨0, 0, 0⟩ : V3) (⟨0, 0, 0⟩ : V3) (⟨0, 0, 0⟩ : V3) (⟨0, 0, 0⟩ : V3) 1 0 true w
  rw [fYB1, fYE1] at H
  exact H
theorem exa3 (w : World) : Calls Try.prog 3 #[.agg #[.int .i64 (-8192), .int .i64 (-8192), .int .i64 (-1000), .int .i64 8192, .int .i64 8192, .int .i64 50000, .int .i64 64, .int .i64 64, .int .i64 100, .int .i64 (-64), .int .i64 (-64), .int .i64 (-100)], .int .i64 32768, .int .i64 3600] w fun e w' => e = .returned (.bool true) ∧ Below w.heap.size w w' := approach3 (⟨-8192, -8192, -1000⟩ : V3) (⟨8192, 8192, 50000⟩ : V3) (⟨64, 64, 100⟩ : V3) (⟨-64, -64, -100⟩ : V3) 32768 3600 w
theorem exa4 (w : World) : Calls Try.prog 3 #[.agg #[.int .i64 (-8192), .int .i64 (-8192), .int .i64 (-1000), .int .i64 8192, .int .i64 8192, .int .i64 50000, .int .i64 64, .int .i64 64, .int .i64 100, .int .i64 (-64), .int .i64 (-64), .int .i64 (-100)], .int .i64 1, .int .i64 128] w fun e w' => e = .returned (.bool true) ∧ Below w.heap.size w w' := approach3 (⟨-8192, -8192, -1000⟩ : V3) (⟨8192, 8192, 50000⟩ : V3) (⟨64, 64, 100⟩ : V3) (⟨-64, -64, -100⟩ : V3) 1 128 w
theorem exc (w : World) : Calls Try.prog 12 #[.agg #[.int .i64 (-8192), .int .i64 (-8192), .int .i64 (-1000)], .agg #[.int .i64 8192, .int .i64 8192, .int .i64 50000], .agg #[.int .i64 64, .int .i64 64, .int .i64 100], .agg #[.int .i64 (-64), .int .i64 (-64), .int .i64 (-100)]] w fun e w' => e = .returned (.tuple #[.int .i64 (coN (⟨-8192, -8192, -1000⟩ : V3) (⟨8192, 8192, 50000⟩ : V3) (⟨64, 64, 100⟩ : V3) (⟨-64, -64, -100⟩ : V3)), .int .i64 (coD (⟨-8192, -8192, -1000⟩ : V3) (⟨8192, 8192, 50000⟩ : V3) (⟨64, 64, 100⟩ : V3) (⟨-64, -64, -100⟩ : V3)), .int .i64 0]) ∧ Below w.heap.size w w' := by
  have H := closest12 (⟨-8192, -8192, -1000⟩ : V3) (⟨8192, 8192, 50000⟩ : V3) (⟨64, 64, 100⟩ : V3) (⟨-64, -64, -100⟩ : V3) w
  rw [fG0] at H
  exact H

set_option maxRecDepth 100000 in
set_option maxHeartbeats 8000000 in
theorem examples9 (w : World) : Calls Try.prog 9 #[] w fun e w' => e = .returned (.bool true) ∧ Below w.heap.size w w' := by
  have hND := fN
  generalize HC : coN (⟨-8192, -8192, -1000⟩ : V3) (⟨8192, 8192, 50000⟩ : V3) (⟨64, 64, 100⟩ : V3) (⟨-64, -64, -100⟩ : V3) = N at hND
  generalize HD : coD (⟨-8192, -8192, -1000⟩ : V3) (⟨8192, 8192, 50000⟩ : V3) (⟨64, 64, 100⟩ : V3) (⟨-64, -64, -100⟩ : V3) = D at hND
  have TC := Lib.hid (fun w => exc w)
  rw [HC, HD] at TC
  clear HC HD
  obtain ⟨hN, hD⟩ := hND
  go_enter Try.func9, Try.ntmps9
  go_wp2_with fail
  refine (awake18 _).mono ?_
  rintro e w1 ⟨rfl, hb1⟩
  have hc1 := (bcell hb1).1
  have hf1 := (bcell hb1).2
  have hs1 := hb1.size
  try simp at hs1
  have B1 : Below w.heap.size w w1 := (Below.refl _ _).trans (hb1.mono (by first | omega | (simp; omega) | simp))
  go_wp2_with fail
  obtain ⟨X, hX⟩ : ∃ X, X = w1.alloc (.cells #[.int .i64 8193, .int .i64 0, .int .i64 0, .int .i64 (-8193), .int .i64 0, .int .i64 0, .int .i64 0, .int .i64 8193, .int .i64 0, .int .i64 0, .int .i64 (-8193), .int .i64 0, .int .i64 0, .int .i64 0, .int .i64 (-1001), .int .i64 0, .int .i64 0, .int .i64 50001] 23) := ⟨_, rfl⟩
  have k_0 : X.cell? ⟨w1.heap.size, 0, none⟩ = some (.int .i64 8193) := by rw [hX]; go_simp
  have k_1 : X.cell? ⟨w1.heap.size, 1, none⟩ = some (.int .i64 0) := by rw [hX]; go_simp
  have k_2 : X.cell? ⟨w1.heap.size, 2, none⟩ = some (.int .i64 0) := by rw [hX]; go_simp
  have k_3 : X.cell? ⟨w1.heap.size, 3, none⟩ = some (.int .i64 (-8193)) := by rw [hX]; go_simp
  have k_4 : X.cell? ⟨w1.heap.size, 4, none⟩ = some (.int .i64 0) := by rw [hX]; go_simp
  have k_5 : X.cell? ⟨w1.heap.size, 5, none⟩ = some (.int .i64 0) := by rw [hX]; go_simp
  have k_6 : X.cell? ⟨w1.heap.size, 6, none⟩ = some (.int .i64 0) := by rw [hX]; go_simp
  have k_7 : X.cell? ⟨w1.heap.size, 7, none⟩ = some (.int .i64 8193) := by rw [hX]; go_simp
  have k_8 : X.cell? ⟨w1.heap.size, 8, none⟩ = some (.int .i64 0) := by rw [hX]; go_simp
  have k_9 : X.cell? ⟨w1.heap.size, 9, none⟩ = some (.int .i64 0) := by rw [hX]; go_simp
  have k_10 : X.cell? ⟨w1.heap.size, 10, none⟩ = some (.int .i64 (-8193)) := by rw [hX]; go_simp
  have k_11 : X.cell? ⟨w1.heap.size, 11, none⟩ = some (.int .i64 0) := by rw [hX]; go_simp
  have k_12 : X.cell? ⟨w1.heap.size, 12, none⟩ = some (.int .i64 0) := by rw [hX]; go_simp
  have k_13 : X.cell? ⟨w1.heap.size, 13, none⟩ = some (.int .i64 0) := by rw [hX]; go_simp
  have k_14 : X.cell? ⟨w1.heap.size, 14, none⟩ = some (.int .i64 (-1001)) := by rw [hX]; go_simp
  have k_15 : X.cell? ⟨w1.heap.size, 15, none⟩ = some (.int .i64 0) := by rw [hX]; go_simp
  have k_16 : X.cell? ⟨w1.heap.size, 16, none⟩ = some (.int .i64 0) := by rw [hX]; go_simp
  have k_17 : X.cell? ⟨w1.heap.size, 17, none⟩ = some (.int .i64 50001) := by rw [hX]; go_simp
  have zX : w1.heap.size < X.heap.size := by rw [hX]; simp
  have BX : Below w.heap.size w X := by rw [hX]; exact B1.alloc hs1 _
  rw [← hX]
  clear hX
  obtain ⟨g, hg⟩ : ∃ g, g = w1.heap.size := ⟨_, rfl⟩
  rw [← hg] at k_0 k_1 k_2 k_3 k_4 k_5 k_6 k_7 k_8 k_9 k_10 k_11 k_12 k_13 k_14 k_15 k_16 k_17 zX ⊢
  clear hg
  go_loopw [0, 48] (fun r i wr => ∃ k : Nat, k ≤ 6 ∧ r = .bool false ∧ i = .int .i64 k ∧ Below X.heap.size X wr) (fun _ i _ => 6 - (intOf i).toNat)
  case atStart => exact ⟨0, by omega, rfl, rfl, Below.refl _ _⟩
  case round =>
    obtain ⟨k, hk, rfl, rfl, hB⟩ := hrel
    have hBs := hB.size
    have zr : g < wr.heap.size := by omega
    have BR : Below w.heap.size w wr := BX.trans (hB.mono BX.size)
    have BRs : w.heap.size ≤ wr.heap.size := BR.size
    replace k_0 := (hB.cell (p := ⟨g, 0, none⟩) zX).trans k_0
    replace k_1 := (hB.cell (p := ⟨g, 1, none⟩) zX).trans k_1
    replace k_2 := (hB.cell (p := ⟨g, 2, none⟩) zX).trans k_2
    replace k_3 := (hB.cell (p := ⟨g, 3, none⟩) zX).trans k_3
    replace k_4 := (hB.cell (p := ⟨g, 4, none⟩) zX).trans k_4
    replace k_5 := (hB.cell (p := ⟨g, 5, none⟩) zX).trans k_5
    replace k_6 := (hB.cell (p := ⟨g, 6, none⟩) zX).trans k_6
    replace k_7 := (hB.cell (p := ⟨g, 7, none⟩) zX).trans k_7
    replace k_8 := (hB.cell (p := ⟨g, 8, none⟩) zX).trans k_8
    replace k_9 := (hB.cell (p := ⟨g, 9, none⟩) zX).trans k_9
    replace k_10 := (hB.cell (p := ⟨g, 10, none⟩) zX).trans k_10
    replace k_11 := (hB.cell (p := ⟨g, 11, none⟩) zX).trans k_11
    replace k_12 := (hB.cell (p := ⟨g, 12, none⟩) zX).trans k_12
    replace k_13 := (hB.cell (p := ⟨g, 13, none⟩) zX).trans k_13
    replace k_14 := (hB.cell (p := ⟨g, 14, none⟩) zX).trans k_14
    replace k_15 := (hB.cell (p := ⟨g, 15, none⟩) zX).trans k_15
    replace k_16 := (hB.cell (p := ⟨g, 16, none⟩) zX).trans k_16
    replace k_17 := (hB.cell (p := ⟨g, 17, none⟩) zX).trans k_17
    rcases (by omega : k = 0 ∨ k = 1 ∨ k = 2 ∨ k = 3 ∨ k = 4 ∨ k = 5 ∨ k = 6) with rfl | rfl | rfl | rfl | rfl | rfl | rfl
    · have HB := Lib.hid hB
      clear hB k_3 k_4 k_5 k_6 k_7 k_8 k_9 k_10 k_11 k_12 k_13 k_14 k_15 k_16 k_17
      go_wp2_with fail
      refine (exS (⟨8193, 0, 0⟩ : V3) (by decide) _).mono ?_
      rintro e w20 ⟨rfl, hb20⟩
      have hc20 := (bcell hb20).1
      have hf20 := (bcell hb20).2
      have hs20 := hb20.size
      try simp at hs20
      have hz20_0 : g < w20.heap.size := by omega
      have hz20_1 : wr.heap.size < w20.heap.size := by omega
      go_wp2_with fail
      refine (exM (⟨8193, 0, 0⟩ : V3) (by decide) _).mono ?_
      rintro e w21 ⟨rfl, hb21⟩
      have hc21 := (bcell hb21).1
      have hf21 := (bcell hb21).2
      have hs21 := hb21.size
      try simp at hs21
      have hz21_0 : g < w21.heap.size := by omega
      have hz21_1 : wr.heap.size < w21.heap.size := by omega
      go_wp2_with fail
      refine (exC (⟨8193, 0, 0⟩ : V3) (by decide) _).mono ?_
      rintro e w22 ⟨rfl, hb22⟩
      have hc22 := (bcell hb22).1
      have hf22 := (bcell hb22).2
      have hs22 := hb22.size
      try simp at hs22
      have hz22_0 : g < w22.heap.size := by omega
      have hz22_1 : wr.heap.size < w22.heap.size := by omega
      go_wp2_with fail
      exact ⟨⟨1, by omega, rfl, rfl, HB.out.trans ((((((Below.refl X.heap.size wr).alloc hBs _).trans (hb20.mono (by first | omega | (simp; omega) | simp))).trans (hb21.mono (by first | omega | (simp; omega) | simp))).alloc (by first | omega | (simp; omega) | simp) _).trans (hb22.mono (by first | omega | (simp; omega) | simp)))⟩, by simp [intOf]⟩
    · have HB := Lib.hid hB
      clear hB k_0 k_1 k_2 k_6 k_7 k_8 k_9 k_10 k_11 k_12 k_13 k_14 k_15 k_16 k_17
      go_wp2_with fail
      refine (exS (⟨-8193, 0, 0⟩ : V3) (by decide) _).mono ?_
      rintro e w20 ⟨rfl, hb20⟩
      have hc20 := (bcell hb20).1
      have hf20 := (bcell hb20).2
      have hs20 := hb20.size
      try simp at hs20
      have hz20_0 : g < w20.heap.size := by omega
      have hz20_1 : wr.heap.size < w20.heap.size := by omega
      go_wp2_with fail
      refine (exM (⟨-8193, 0, 0⟩ : V3) (by decide) _).mono ?_
      rintro e w21 ⟨rfl, hb21⟩
      have hc21 := (bcell hb21).1
      have hf21 := (bcell hb21).2
      have hs21 := hb21.size
      try simp at hs21
      have hz21_0 : g < w21.heap.size := by omega
      have hz21_1 : wr.heap.size < w21.heap.size := by omega
      go_wp2_with fail
      refine (exC (⟨-8193, 0, 0⟩ : V3) (by decide) _).mono ?_
      rintro e w22 ⟨rfl, hb22⟩
      have hc22 := (bcell hb22).1
      have hf22 := (bcell hb22).2
      have hs22 := hb22.size
      try simp at hs22
      have hz22_0 : g < w22.heap.size := by omega
      have hz22_1 : wr.heap.size < w22.heap.size := by omega
      go_wp2_with fail
      exact ⟨⟨2, by omega, rfl, rfl, HB.out.trans ((((((Below.refl X.heap.size wr).alloc hBs _).trans (hb20.mono (by first | omega | (simp; omega) | simp))).trans (hb21.mono (by first | omega | (simp; omega) | simp))).alloc (by first | omega | (simp; omega) | simp) _).trans (hb22.mono (by first | omega | (simp; omega) | simp)))⟩, by simp [intOf]⟩
    · have HB := Lib.hid hB
      clear hB k_0 k_1 k_2 k_3 k_4 k_5 k_9 k_10 k_11 k_12 k_13 k_14 k_15 k_16 k_17
      go_wp2_with fail
      refine (exS (⟨0, 8193, 0⟩ : V3) (by decide) _).mono ?_
      rintro e w20 ⟨rfl, hb20⟩
      have hc20 := (bcell hb20).1
      have hf20 := (bcell hb20).2
      have hs20 := hb20.size
      try simp at hs20
      have hz20_0 : g < w20.heap.size := by omega
      have hz20_1 : wr.heap.size < w20.heap.size := by omega
      go_wp2_with fail
      refine (exM (⟨0, 8193, 0⟩ : V3) (by decide) _).mono ?_
      rintro e w21 ⟨rfl, hb21⟩
      have hc21 := (bcell hb21).1
      have hf21 := (bcell hb21).2
      have hs21 := hb21.size
      try simp at hs21
      have hz21_0 : g < w21.heap.size := by omega
      have hz21_1 : wr.heap.size < w21.heap.size := by omega
      go_wp2_with fail
      refine (exC (⟨0, 8193, 0⟩ : V3) (by decide) _).mono ?_
      rintro e w22 ⟨rfl, hb22⟩
      have hc22 := (bcell hb22).1
      have hf22 := (bcell hb22).2
      have hs22 := hb22.size
      try simp at hs22
      have hz22_0 : g < w22.heap.size := by omega
      have hz22_1 : wr.heap.size < w22.heap.size := by omega
      go_wp2_with fail
      exact ⟨⟨3, by omega, rfl, rfl, HB.out.trans ((((((Below.refl X.heap.size wr).alloc hBs _).trans (hb20.mono (by first | omega | (simp; omega) | simp))).trans (hb21.mono (by first | omega | (simp; omega) | simp))).alloc (by first | omega | (simp; omega) | simp) _).trans (hb22.mono (by first | omega | (simp; omega) | simp)))⟩, by simp [intOf]⟩
    · have HB := Lib.hid hB
      clear hB k_0 k_1 k_2 k_3 k_4 k_5 k_6 k_7 k_8 k_12 k_13 k_14 k_15 k_16 k_17
      go_wp2_with fail
      refine (exS (⟨0, -8193, 0⟩ : V3) (by decide) _).mono ?_
      rintro e w20 ⟨rfl, hb20⟩
      have hc20 := (bcell hb20).1
      have hf20 := (bcell hb20).2
      have hs20 := hb20.size
      try simp at hs20
      have hz20_0 : g < w20.heap.size := by omega
      have hz20_1 : wr.heap.size < w20.heap.size := by omega
      go_wp2_with fail
      refine (exM (⟨0, -8193, 0⟩ : V3) (by decide) _).mono ?_
      rintro e w21 ⟨rfl, hb21⟩
      have hc21 := (bcell hb21).1
      have hf21 := (bcell hb21).2
      have hs21 := hb21.size
      try simp at hs21
      have hz21_0 : g < w21.heap.size := by omega
      have hz21_1 : wr.heap.size < w21.heap.size := by omega
      go_wp2_with fail
      refine (exC (⟨0, -8193, 0⟩ : V3) (by decide) _).mono ?_
      rintro e w22 ⟨rfl, hb22⟩
      have hc22 := (bcell hb22).1
      have hf22 := (bcell hb22).2
      have hs22 := hb22.size
      try simp at hs22
      have hz22_0 : g < w22.heap.size := by omega
      have hz22_1 : wr.heap.size < w22.heap.size := by omega
      go_wp2_with fail
      exact ⟨⟨4, by omega, rfl, rfl, HB.out.trans ((((((Below.refl X.heap.size wr).alloc hBs _).trans (hb20.mono (by first | omega | (simp; omega) | simp))).trans (hb21.mono (by first | omega | (simp; omega) | simp))).alloc (by first | omega | (simp; omega) | simp) _).trans (hb22.mono (by first | omega | (simp; omega) | simp)))⟩, by simp [intOf]⟩
    · have HB := Lib.hid hB
      clear hB k_0 k_1 k_2 k_3 k_4 k_5 k_6 k_7 k_8 k_9 k_10 k_11 k_15 k_16 k_17
      go_wp2_with fail
      refine (exS (⟨0, 0, -1001⟩ : V3) (by decide) _).mono ?_
      rintro e w20 ⟨rfl, hb20⟩
      have hc20 := (bcell hb20).1
      have hf20 := (bcell hb20).2
      have hs20 := hb20.size
      try simp at hs20
      have hz20_0 : g < w20.heap.size := by omega
      have hz20_1 : wr.heap.size < w20.heap.size := by omega
      go_wp2_with fail
      refine (exM (⟨0, 0, -1001⟩ : V3) (by decide) _).mono ?_
      rintro e w21 ⟨rfl, hb21⟩
      have hc21 := (bcell hb21).1
      have hf21 := (bcell hb21).2
      have hs21 := hb21.size
      try simp at hs21
      have hz21_0 : g < w21.heap.size := by omega
      have hz21_1 : wr.heap.size < w21.heap.size := by omega
      go_wp2_with fail
      refine (exC (⟨0, 0, -1001⟩ : V3) (by decide) _).mono ?_
      rintro e w22 ⟨rfl, hb22⟩
      have hc22 := (bcell hb22).1
      have hf22 := (bcell hb22).2
      have hs22 := hb22.size
      try simp at hs22
      have hz22_0 : g < w22.heap.size := by omega
      have hz22_1 : wr.heap.size < w22.heap.size := by omega
      go_wp2_with fail
      exact ⟨⟨5, by omega, rfl, rfl, HB.out.trans ((((((Below.refl X.heap.size wr).alloc hBs _).trans (hb20.mono (by first | omega | (simp; omega) | simp))).trans (hb21.mono (by first | omega | (simp; omega) | simp))).alloc (by first | omega | (simp; omega) | simp) _).trans (hb22.mono (by first | omega | (simp; omega) | simp)))⟩, by simp [intOf]⟩
    · have HB := Lib.hid hB
      clear hB k_0 k_1 k_2 k_3 k_4 k_5 k_6 k_7 k_8 k_9 k_10 k_11 k_12 k_13 k_14
      go_wp2_with fail
      refine (exS (⟨0, 0, 50001⟩ : V3) (by decide) _).mono ?_
      rintro e w20 ⟨rfl, hb20⟩
      have hc20 := (bcell hb20).1
      have hf20 := (bcell hb20).2
      have hs20 := hb20.size
      try simp at hs20
      have hz20_0 : g < w20.heap.size := by omega
      have hz20_1 : wr.heap.size < w20.heap.size := by omega
      go_wp2_with fail
      refine (exM (⟨0, 0, 50001⟩ : V3) (by decide) _).mono ?_
      rintro e w21 ⟨rfl, hb21⟩
      have hc21 := (bcell hb21).1
      have hf21 := (bcell hb21).2
      have hs21 := hb21.size
      try simp at hs21
      have hz21_0 : g < w21.heap.size := by omega
      have hz21_1 : wr.heap.size < w21.heap.size := by omega
      go_wp2_with fail
      refine (exC (⟨0, 0, 50001⟩ : V3) (by decide) _).mono ?_
      rintro e w22 ⟨rfl, hb22⟩
      have hc22 := (bcell hb22).1
      have hf22 := (bcell hb22).2
      have hs22 := hb22.size
      try simp at hs22
      have hz22_0 : g < w22.heap.size := by omega
      have hz22_1 : wr.heap.size < w22.heap.size := by omega
      go_wp2_with fail
      exact ⟨⟨6, by omega, rfl, rfl, HB.out.trans ((((((Below.refl X.heap.size wr).alloc hBs _).trans (hb20.mono (by first | omega | (simp; omega) | simp))).trans (hb21.mono (by first | omega | (simp; omega) | simp))).alloc (by first | omega | (simp; omega) | simp) _).trans (hb22.mono (by first | omega | (simp; omega) | simp)))⟩, by simp [intOf]⟩
    · obtain ⟨wo, rfl⟩ : ∃ wo : World, wo = wr := ⟨_, rfl⟩
      clear k_0 k_1 k_2 k_3 k_4 k_5 k_6 k_7 k_8 k_9 k_10 k_11 k_12 k_13 k_14 k_15 k_16 k_17
      go_wp2_with fail
      obtain ⟨Y, hY⟩ : ∃ Y, Y = wo.alloc (.cells #[.int .i64 65, .int .i64 0, .int .i64 0, .int .i64 (-65), .int .i64 0, .int .i64 0, .int .i64 0, .int .i64 65, .int .i64 0, .int .i64 0, .int .i64 (-65), .int .i64 0, .int .i64 0, .int .i64 0, .int .i64 101, .int .i64 0, .int .i64 0, .int .i64 (-101)] 24) := ⟨_, rfl⟩
      have l_0 : Y.cell? ⟨wo.heap.size, 0, none⟩ = some (.int .i64 65) := by rw [hY]; go_simp
      have l_1 : Y.cell? ⟨wo.heap.size, 1, none⟩ = some (.int .i64 0) := by rw [hY]; go_simp
      have l_2 : Y.cell? ⟨wo.heap.size, 2, none⟩ = some (.int .i64 0) := by rw [hY]; go_simp
      have l_3 : Y.cell? ⟨wo.heap.size, 3, none⟩ = some (.int .i64 (-65)) := by rw [hY]; go_simp
      have l_4 : Y.cell? ⟨wo.heap.size, 4, none⟩ = some (.int .i64 0) := by rw [hY]; go_simp
      have l_5 : Y.cell? ⟨wo.heap.size, 5, none⟩ = some (.int .i64 0) := by rw [hY]; go_simp
      have l_6 : Y.cell? ⟨wo.heap.size, 6, none⟩ = some (.int .i64 0) := by rw [hY]; go_simp
      have l_7 : Y.cell? ⟨wo.heap.size, 7, none⟩ = some (.int .i64 65) := by rw [hY]; go_simp
      have l_8 : Y.cell? ⟨wo.heap.size, 8, none⟩ = some (.int .i64 0) := by rw [hY]; go_simp
      have l_9 : Y.cell? ⟨wo.heap.size, 9, none⟩ = some (.int .i64 0) := by rw [hY]; go_simp
      have l_10 : Y.cell? ⟨wo.heap.size, 10, none⟩ = some (.int .i64 (-65)) := by rw [hY]; go_simp
      have l_11 : Y.cell? ⟨wo.heap.size, 11, none⟩ = some (.int .i64 0) := by rw [hY]; go_simp
      have l_12 : Y.cell? ⟨wo.heap.size, 12, none⟩ = some (.int .i64 0) := by rw [hY]; go_simp
      have l_13 : Y.cell? ⟨wo.heap.size, 13, none⟩ = some (.int .i64 0) := by rw [hY]; go_simp
      have l_14 : Y.cell? ⟨wo.heap.size, 14, none⟩ = some (.int .i64 101) := by rw [hY]; go_simp
      have l_15 : Y.cell? ⟨wo.heap.size, 15, none⟩ = some (.int .i64 0) := by rw [hY]; go_simp
      have l_16 : Y.cell? ⟨wo.heap.size, 16, none⟩ = some (.int .i64 0) := by rw [hY]; go_simp
      have l_17 : Y.cell? ⟨wo.heap.size, 17, none⟩ = some (.int .i64 (-101)) := by rw [hY]; go_simp
      have zY : wo.heap.size < Y.heap.size := by rw [hY]; simp
      have BY : Below w.heap.size w Y := by rw [hY]; exact BR.alloc (by omega) _
      rw [← hY]
      clear hY
      obtain ⟨g2, hg2⟩ : ∃ g, g = wo.heap.size := ⟨_, rfl⟩
      rw [← hg2] at l_0 l_1 l_2 l_3 l_4 l_5 l_6 l_7 l_8 l_9 l_10 l_11 l_12 l_13 l_14 l_15 l_16 l_17 zY ⊢
      clear hg2
      go_loopw [0, 84] (fun r i wr => ∃ k : Nat, k ≤ 6 ∧ r = .bool false ∧ i = .int .i64 k ∧ Below Y.heap.size Y wr) (fun _ i _ => 6 - (intOf i).toNat)
      case atStart => exact ⟨0, by omega, rfl, rfl, Below.refl _ _⟩
      case round =>
        obtain ⟨k, hk, rfl, rfl, hB⟩ := hrel
        have hBs := hB.size
        have zr : g2 < wr.heap.size := by omega
        have BR : Below w.heap.size w wr := BY.trans (hB.mono BY.size)
        have BRs : w.heap.size ≤ wr.heap.size := BR.size
        replace l_0 := (hB.cell (p := ⟨g2, 0, none⟩) zY).trans l_0
        replace l_1 := (hB.cell (p := ⟨g2, 1, none⟩) zY).trans l_1
        replace l_2 := (hB.cell (p := ⟨g2, 2, none⟩) zY).trans l_2
        replace l_3 := (hB.cell (p := ⟨g2, 3, none⟩) zY).trans l_3
        replace l_4 := (hB.cell (p := ⟨g2, 4, none⟩) zY).trans l_4
        replace l_5 := (hB.cell (p := ⟨g2, 5, none⟩) zY).trans l_5
        replace l_6 := (hB.cell (p := ⟨g2, 6, none⟩) zY).trans l_6
        replace l_7 := (hB.cell (p := ⟨g2, 7, none⟩) zY).trans l_7
        replace l_8 := (hB.cell (p := ⟨g2, 8, none⟩) zY).trans l_8
        replace l_9 := (hB.cell (p := ⟨g2, 9, none⟩) zY).trans l_9
        replace l_10 := (hB.cell (p := ⟨g2, 10, none⟩) zY).trans l_10
        replace l_11 := (hB.cell (p := ⟨g2, 11, none⟩) zY).trans l_11
        replace l_12 := (hB.cell (p := ⟨g2, 12, none⟩) zY).trans l_12
        replace l_13 := (hB.cell (p := ⟨g2, 13, none⟩) zY).trans l_13
        replace l_14 := (hB.cell (p := ⟨g2, 14, none⟩) zY).trans l_14
        replace l_15 := (hB.cell (p := ⟨g2, 15, none⟩) zY).trans l_15
        replace l_16 := (hB.cell (p := ⟨g2, 16, none⟩) zY).trans l_16
        replace l_17 := (hB.cell (p := ⟨g2, 17, none⟩) zY).trans l_17
        rcases (by omega : k = 0 ∨ k = 1 ∨ k = 2 ∨ k = 3 ∨ k = 4 ∨ k = 5 ∨ k = 6) with rfl | rfl | rfl | rfl | rfl | rfl | rfl
        · have HB := Lib.hid hB
          clear hB l_3 l_4 l_5 l_6 l_7 l_8 l_9 l_10 l_11 l_12 l_13 l_14 l_15 l_16 l_17
          go_wp2_with fail
          refine (exI (⟨65, 0, 0⟩ : V3) (by decide) _).mono ?_
          rintro e w20 ⟨rfl, hb20⟩
          have hc20 := (bcell hb20).1
          have hf20 := (bcell hb20).2
          have hs20 := hb20.size
          try simp at hs20
          have hz20_0 : g2 < w20.heap.size := by omega
          have hz20_1 : wr.heap.size < w20.heap.size := by omega
          go_wp2_with fail
          refine (exV (⟨65, 0, 0⟩ : V3) (by decide) _).mono ?_
          rintro e w21 ⟨rfl, hb21⟩
          have hc21 := (bcell hb21).1
          have hf21 := (bcell hb21).2
          have hs21 := hb21.size
          try simp at hs21
          have hz21_0 : g2 < w21.heap.size := by omega
          have hz21_1 : wr.heap.size < w21.heap.size := by omega
          go_wp2_with fail
          refine ⟨?_, by simp [intOf]⟩
          (repeat apply Exists.intro)
          exact ⟨⟨1, by omega, rfl, rfl, HB.out.trans (((((Below.refl Y.heap.size wr).alloc hBs _).trans (hb20.mono (by first | omega | (simp; omega) | simp))).trans (hb21.mono (by first | omega | (simp; omega) | simp))))⟩, rfl⟩
        · have HB := Lib.hid hB
          clear hB l_0 l_1 l_2 l_6 l_7 l_8 l_9 l_10 l_11 l_12 l_13 l_14 l_15 l_16 l_17
          go_wp2_with fail
          refine (exI (⟨-65, 0, 0⟩ : V3) (by decide) _).mono ?_
          rintro e w20 ⟨rfl, hb20⟩
          have hc20 := (bcell hb20).1
          have hf20 := (bcell hb20).2
          have hs20 := hb20.size
          try simp at hs20
          have hz20_0 : g2 < w20.heap.size := by omega
          have hz20_1 : wr.heap.size < w20.heap.size := by omega
          go_wp2_with fail
          refine (exV (⟨-65, 0, 0⟩ : V3) (by decide) _).mono ?_
          rintro e w21 ⟨rfl, hb21⟩
          have hc21 := (bcell hb21).1
          have hf21 := (bcell hb21).2
          have hs21 := hb21.size
          try simp at hs21
          have hz21_0 : g2 < w21.heap.size := by omega
          have hz21_1 : wr.heap.size < w21.heap.size := by omega
          go_wp2_with fail
          refine ⟨?_, by simp [intOf]⟩
          (repeat apply Exists.intro)
          exact ⟨⟨2, by omega, rfl, rfl, HB.out.trans (((((Below.refl Y.heap.size wr).alloc hBs _).trans (hb20.mono (by first | omega | (simp; omega) | simp))).trans (hb21.mono (by first | omega | (simp; omega) | simp))))⟩, rfl⟩
        · have HB := Lib.hid hB
          clear hB l_0 l_1 l_2 l_3 l_4 l_5 l_9 l_10 l_11 l_12 l_13 l_14 l_15 l_16 l_17
          go_wp2_with fail
          refine (exI (⟨0, 65, 0⟩ : V3) (by decide) _).mono ?_
          rintro e w20 ⟨rfl, hb20⟩
          have hc20 := (bcell hb20).1
          have hf20 := (bcell hb20).2
          have hs20 := hb20.size
          try simp at hs20
          have hz20_0 : g2 < w20.heap.size := by omega
          have hz20_1 : wr.heap.size < w20.heap.size := by omega
          go_wp2_with fail
          refine (exV (⟨0, 65, 0⟩ : V3) (by decide) _).mono ?_
          rintro e w21 ⟨rfl, hb21⟩
          have hc21 := (bcell hb21).1
          have hf21 := (bcell hb21).2
          have hs21 := hb21.size
          try simp at hs21
          have hz21_0 : g2 < w21.heap.size := by omega
          have hz21_1 : wr.heap.size < w21.heap.size := by omega
          go_wp2_with fail
          refine ⟨?_, by simp [intOf]⟩
          (repeat apply Exists.intro)
          exact ⟨⟨3, by omega, rfl, rfl, HB.out.trans (((((Below.refl Y.heap.size wr).alloc hBs _).trans (hb20.mono (by first | omega | (simp; omega) | simp))).trans (hb21.mono (by first | omega | (simp; omega) | simp))))⟩, rfl⟩
        · have HB := Lib.hid hB
          clear hB l_0 l_1 l_2 l_3 l_4 l_5 l_6 l_7 l_8 l_12 l_13 l_14 l_15 l_16 l_17
          go_wp2_with fail
          refine (exI (⟨0, -65, 0⟩ : V3) (by decide) _).mono ?_
          rintro e w20 ⟨rfl, hb20⟩
          have hc20 := (bcell hb20).1
          have hf20 := (bcell hb20).2
          have hs20 := hb20.size
          try simp at hs20
          have hz20_0 : g2 < w20.heap.size := by omega
          have hz20_1 : wr.heap.size < w20.heap.size := by omega
          go_wp2_with fail
          refine (exV (⟨0, -65, 0⟩ : V3) (by decide) _).mono ?_
          rintro e w21 ⟨rfl, hb21⟩
          have hc21 := (bcell hb21).1
          have hf21 := (bcell hb21).2
          have hs21 := hb21.size
          try simp at hs21
          have hz21_0 : g2 < w21.heap.size := by omega
          have hz21_1 : wr.heap.size < w21.heap.size := by omega
          go_wp2_with fail
          refine ⟨?_, by simp [intOf]⟩
          (repeat apply Exists.intro)
          exact ⟨⟨4, by omega, rfl, rfl, HB.out.trans (((((Below.refl Y.heap.size wr).alloc hBs _).trans (hb20.mono (by first | omega | (simp; omega) | simp))).trans (hb21.mono (by first | omega | (simp; omega) | simp))))⟩, rfl⟩
        · have HB := Lib.hid hB
          clear hB l_0 l_1 l_2 l_3 l_4 l_5 l_6 l_7 l_8 l_9 l_10 l_11 l_15 l_16 l_17
          go_wp2_with fail
          refine (exI (⟨0, 0, 101⟩ : V3) (by decide) _).mono ?_
          rintro e w20 ⟨rfl, hb20⟩
          have hc20 := (bcell hb20).1
          have hf20 := (bcell hb20).2
          have hs20 := hb20.size
          try simp at hs20
          have hz20_0 : g2 < w20.heap.size := by omega
          have hz20_1 : wr.heap.size < w20.heap.size := by omega
          go_wp2_with fail
          refine (exV (⟨0, 0, 101⟩ : V3) (by decide) _).mono ?_
          rintro e w21 ⟨rfl, hb21⟩
          have hc21 := (bcell hb21).1
          have hf21 := (bcell hb21).2
          have hs21 := hb21.size
          try simp at hs21
          have hz21_0 : g2 < w21.heap.size := by omega
          have hz21_1 : wr.heap.size < w21.heap.size := by omega
          go_wp2_with fail
          refine ⟨?_, by simp [intOf]⟩
          (repeat apply Exists.intro)
          exact ⟨⟨5, by omega, rfl, rfl, HB.out.trans (((((Below.refl Y.heap.size wr).alloc hBs _).trans (hb20.mono (by first | omega | (simp; omega) | simp))).trans (hb21.mono (by first | omega | (simp; omega) | simp))))⟩, rfl⟩
        · have HB := Lib.hid hB
          clear hB l_0 l_1 l_2 l_3 l_4 l_5 l_6 l_7 l_8 l_9 l_10 l_11 l_12 l_13 l_14
          go_wp2_with fail
          refine (exI (⟨0, 0, -101⟩ : V3) (by decide) _).mono ?_
          rintro e w20 ⟨rfl, hb20⟩
          have hc20 := (bcell hb20).1
          have hf20 := (bcell hb20).2
          have hs20 := hb20.size
          try simp at hs20
          have hz20_0 : g2 < w20.heap.size := by omega
          have hz20_1 : wr.heap.size < w20.heap.size := by omega
          go_wp2_with fail
          refine (exV (⟨0, 0, -101⟩ : V3) (by decide) _).mono ?_
          rintro e w21 ⟨rfl, hb21⟩
          have hc21 := (bcell hb21).1
          have hf21 := (bcell hb21).2
          have hs21 := hb21.size
          try simp at hs21
          have hz21_0 : g2 < w21.heap.size := by omega
          have hz21_1 : wr.heap.size < w21.heap.size := by omega
          go_wp2_with fail
          refine ⟨?_, by simp [intOf]⟩
          (repeat apply Exists.intro)
          exact ⟨⟨6, by omega, rfl, rfl, HB.out.trans (((((Below.refl Y.heap.size wr).alloc hBs _).trans (hb20.mono (by first | omega | (simp; omega) | simp))).trans (hb21.mono (by first | omega | (simp; omega) | simp))))⟩, rfl⟩
        · go_wp2_with fail
          refine (exa1 _).mono ?_
          rintro e w30 ⟨rfl, hb30⟩
          have hc30 := (bcell hb30).1
          have hf30 := (bcell hb30).2
          have hs30 := hb30.size
          try simp at hs30
          have hz30_0 : wr.heap.size < w30.heap.size := by omega
          have B30 : Below w.heap.size w w30 := (BR.alloc (by omega) _).trans (hb30.mono (by first | omega | (simp; omega) | simp))
          go_wp2_with fail
          refine (TC.out _).mono ?_
          rintro e w31 ⟨rfl, hb31⟩
          have hc31 := (bcell hb31).1
          have hf31 := (bcell hb31).2
          have hs31 := hb31.size
          try simp at hs31
          have hz31_0 : wr.heap.size < w31.heap.size := by omega
          have B31 : Below w.heap.size w w31 := (B30).trans (hb31.mono (by first | omega | (simp; omega) | simp))
          go_wp2_with fail
          refine (exw0 _).mono ?_
          rintro e w32 ⟨rfl, hb32⟩
          have hc32 := (bcell hb32).1
          have hf32 := (bcell hb32).2
          have hs32 := hb32.size
          try simp at hs32
          have hz32_0 : wr.heap.size < w32.heap.size := by omega
          have B32 : Below w.heap.size w w32 := (B31).trans (hb32.mono (by first | omega | (simp; omega) | simp))
          go_wp2_with fail
          refine (exw1 _).mono ?_
          rintro e w33 ⟨rfl, hb33⟩
          have hc33 := (bcell hb33).1
          have hf33 := (bcell hb33).2
          have hs33 := hb33.size
          try simp at hs33
          have hz33_0 : wr.heap.size < w33.heap.size := by omega
          have B33 : Below w.heap.size w w33 := (B32).trans (hb33.mono (by first | omega | (simp; omega) | simp))
          go_wp2_with fail
          refine (exw2 _).mono ?_
          rintro e w34 ⟨rfl, hb34⟩
          have hc34 := (bcell hb34).1
          have hf34 := (bcell hb34).2
          have hs34 := hb34.size
          try simp at hs34
          have hz34_0 : wr.heap.size < w34.heap.size := by omega
          have B34 : Below w.heap.size w w34 := (B33).trans (hb34.mono (by first | omega | (simp; omega) | simp))
          go_wp2_with fail
          refine (exw3 _).mono ?_
          rintro e w35 ⟨rfl, hb35⟩
          have hc35 := (bcell hb35).1
          have hf35 := (bcell hb35).2
          have hs35 := hb35.size
          try simp at hs35
          have hz35_0 : wr.heap.size < w35.heap.size := by omega
          have B35 : Below w.heap.size w w35 := (B34).trans (hb35.mono (by first | omega | (simp; omega) | simp))
          go_wp2_with fail
          refine (exm0 _).mono ?_
          rintro e w36 ⟨rfl, hb36⟩
          have hc36 := (bcell hb36).1
          have hf36 := (bcell hb36).2
          have hs36 := hb36.size
          try simp at hs36
          have hz36_0 : wr.heap.size < w36.heap.size := by omega
          have B36 : Below w.heap.size w w36 := (B35).trans (hb36.mono (by first | omega | (simp; omega) | simp))
          go_wp2_with fail
          refine (exm1 _).mono ?_
          rintro e w37 ⟨rfl, hb37⟩
          have hc37 := (bcell hb37).1
          have hf37 := (bcell hb37).2
          have hs37 := hb37.size
          try simp at hs37
          have hz37_0 : wr.heap.size < w37.heap.size := by omega
          have hz37_1 : w36.heap.size < w37.heap.size := by omega
          have B37 : Below w.heap.size w w37 := (B36.alloc (by first | omega | (simp; omega) | simp) _).trans (hb37.mono (by first | omega | (simp; omega) | simp))
          go_wp2_with fail
          refine (exm2 _).mono ?_
          rintro e w38 ⟨rfl, hb38⟩
          have hc38 := (bcell hb38).1
          have hf38 := (bcell hb38).2
          have hs38 := hb38.size
          try simp at hs38
          have hz38_0 : wr.heap.size < w38.heap.size := by omega
          have hz38_1 : w36.heap.size < w38.heap.size := by omega
          have hz38_2 : w37.heap.size < w38.heap.size := by omega
          have B38 : Below w.heap.size w w38 := (B37.alloc (by first | omega | (simp; omega) | simp) _).trans (hb38.mono (by first | omega | (simp; omega) | simp))
          go_wp2_with fail
          refine (exz _).mono ?_
          rintro e w39 ⟨rfl, hb39⟩
          have hc39 := (bcell hb39).1
          have hf39 := (bcell hb39).2
          have hs39 := hb39.size
          try simp at hs39
          have hz39_0 : wr.heap.size < w39.heap.size := by omega
          have hz39_1 : w36.heap.size < w39.heap.size := by omega
          have hz39_2 : w37.heap.size < w39.heap.size := by omega
          have hz39_3 : w38.heap.size < w39.heap.size := by omega
          have B39 : Below w.heap.size w w39 := (B38.alloc (by first | omega | (simp; omega) | simp) _).trans (hb39.mono (by first | omega | (simp; omega) | simp))
          go_wp2_with fail
          refine (exa3 _).mono ?_
          rintro e w40 ⟨rfl, hb40⟩
          have hc40 := (bcell hb40).1
          have hf40 := (bcell hb40).2
          have hs40 := hb40.size
          try simp at hs40
          have hz40_0 : wr.heap.size < w40.heap.size := by omega
          have hz40_1 : w36.heap.size < w40.heap.size := by omega
          have hz40_2 : w37.heap.size < w40.heap.size := by omega
          have hz40_3 : w38.heap.size < w40.heap.size := by omega
          have B40 : Below w.heap.size w w40 := (B39).trans (hb40.mono (by first | omega | (simp; omega) | simp))
          go_wp2_with fail
          refine (exa4 _).mono ?_
          rintro e w41 ⟨rfl, hb41⟩
          have hc41 := (bcell hb41).1
          have hf41 := (bcell hb41).2
          have hs41 := hb41.size
          try simp at hs41
          have hz41_0 : wr.heap.size < w41.heap.size := by omega
          have hz41_1 : w36.heap.size < w41.heap.size := by omega
          have hz41_2 : w37.heap.size < w41.heap.size := by omega
          have hz41_3 : w38.heap.size < w41.heap.size := by omega
          have B41 : Below w.heap.size w w41 := (B40).trans (hb41.mono (by first | omega | (simp; omega) | simp))
          go_wp2_with fail
          refine (exy0 _).mono ?_
          rintro e w42 ⟨rfl, hb42⟩
          have hc42 := (bcell hb42).1
          have hf42 := (bcell hb42).2
          have hs42 := hb42.size
          try simp at hs42
          have hz42_0 : wr.heap.size < w42.heap.size := by omega
          have hz42_1 : w36.heap.size < w42.heap.size := by omega
          have hz42_2 : w37.heap.size < w42.heap.size := by omega
          have hz42_3 : w38.heap.size < w42.heap.size := by omega
          have B42 : Below w.heap.size w w42 := (B41).trans (hb42.mono (by first | omega | (simp; omega) | simp))
          go_wp2_with fail
          refine (exy1 _).mono ?_
          rintro e w43 ⟨rfl, hb43⟩
          have hc43 := (bcell hb43).1
          have hf43 := (bcell hb43).2
          have hs43 := hb43.size
          try simp at hs43
          have hz43_0 : wr.heap.size < w43.heap.size := by omega
          have hz43_1 : w36.heap.size < w43.heap.size := by omega
          have hz43_2 : w37.heap.size < w43.heap.size := by omega
          have hz43_3 : w38.heap.size < w43.heap.size := by omega
          have B43 : Below w.heap.size w w43 := (B42).trans (hb43.mono (by first | omega | (simp; omega) | simp))
          go_wp2_with fail
          go_ret
          exact ⟨rfl, B43⟩

namespace geometryExamplesRow
open Go.ChangeShapes Go.WideShapes Go.ChangeAt Go.RowKit
open Go.ChangeMaps (open_string shut_string)
set_option linter.unusedVariables false
theorem own : ownKnob Try.prog.godebug = none := by kernel_rfl
theorem laidOut : laidOutB Try.prog = true := by kernel_rfl
set_option maxRecDepth 100000 in
theorem lifted (os : Os) (started : os.Started) (H : Type) (enc : TypeId × Value → H) :
    ReturnsInHanded {} Try.checked os 9 .any (Rows.geometryExamplesSpec.pre6 enc Try.prog Try.f9 Rows.geometryExamplesRow.domain false) (Rows.geometryExamplesSpec.post enc Try.prog Try.f9 false true false false) := by
  refine returnsInHanded_of_change (C := Try.checked) own started (by kernel_rfl) Try.func9
    (ChangeSpec.witness6 (enc := enc) (C := Try.checked) false ⟨#[], #[], []⟩ 8 (by kernel_rfl) (by kernel_rfl) (by kernel_rfl) (by kernel_rfl)) ?_
  intro W base args ds gs before hval0 hW hcnd _hsz
  have hval : ∀ (j : Nat) t v, Try.f9.params[j]? = some t → args[j]? = some v → Value.okWide Try.prog W .any base t v := hval0
  have hW' := hW
  obtain ⟨p, q, hA0, hV, rfl, hfz, hnd⟩ := hW
  have hA : DataW.TrodAll enc Try.prog W 0 (fun _ => true) true Try.f9.params.toList args.toList ds p := hA0
  obtain ⟨rfl, rfl, rfl⟩ := trodAll_none hA
  obtain ⟨rfl, rfl⟩ := trodVars_none hV
  clear hA0 hval0
  refine (examples9 W).mono fun e W' ⟨he, bel⟩ => ?_
  subst he
  exact ⟨_, rfl, _, _, _, [], _, [], hW', trodAll_mk1 (shut_bool Try.underlying4 _), trodAll_mk0, rfl, bel.frame _, fun h => by cases h⟩

theorem over : Rows.geometryExamplesRow.holds Try.pinned (OpenSpec.ofChange Rows.geometryExamplesSpec) :=
  OpenClaim.holds_of_wide 9 Try.f9 rfl rfl rfl rfl rfl rfl rfl ⟨rfl, rfl, rfl, rfl, rfl⟩ rfl rfl rfl rfl rfl (by kernel_rfl) Try.func9 (by kernel_rfl)
    (of_decide_eq_true (by kernel_rfl)) (by unfold Func.isWrapper; first | (rw [if_pos (by decide +kernel)]; kernel_rfl) | (rw [if_neg (by decide +kernel)]; exact ⟨rfl, rfl⟩))
    (fun os started H enc _ => lifted os started H enc)
theorem proved : Rows.GeometryExamplesSaid := over
end geometryExamplesRow
end Go.Proofs.Ytdflamblbhpngaa
