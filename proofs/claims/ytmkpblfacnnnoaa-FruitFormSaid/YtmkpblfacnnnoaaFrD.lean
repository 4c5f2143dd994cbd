/- Package fruit: Match. -/
import Derived.Test.YtmkpblfacnnnoaaRows
import Derived.WalkKit
import Derived.WalkLawsBesides
import Derived.WalkSpells
import Derived.ProofKit
import Derived.Below
import Derived.Outline
import Derived.Lib.Hide
import Derived.Deep.RegionWith
import Derived.Deep.RegionHeld3
import Derived.Deep.DrawnRows
import Derived.StillTailTactics
import Derived.BigQuiet
import Derived.Deep.QuietTactic
import Derived.Deep.LoopGhost
import Derived.IntWalk
import Derived.Test.YtmkpblfacnnnoaaFrC
namespace Go.Proofs.Ytmkpblfacnnnoaa
open Go.RowKit
attribute [local go_sem ↓] Go.wp_at_zero Go.wp_at_succ
attribute [local go_sem] wrap_lit

/-- The error of Match, and the matching. -/
def mtE (a b : List Int) (u : Int) : Int := if ckS a = 0 then (if ckS b = 0 then (if 0 ≤ u ∧ u ≤ 1024 then 0 else 1) else ckS b) else ckS a
def mtL (a b : List Int) (u : Int) : List (Nat × Nat) := if mtE a b u = 0 then gr u a b 0 0 else []
theorem mtE_ok {a b : List Int} {u : Int} : mtE a b u = 0 ↔ ckS a = 0 ∧ ckS b = 0 ∧ 0 ≤ u ∧ u ≤ 1024 := by
  unfold mtE
  by_cases h1 : ckS a = 0
  · rw [if_pos h1]
    by_cases h2 : ckS b = 0
    · rw [if_pos h2]
      by_cases h3 : 0 ≤ u ∧ u ≤ 1024
      · rw [if_pos h3]; simp [h1, h2, h3]
      · rw [if_neg h3]; simp [h1, h2, h3]
    · rw [if_neg h2]; simp [h1, h2]
  · rw [if_neg h1]; simp [h1]
theorem mtL_ok {a b : List Int} {u : Int} (h : mtE a b u = 0) : mtL a b u = gr u a b 0 0 := by unfold mtL; rw [if_pos h]
theorem mtL_bad {a b : List Int} {u : Int} (h : ¬ mtE a b u = 0) : mtL a b u = [] := by unfold mtL; rw [if_neg h]
theorem mtL_le (a b : List Int) (u : Int) : (mtL a b u).length ≤ a.length ∧ (mtL a b u).length ≤ b.length := by
  unfold mtL
  split
  · have := gr_le u a b _ 0 0 (Nat.le_refl _); omega
  · simp
theorem mtL_64 (a b : List Int) (u : Int) : (mtL a b u).length ≤ 64 := by
  by_cases h : mtE a b u = 0
  · have := mtL_le a b u
    have := (ckS_ok.1 (mtE_ok.1 h).1).1
    omega
  · rw [mtL_bad h]; simp
theorem accP_nil (w : World) (B : Nat) : Acc .i64 w B 46 2 (.slice none 0 0) 0 (flat []) := Acc.nil _ _ _ _ _

set_option maxHeartbeats 1000000 in
theorem match13 (A A' : Option Addr) (cap cap' : Nat) (a b : List Int) (u : Int) (B : Nat) (w : World) (hBw : B ≤ w.heap.size) (hA : Is .i64 w B A a) (hA' : Is .i64 w B A' b) (hl : a.length ≤ 1000000) (hl' : b.length ≤ 1000000) :
    Calls Try.prog 13 #[.slice A a.length cap, .slice A' b.length cap', .int .i64 u] w fun e w' => ∃ v, e = .returned (.tuple #[v, .int .i64 (mtE a b u)]) ∧ Acc .i64 w' w.heap.size 46 2 v (mtL a b u).length (flat (mtL a b u)) ∧ Below w.heap.size w w' := by
  have C1 := check15 A cap a B w hA hl
  have C2 := check15 A' cap' b B w hA' hl'
  by_cases h1 : ckS a = 0
  · by_cases h2 : ckS b = 0
    · by_cases h3 : 0 ≤ u ∧ u ≤ 1024
      · have hE : mtE a b u = 0 := mtE_ok.2 ⟨h1, h2, h3⟩
        have C3 := Lib.hid (match31 A A' cap cap' a b u B w (ckS_ok.1 h1).2 (ckS_ok.1 h2).2 (ckS_ok.1 h1).1 (ckS_ok.1 h2).1 hBw hA hA')
        rw [h1] at C1
        rw [h2] at C2
        rw [hE, mtL_ok hE]
        obtain ⟨u0, u1⟩ := h3
        have D1 := Lib.hid C1
        have D2 := Lib.hid C2
        clear C1 C2 h1 h2 hE hA hA'
        go_enter Try.func13, Try.ntmps13
        go_wp2_with fail
        refine D1.out.mono ?_
        rintro e w' ⟨rfl, rfl⟩
        go_wp2_with fail
        refine D2.out.mono ?_
        rintro e w' ⟨rfl, rfl⟩
        go_wp2_with fail
        refine C3.out.mono ?_
        rintro e w' ⟨v, rfl, hv, hb⟩
        go_wp2_with fail
        go_ret2
        exact ⟨v, rfl, hv, hb⟩
      · have hE : mtE a b u = 1 := by unfold mtE; rw [if_pos h1, if_pos h2, if_neg h3]
        rw [h1] at C1
        rw [h2] at C2
        rw [hE, mtL_bad (by omega)]
        have D1 := Lib.hid C1
        have D2 := Lib.hid C2
        clear C1 C2 h1 h2 hE hA hA'
        rcases (by omega : u < 0 ∨ (0 ≤ u ∧ 1024 < u)) with g | ⟨g, g'⟩
        all_goals
          clear h3
          go_enter Try.func13, Try.ntmps13
          go_wp2_with fail
          refine D1.out.mono ?_
          rintro e w' ⟨rfl, rfl⟩
          go_wp2_with fail
          refine D2.out.mono ?_
          rintro e w' ⟨rfl, rfl⟩
          go_wp2_with fail
          go_ret2
          exact ⟨_, rfl, accP_nil _ _, Below.refl _ _⟩
    · have hE : mtE a b u = ckS b := by unfold mtE; rw [if_pos h1, if_neg h2]
      rw [h1] at C1
      rw [hE, mtL_bad (by omega)]
      generalize ckS b = c at *
      have D1 := Lib.hid C1
      have D2 := Lib.hid C2
      have hc : (c != 0) = true := by simp [h2]
      clear C1 C2 h1 hE hA hA' h2
      go_enter Try.func13, Try.ntmps13
      go_wp2_with fail
      refine D1.out.mono ?_
      rintro e w' ⟨rfl, rfl⟩
      go_wp2_with fail
      refine D2.out.mono ?_
      rintro e w' ⟨rfl, rfl⟩
      go_wp2_with fail
      go_ret2
      exact ⟨_, rfl, accP_nil _ _, Below.refl _ _⟩
  · have hE : mtE a b u = ckS a := by unfold mtE; rw [if_neg h1]
    rw [hE, mtL_bad (by omega)]
    generalize ckS a = c at *
    have D1 := Lib.hid C1
    have hc : (c != 0) = true := by simp [h1]
    clear C1 C2 hE hA hA' h1
    go_enter Try.func13, Try.ntmps13
    go_wp2_with fail
    refine D1.out.mono ?_
    rintro e w' ⟨rfl, rfl⟩
    go_wp2_with fail
    go_ret2
    exact ⟨_, rfl, accP_nil _ _, Below.refl _ _⟩
end Go.Proofs.Ytmkpblfacnnnoaa
