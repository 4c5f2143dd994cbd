/- Package ranging and its reference: Close, its short ways. -/
import Derived.Test.YtephkhaebkajkaaRows
import Derived.WalkKit
import Derived.WalkLawsBesides
import Derived.WalkSpells
import Derived.ProofKit
import Derived.Below
import Derived.Outline
import Derived.Lib.Hide
import Derived.Deep.RegionWith
import Derived.Deep.RegionHeld3
import Derived.Deep.DrawnRows
import Derived.StillTailTactics
import Derived.BigQuiet
import Derived.Deep.QuietTactic
import Derived.Deep.LoopGhost
import Derived.IntWalk
import Derived.Test.YtephkhaebkajkaaRgA
namespace Go.Proofs.Ytephkhaebkajkaa
open Go.RowKit
attribute [local go_sem ↓] Go.wp_at_zero Go.wp_at_succ
attribute [local go_sem] wrap_lit

theorem clo15n (R V N k : Int) (w : World) (h : ¬ (okX R V N ∧ 0 ≤ k ∧ k ≤ 8192)) : Calls Try.prog 15 #[.agg #[.int .i64 R, .int .i64 V, .int .i64 N], .int .i64 k] w fun e w' => e = .returned (.tuple #[.int .i64 0, .int .i64 0, .int .i64 1]) ∧ Below w.heap.size w w' := by
  by_cases hx : okX R V N
  · have h' : ¬ (0 ≤ k ∧ k ≤ 8192) := fun h2 => h ⟨hx, h2⟩
    have HC := chk17 R V N
    rw [show chk R V N = 0 by unfold chk; rw [if_pos hx]] at HC
    have HC' := Lib.hid HC; clear HC hx h
    by_cases hc : k < 0
    all_goals
      go_enter Try.func15, Try.ntmps15
      go_wp2_with (go_at_call 17; refine (HC'.out _).mono ?_; rintro e w1 ⟨rfl, rfl⟩)
      go_ret3
      exact ⟨rfl, by repeat' (first | exact Below.refl _ _ | refine Below.drew ?_ | refine Below.alloc ?_ ?_ _ | (simp <;> omega))⟩
  · have HC := chk17 R V N
    rw [show chk R V N = 1 by unfold chk; rw [if_neg hx]] at HC
    have HC' := Lib.hid HC; clear HC hx h
    go_enter Try.func15, Try.ntmps15
    go_wp2_with (go_at_call 17; refine (HC'.out _).mono ?_; rintro e w1 ⟨rfl, rfl⟩)
    go_ret3
    exact ⟨rfl, by repeat' (first | exact Below.refl _ _ | refine Below.drew ?_ | refine Below.alloc ?_ ?_ _ | (simp <;> omega))⟩

theorem clo15s (R V N k : Int) (w : World) (hx : okX R V N) (hk0 : 0 ≤ k) (hk1 : k ≤ 8192) (hd : R ≤ 256 * k) : Calls Try.prog 15 #[.agg #[.int .i64 R, .int .i64 V, .int .i64 N], .int .i64 k] w fun e w' => e = .returned (.tuple #[.int .i64 0, .int .i64 1, .int .i64 0]) ∧ Below w.heap.size w w' := by
  have HC := chk17 R V N
  rw [show chk R V N = 0 by unfold chk; rw [if_pos hx]] at HC
  have HC' := Lib.hid HC; clear HC
  obtain ⟨x1, x2, x3, x4, x5, x6⟩ := hx
  go_enter Try.func15, Try.ntmps15
  go_wp2_with (go_at_call 17; refine (HC'.out _).mono ?_; rintro e w1 ⟨rfl, rfl⟩)
  go_ret3
  exact ⟨rfl, by repeat' (first | exact Below.refl _ _ | refine Below.drew ?_ | refine Below.alloc ?_ ?_ _ | (simp <;> omega))⟩

theorem clo15v (R V N k : Int) (w : World) (hx : okX R V N) (hk0 : 0 ≤ k) (hk1 : k ≤ 8192) (hd : 256 * k < R) (hv : 0 ≤ V) : Calls Try.prog 15 #[.agg #[.int .i64 R, .int .i64 V, .int .i64 N], .int .i64 k] w fun e w' => e = .returned (.tuple #[.int .i64 0, .int .i64 0, .int .i64 9]) ∧ Below w.heap.size w w' := by
  have HC := chk17 R V N
  rw [show chk R V N = 0 by unfold chk; rw [if_pos hx]] at HC
  have HC' := Lib.hid HC; clear HC
  obtain ⟨x1, x2, x3, x4, x5, x6⟩ := hx
  go_enter Try.func15, Try.ntmps15
  go_wp2_with (go_at_call 17; refine (HC'.out _).mono ?_; rintro e w1 ⟨rfl, rfl⟩)
  go_ret3
  exact ⟨rfl, by repeat' (first | exact Below.refl _ _ | refine Below.drew ?_ | refine Below.alloc ?_ ?_ _ | (simp <;> omega))⟩

theorem clo16n (R V N k : Int) (w : World) (h : ¬ (okX R V N ∧ 0 ≤ k ∧ k ≤ 8192)) : Calls Try.prog 16 #[.agg #[.int .i64 R, .int .i64 V, .int .i64 N], .int .i64 k] w fun e w' => e = .returned (.tuple #[.int .i64 0, .int .i64 0, .int .i64 1]) ∧ Below w.heap.size w w' := by
  by_cases hx : okX R V N
  · have h' : ¬ (0 ≤ k ∧ k ≤ 8192) := fun h2 => h ⟨hx, h2⟩
    have HC := chk18 R V N
    rw [show chk R V N = 0 by unfold chk; rw [if_pos hx]] at HC
    have HC' := Lib.hid HC; clear HC hx h
    by_cases hc : k < 0
    all_goals
      go_enter Try.func16, Try.ntmps16
      go_wp2_with (go_at_call 18; refine (HC'.out _).mono ?_; rintro e w1 ⟨rfl, rfl⟩)
      go_ret3
      exact ⟨rfl, by repeat' (first | exact Below.refl _ _ | refine Below.drew ?_ | refine Below.alloc ?_ ?_ _ | (simp <;> omega))⟩
  · have HC := chk18 R V N
    rw [show chk R V N = 1 by unfold chk; rw [if_neg hx]] at HC
    have HC' := Lib.hid HC; clear HC hx h
    go_enter Try.func16, Try.ntmps16
    go_wp2_with (go_at_call 18; refine (HC'.out _).mono ?_; rintro e w1 ⟨rfl, rfl⟩)
    go_ret3
    exact ⟨rfl, by repeat' (first | exact Below.refl _ _ | refine Below.drew ?_ | refine Below.alloc ?_ ?_ _ | (simp <;> omega))⟩

theorem clo16s (R V N k : Int) (w : World) (hx : okX R V N) (hk0 : 0 ≤ k) (hk1 : k ≤ 8192) (hd : R ≤ 256 * k) : Calls Try.prog 16 #[.agg #[.int .i64 R, .int .i64 V, .int .i64 N], .int .i64 k] w fun e w' => e = .returned (.tuple #[.int .i64 0, .int .i64 1, .int .i64 0]) ∧ Below w.heap.size w w' := by
  have HC := chk18 R V N
  rw [show chk R V N = 0 by unfold chk; rw [if_pos hx]] at HC
  have HC' := Lib.hid HC; clear HC
  obtain ⟨x1, x2, x3, x4, x5, x6⟩ := hx
  go_enter Try.func16, Try.ntmps16
  go_wp2_with (go_at_call 18; refine (HC'.out _).mono ?_; rintro e w1 ⟨rfl, rfl⟩)
  go_ret3
  exact ⟨rfl, by repeat' (first | exact Below.refl _ _ | refine Below.drew ?_ | refine Below.alloc ?_ ?_ _ | (simp <;> omega))⟩

theorem clo16v (R V N k : Int) (w : World) (hx : okX R V N) (hk0 : 0 ≤ k) (hk1 : k ≤ 8192) (hd : 256 * k < R) (hv : 0 ≤ V) : Calls Try.prog 16 #[.agg #[.int .i64 R, .int .i64 V, .int .i64 N], .int .i64 k] w fun e w' => e = .returned (.tuple #[.int .i64 0, .int .i64 0, .int .i64 9]) ∧ Below w.heap.size w w' := by
  have HC := chk18 R V N
  rw [show chk R V N = 0 by unfold chk; rw [if_pos hx]] at HC
  have HC' := Lib.hid HC; clear HC
  obtain ⟨x1, x2, x3, x4, x5, x6⟩ := hx
  go_enter Try.func16, Try.ntmps16
  go_wp2_with (go_at_call 18; refine (HC'.out _).mono ?_; rintro e w1 ⟨rfl, rfl⟩)
  go_ret3
  exact ⟨rfl, by repeat' (first | exact Below.refl _ _ | refine Below.drew ?_ | refine Below.alloc ?_ ?_ _ | (simp <;> omega))⟩

end Go.Proofs.Ytephkhaebkajkaa
