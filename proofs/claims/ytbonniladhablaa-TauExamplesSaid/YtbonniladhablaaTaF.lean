/- Hold of package tau. -/
import Derived.Test.YtbonniladhablaaRows
import Derived.WalkKit
import Derived.WalkLawsBesides
import Derived.WalkSpells
import Derived.ProofKit
import Derived.Below
import Derived.Outline
import Derived.Lib.Hide
import Derived.Deep.RegionWith
import Derived.Deep.RegionHeld3
import Derived.Deep.DrawnRows
import Derived.StillTailTactics
import Derived.BigQuiet
import Derived.Deep.QuietTactic
import Derived.Deep.LoopGhost
import Derived.IntWalk
import Derived.Test.YtbonniladhablaaTaE
namespace Go.Proofs.Ytbonniladhablaa
open Go.RowKit
attribute [local go_sem ↓] Go.wp_at_zero Go.wp_at_succ
attribute [local go_sem] wrap_lit

def hdR (k a n h : Int) : Int × Int × Int :=
  if 3 < k ∨ 3 < n then (0, 0, 6)
  else if ¬ (0 ≤ a ∧ a ≤ 60 ∧ 0 ≤ h ∧ h ≤ 60) then (0, 0, 1)
  else if k ≤ n ∨ h ≤ a + 1 then (n, 0, 0)
  else (k, a + 1, 0)

theorem hold16k (k a n h : Int) (w : World) (h1 : 3 < k ∨ 3 < n) : Calls Try.prog 16 #[.agg #[.int .u8 k, .int .i64 a], .int .u8 n, .int .i64 h] w fun e w' => e = .returned (.tuple #[.agg #[.int .u8 0, .int .i64 0], .int .i64 6]) ∧ Below w.heap.size w w' := by
  by_cases hk : 3 < k
  all_goals
    go_enter Try.func16, Try.ntmps16
    go_wp2_with fail
    exact bodyPost_ret (v := .tuple #[.agg #[.int .u8 0, .int .i64 0], .int .i64 6]) (by simp [results, Try.results16, go_sem]) rfl ⟨rfl, by repeat' (first | exact Below.refl _ _ | assumption | refine Below.drew ?_ | refine below_drewN ?_ _ | refine Below.alloc ?_ ?_ _ | (simp <;> omega))⟩

theorem hold16b (k a n h : Int) (w : World) (hk : k ≤ 3) (hn : n ≤ 3) (hb : ¬ (0 ≤ a ∧ a ≤ 60 ∧ 0 ≤ h ∧ h ≤ 60)) : Calls Try.prog 16 #[.agg #[.int .u8 k, .int .i64 a], .int .u8 n, .int .i64 h] w fun e w' => e = .returned (.tuple #[.agg #[.int .u8 0, .int .i64 0], .int .i64 1]) ∧ Below w.heap.size w w' := by
  have hr : (1 : Int) = if wOk [a, 0, 60, h, 0, 60] 2 then 0 else 1 := by simp only [wOk2]; rw [if_neg hb]
  have HR := Lib.hid hr; clear hr
  go_enter Try.func16, Try.ntmps16
  go_wp2_with fail
  refine (within32 _ 2 2 [a, 0, 60, h, 0, 60] _ _ _ (fresh6 _ _ _ _ _ _ _ _ _ (by simp)) (by simp) rfl (by omega) HR.out).mono ?_
  rintro e w1 ⟨rfl, hb1⟩
  have hc := (bcell hb1).1
  have hf := (bcell hb1).2
  have hsz := hb1.size
  simp at hsz
  go_wp2_with fail
  have hb : Below w.heap.size w w1 := ((((Below.refl _ _).alloc (Nat.le_refl _) _).alloc (by simp) _).alloc (by simp; omega) _).trans (hb1.mono (by simp; omega))
  exact bodyPost_ret (v := .tuple #[.agg #[.int .u8 0, .int .i64 0], .int .i64 1]) (by simp [results, Try.results16, go_sem, hc]) rfl ⟨rfl, Below.setCell (Below.setCell hb (by simp) _) (by simp) _⟩

theorem hold16c (k a n h : Int) (w : World) (hk : k ≤ 3) (hn : n ≤ 3) (ha : 0 ≤ a ∧ a ≤ 60 ∧ 0 ≤ h ∧ h ≤ 60) (hc1 : k ≤ n) : Calls Try.prog 16 #[.agg #[.int .u8 k, .int .i64 a], .int .u8 n, .int .i64 h] w fun e w' => e = .returned (.tuple #[.agg #[.int .u8 n, .int .i64 0], .int .i64 0]) ∧ Below w.heap.size w w' := by
  have hr : (0 : Int) = if wOk [a, 0, 60, h, 0, 60] 2 then 0 else 1 := by simp only [wOk2]; rw [if_pos ha]
  have HR := Lib.hid hr; clear hr
  go_enter Try.func16, Try.ntmps16
  go_wp2_with fail
  refine (within32 _ 2 2 [a, 0, 60, h, 0, 60] _ _ _ (fresh6 _ _ _ _ _ _ _ _ _ (by simp)) (by simp) rfl (by omega) HR.out).mono ?_
  rintro e w1 ⟨rfl, hb1⟩
  have hc := (bcell hb1).1
  have hf := (bcell hb1).2
  have hsz := hb1.size
  simp at hsz
  go_wp2_with fail
  have hb : Below w.heap.size w w1 := ((((Below.refl _ _).alloc (Nat.le_refl _) _).alloc (by simp) _).alloc (by simp; omega) _).trans (hb1.mono (by simp; omega))
  exact bodyPost_ret (v := .tuple #[.agg #[.int .u8 n, .int .i64 0], .int .i64 0]) (by simp [results, Try.results16, go_sem, hc]) rfl ⟨rfl, Below.setCell (Below.setCell hb (by simp) _) (by simp) _⟩

theorem hold16d (k a n h : Int) (w : World) (hk : k ≤ 3) (hn : n ≤ 3) (ha : 0 ≤ a ∧ a ≤ 60 ∧ 0 ≤ h ∧ h ≤ 60) (hc1 : n < k) (hc2 : h ≤ a + 1) : Calls Try.prog 16 #[.agg #[.int .u8 k, .int .i64 a], .int .u8 n, .int .i64 h] w fun e w' => e = .returned (.tuple #[.agg #[.int .u8 n, .int .i64 0], .int .i64 0]) ∧ Below w.heap.size w w' := by
  have hr : (0 : Int) = if wOk [a, 0, 60, h, 0, 60] 2 then 0 else 1 := by simp only [wOk2]; rw [if_pos ha]
  have HR := Lib.hid hr; clear hr
  go_enter Try.func16, Try.ntmps16
  go_wp2_with fail
  refine (within32 _ 2 2 [a, 0, 60, h, 0, 60] _ _ _ (fresh6 _ _ _ _ _ _ _ _ _ (by simp)) (by simp) rfl (by omega) HR.out).mono ?_
  rintro e w1 ⟨rfl, hb1⟩
  have hc := (bcell hb1).1
  have hf := (bcell hb1).2
  have hsz := hb1.size
  simp at hsz
  go_wp2_with fail
  have hb : Below w.heap.size w w1 := ((((Below.refl _ _).alloc (Nat.le_refl _) _).alloc (by simp) _).alloc (by simp; omega) _).trans (hb1.mono (by simp; omega))
  exact bodyPost_ret (v := .tuple #[.agg #[.int .u8 n, .int .i64 0], .int .i64 0]) (by simp [results, Try.results16, go_sem, hc]) rfl ⟨rfl, Below.setCell (Below.setCell hb (by simp) _) (by simp) _⟩

theorem hold16e (k a n h : Int) (w : World) (hk : k ≤ 3) (hn : n ≤ 3) (ha : 0 ≤ a ∧ a ≤ 60 ∧ 0 ≤ h ∧ h ≤ 60) (hc1 : n < k) (hc2 : a + 1 < h) : Calls Try.prog 16 #[.agg #[.int .u8 k, .int .i64 a], .int .u8 n, .int .i64 h] w fun e w' => e = .returned (.tuple #[.agg #[.int .u8 k, .int .i64 (a + 1)], .int .i64 0]) ∧ Below w.heap.size w w' := by
  have hr : (0 : Int) = if wOk [a, 0, 60, h, 0, 60] 2 then 0 else 1 := by simp only [wOk2]; rw [if_pos ha]
  have HR := Lib.hid hr; clear hr
  go_enter Try.func16, Try.ntmps16
  go_wp2_with fail
  refine (within32 _ 2 2 [a, 0, 60, h, 0, 60] _ _ _ (fresh6 _ _ _ _ _ _ _ _ _ (by simp)) (by simp) rfl (by omega) HR.out).mono ?_
  rintro e w1 ⟨rfl, hb1⟩
  have hc := (bcell hb1).1
  have hf := (bcell hb1).2
  have hsz := hb1.size
  simp at hsz
  have hz : w.heap.size < w1.heap.size := by omega
  have d0 : w1.cell? ⟨w.heap.size, 0, none⟩ = some (.int .u8 k) := by rw [hc _ _ (by simp; omega)]; go_simp
  have d1 : w1.cell? ⟨w.heap.size, 1, none⟩ = some (.int .i64 a) := by rw [hc _ _ (by simp; omega)]; go_simp
  have d2 : w1.frozen? ⟨w.heap.size, 1, none⟩ = false := by rw [hf _ _ (by simp; omega)]; go_simp
  go_wp2_with fail
  have hb : Below w.heap.size w w1 := ((((Below.refl _ _).alloc (Nat.le_refl _) _).alloc (by simp) _).alloc (by simp; omega) _).trans (hb1.mono (by simp; omega))
  exact bodyPost_ret (v := .tuple #[.agg #[.int .u8 k, .int .i64 (a + 1)], .int .i64 0]) (by simp [results, Try.results16, go_sem, hc]) rfl ⟨rfl, Below.setCell (Below.setCell (Below.setCell hb (by simp) _) (by simp) _) (by simp) _⟩
end Go.Proofs.Ytbonniladhablaa
