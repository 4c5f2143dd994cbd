/- The reference's plane: next. -/
import Derived.Test.YtnnnpliigdfipaaGreatDoorRows
import Derived.WalkKit
import Derived.WalkLawsBesides
import Derived.WalkSpells
import Derived.ProofKit
import Derived.Below
import Derived.Outline
import Derived.Lib.Hide
import Derived.Deep.RegionWith
import Derived.Deep.RegionHeld3
import Derived.Deep.DrawnRows
import Derived.StillTailTactics
import Derived.BigQuiet
import Derived.Deep.QuietTactic
import Derived.Deep.LoopGhost
import Derived.IntWalk
import Derived.Lib.MinMax
import Derived.Test.YtnnnpliigdfipaaGreatDoorEnF
namespace Go.Proofs.YtnnnpliigdfipaaGreatDoor
open Go.RowKit
attribute [local go_sem ↓] Go.wp_at_zero Go.wp_at_succ
attribute [local go_sem] wrap_lit
theorem ret_nx {R : Int × Int} {a b : Int} {x c : Bool} (h : R = (a, b)) (hx : x = c) : Ending.returned (.tuple #[.agg #[.int .i64 a, .int .i64 b], .bool c]) = .returned (.tuple #[.agg #[.int .i64 R.1, .int .i64 R.2], .bool x]) := by rw [h, hx]
set_option maxHeartbeats 4000000 in
theorem next113 (z v lo hi pull : Int) (w : World) (z0 : -1000 ≤ z) (z1 : z ≤ 50000) (v0 : -100 ≤ v) (v1 : v ≤ 100) (p0 : 0 ≤ pull) (p1 : pull ≤ 32) (l0 : -100 ≤ lo) (l1 : lo ≤ hi) : Calls Tryz.prog 113 #[.agg #[.int .i64 z, .int .i64 v], .int .i64 lo, .int .i64 hi, .int .i64 pull] w fun e w' => e = .returned (.tuple #[.agg #[.int .i64 (flyR z v lo hi pull).1, .int .i64 (flyR z v lo hi pull).2], .bool (!inB (z + v) (-1000) 50000)]) ∧ Below w.heap.size w w' := by
  by_cases a1 : v < lo
  · have a2 : ¬ hi < v := by omega
    by_cases b1 : z + v < -1000
    · have hh : inB (z + v) (-1000) 50000 = false := inB_f (by omega)
      have HR : Hid (flyR z v lo hi pull = (-1000, 0)) := Lib.hid (by unfold flyR; rw [if_neg (by rw [hh]; decide)]; simp; omega)
      have HB : Hid ((!inB (z + v) (-1000) 50000) = true) := Lib.hid (by rw [hh]; rfl)
      clear hh
      go_enter Tryz.func113, Tryz.ntmps113
      go_wp2_with fail
      (try simp only [Exit.inBlock, Exit.then])
      exact bodyPost_ret (v := .tuple #[.agg #[.int .i64 (-1000), .int .i64 (0)], .bool true]) (by simp [results, Tryz.results113, go_sem]) rfl ⟨ret_nx HR.out HB.out, ((((Below.refl _ _).alloc (Nat.le_refl _) _).alloc (by simp) _).alloc (by simp; omega) _)⟩
    by_cases b2 : 50000 < z + v
    · have hh : inB (z + v) (-1000) 50000 = false := inB_f (by omega)
      have HR : Hid (flyR z v lo hi pull = (50000, 0)) := Lib.hid (by unfold flyR; rw [if_neg (by rw [hh]; decide)]; simp; omega)
      have HB : Hid ((!inB (z + v) (-1000) 50000) = true) := Lib.hid (by rw [hh]; rfl)
      clear hh
      go_enter Tryz.func113, Tryz.ntmps113
      go_wp2_with fail
      (try simp only [Exit.inBlock, Exit.then])
      exact bodyPost_ret (v := .tuple #[.agg #[.int .i64 (50000), .int .i64 (0)], .bool true]) (by simp [results, Tryz.results113, go_sem]) rfl ⟨ret_nx HR.out HB.out, ((((Below.refl _ _).alloc (Nat.le_refl _) _).alloc (by simp) _).alloc (by simp; omega) _)⟩
    have hh : inB (z + v) (-1000) 50000 = true := inB_t (by omega) (by omega)
    have HR : Hid (flyR z v lo hi pull = (z + v, min (v + pull) lo)) := Lib.hid (by unfold flyR flV; rw [if_pos hh, if_pos a1])
    have HB : Hid ((!inB (z + v) (-1000) 50000) = false) := Lib.hid (by rw [hh]; rfl)
    clear hh
    go_enter Tryz.func113, Tryz.ntmps113
    go_wp2_with fail
    (try simp only [Exit.inBlock, Exit.then])
    exact bodyPost_ret (v := .tuple #[.agg #[.int .i64 (z + v), .int .i64 (min (v + pull) lo)], .bool false]) (by simp [results, Tryz.results113, go_sem]) rfl ⟨ret_nx HR.out HB.out, ((((Below.refl _ _).alloc (Nat.le_refl _) _).alloc (by simp) _).alloc (by simp; omega) _)⟩
  by_cases a2 : hi < v
  · by_cases b1 : z + v < -1000
    · have hh : inB (z + v) (-1000) 50000 = false := inB_f (by omega)
      have HR : Hid (flyR z v lo hi pull = (-1000, 0)) := Lib.hid (by unfold flyR; rw [if_neg (by rw [hh]; decide)]; simp; omega)
      have HB : Hid ((!inB (z + v) (-1000) 50000) = true) := Lib.hid (by rw [hh]; rfl)
      clear hh
      go_enter Tryz.func113, Tryz.ntmps113
      go_wp2_with fail
      (try simp only [Exit.inBlock, Exit.then])
      exact bodyPost_ret (v := .tuple #[.agg #[.int .i64 (-1000), .int .i64 (0)], .bool true]) (by simp [results, Tryz.results113, go_sem]) rfl ⟨ret_nx HR.out HB.out, ((((Below.refl _ _).alloc (Nat.le_refl _) _).alloc (by simp) _).alloc (by simp; omega) _)⟩
    by_cases b2 : 50000 < z + v
    · have hh : inB (z + v) (-1000) 50000 = false := inB_f (by omega)
      have HR : Hid (flyR z v lo hi pull = (50000, 0)) := Lib.hid (by unfold flyR; rw [if_neg (by rw [hh]; decide)]; simp; omega)
      have HB : Hid ((!inB (z + v) (-1000) 50000) = true) := Lib.hid (by rw [hh]; rfl)
      clear hh
      go_enter Tryz.func113, Tryz.ntmps113
      go_wp2_with fail
      (try simp only [Exit.inBlock, Exit.then])
      exact bodyPost_ret (v := .tuple #[.agg #[.int .i64 (50000), .int .i64 (0)], .bool true]) (by simp [results, Tryz.results113, go_sem]) rfl ⟨ret_nx HR.out HB.out, ((((Below.refl _ _).alloc (Nat.le_refl _) _).alloc (by simp) _).alloc (by simp; omega) _)⟩
    have hh : inB (z + v) (-1000) 50000 = true := inB_t (by omega) (by omega)
    have HR : Hid (flyR z v lo hi pull = (z + v, max (v - pull) hi)) := Lib.hid (by unfold flyR flV; rw [if_pos hh, if_neg a1, if_pos a2])
    have HB : Hid ((!inB (z + v) (-1000) 50000) = false) := Lib.hid (by rw [hh]; rfl)
    clear hh
    go_enter Tryz.func113, Tryz.ntmps113
    go_wp2_with fail
    (try simp only [Exit.inBlock, Exit.then])
    exact bodyPost_ret (v := .tuple #[.agg #[.int .i64 (z + v), .int .i64 (max (v - pull) hi)], .bool false]) (by simp [results, Tryz.results113, go_sem]) rfl ⟨ret_nx HR.out HB.out, ((((Below.refl _ _).alloc (Nat.le_refl _) _).alloc (by simp) _).alloc (by simp; omega) _)⟩
  by_cases b1 : z + v < -1000
  · have hh : inB (z + v) (-1000) 50000 = false := inB_f (by omega)
    have HR : Hid (flyR z v lo hi pull = (-1000, 0)) := Lib.hid (by unfold flyR; rw [if_neg (by rw [hh]; decide)]; simp; omega)
    have HB : Hid ((!inB (z + v) (-1000) 50000) = true) := Lib.hid (by rw [hh]; rfl)
    clear hh
    go_enter Tryz.func113, Tryz.ntmps113
    go_wp2_with fail
    (try simp only [Exit.inBlock, Exit.then])
    exact bodyPost_ret (v := .tuple #[.agg #[.int .i64 (-1000), .int .i64 (0)], .bool true]) (by simp [results, Tryz.results113, go_sem]) rfl ⟨ret_nx HR.out HB.out, ((((Below.refl _ _).alloc (Nat.le_refl _) _).alloc (by simp) _).alloc (by simp; omega) _)⟩
  by_cases b2 : 50000 < z + v
  · have hh : inB (z + v) (-1000) 50000 = false := inB_f (by omega)
    have HR : Hid (flyR z v lo hi pull = (50000, 0)) := Lib.hid (by unfold flyR; rw [if_neg (by rw [hh]; decide)]; simp; omega)
    have HB : Hid ((!inB (z + v) (-1000) 50000) = true) := Lib.hid (by rw [hh]; rfl)
    clear hh
    go_enter Tryz.func113, Tryz.ntmps113
    go_wp2_with fail
    (try simp only [Exit.inBlock, Exit.then])
    exact bodyPost_ret (v := .tuple #[.agg #[.int .i64 (50000), .int .i64 (0)], .bool true]) (by simp [results, Tryz.results113, go_sem]) rfl ⟨ret_nx HR.out HB.out, ((((Below.refl _ _).alloc (Nat.le_refl _) _).alloc (by simp) _).alloc (by simp; omega) _)⟩
  have hh : inB (z + v) (-1000) 50000 = true := inB_t (by omega) (by omega)
  have HR : Hid (flyR z v lo hi pull = (z + v, v)) := Lib.hid (by unfold flyR flV; rw [if_pos hh, if_neg a1, if_neg a2])
  have HB : Hid ((!inB (z + v) (-1000) 50000) = false) := Lib.hid (by rw [hh]; rfl)
  clear hh
  go_enter Tryz.func113, Tryz.ntmps113
  go_wp2_with fail
  (try simp only [Exit.inBlock, Exit.then])
  exact bodyPost_ret (v := .tuple #[.agg #[.int .i64 (z + v), .int .i64 (v)], .bool false]) (by simp [results, Tryz.results113, go_sem]) rfl ⟨ret_nx HR.out HB.out, ((((Below.refl _ _).alloc (Nat.le_refl _) _).alloc (by simp) _).alloc (by simp; omega) _)⟩
end Go.Proofs.YtnnnpliigdfipaaGreatDoor
