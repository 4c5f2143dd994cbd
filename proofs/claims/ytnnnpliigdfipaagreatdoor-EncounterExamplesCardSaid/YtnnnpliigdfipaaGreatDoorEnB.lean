/- plane.Fly. -/
import Derived.Test.YtnnnpliigdfipaaGreatDoorRows
import Derived.WalkKit
import Derived.WalkLawsBesides
import Derived.WalkSpells
import Derived.ProofKit
import Derived.Below
import Derived.Outline
import Derived.Lib.Hide
import Derived.Deep.RegionWith
import Derived.Deep.RegionHeld3
import Derived.Deep.DrawnRows
import Derived.StillTailTactics
import Derived.BigQuiet
import Derived.Deep.QuietTactic
import Derived.Deep.LoopGhost
import Derived.IntWalk
import Derived.Lib.MinMax
import Derived.Test.YtnnnpliigdfipaaGreatDoorEnA
namespace Go.Proofs.YtnnnpliigdfipaaGreatDoor
open Go.RowKit
attribute [local go_sem ↓] Go.wp_at_zero Go.wp_at_succ
attribute [local go_sem] wrap_lit
def bdB (lo hi : Int) : Bool := inB lo (-100) hi && decide (hi ≤ 100)
set_option maxHeartbeats 1000000 in
theorem valid115 (lo hi : Int) (w : World) : Calls Tryz.prog 115 #[.agg #[.int .i64 lo, .int .i64 hi]] w fun e w' => e = .returned (.bool (bdB lo hi)) ∧ Below w.heap.size w w' := by
  cases h1 : inB lo (-100) hi with
  | false =>
    have HV : Hid (bdB lo hi = false) := Lib.hid (by unfold bdB; rw [h1]; rfl)
    have H1 := Lib.hid h1
    clear h1
    go_enter Tryz.func115, Tryz.ntmps115
    go_wp2_with fail
    refine (in116 lo (-100) hi _).mono ?_
    rintro e w1 ⟨rfl, rfl⟩
    rw [H1.out]
    go_wp2_with fail
    go_ret
    exact ⟨ret_bool HV.out.symm, (Below.refl _ _).alloc (Nat.le_refl _) _⟩
  | true =>
    have HV : Hid (bdB lo hi = decide (hi ≤ 100)) := Lib.hid (by unfold bdB; rw [h1]; rfl)
    have H1 := Lib.hid h1
    clear h1
    go_enter Tryz.func115, Tryz.ntmps115
    go_wp2_with fail
    refine (in116 lo (-100) hi _).mono ?_
    rintro e w1 ⟨rfl, rfl⟩
    rw [H1.out]
    go_wp2_with fail
    go_ret
    exact ⟨ret_bool HV.out.symm, (Below.refl _ _).alloc (Nat.le_refl _) _⟩
/-- The rate after a cycle, and the state. -/
def flV (v lo hi pull : Int) : Int := if v < lo then min (v + pull) lo else if hi < v then max (v - pull) hi else v
def flyR (z v lo hi pull : Int) : Int × Int := if inB (z + v) (-1000) 50000 = true then (z + v, flV v lo hi pull) else (min (max (z + v) (-1000)) 50000, 0)
theorem ret_agg2 {R : Int × Int} {a b : Int} (h : R = (a, b)) : Ending.returned (.agg #[.int .i64 a, .int .i64 b]) = .returned (.agg #[.int .i64 R.1, .int .i64 R.2]) := by rw [h]
theorem c3_old (w : World) (a : Array Value) (t : TypeId) (f : Nat × Nat) (B C : Obj) (i n : Nat) : ((((w.alloc (.cells a t f)).alloc B).alloc C).drewN n).cell? ⟨w.heap.size, i, none⟩ = (w.alloc (.cells a t f)).cell? ⟨w.heap.size, i, none⟩ := by
  rw [World.cell?_drewN, World.cell?_alloc_lt _ _ _ (by simp; omega), World.cell?_alloc_lt _ _ _ (by simp)]
theorem c3_new (w : World) (A B : Obj) (a : Array Value) (t : TypeId) (i n : Nat) : ((((w.alloc A).alloc B).alloc (.cells a t)).drewN n).cell? ⟨w.heap.size + 1 + 1, i, none⟩ = a[i]? := by
  have h : ((w.alloc A).alloc B).heap.size = w.heap.size + 1 + 1 := by simp
  rw [World.cell?_drewN, ← h, World.cell?_alloc_new]
theorem f3_old (w : World) (A B C : Obj) (i n : Nat) : ((((w.alloc A).alloc B).alloc C).drewN n).frozen? ⟨w.heap.size, i, none⟩ = (w.alloc A).frozen? ⟨w.heap.size, i, none⟩ := by
  rw [World.frozen?_drewN, World.frozen?_alloc_past _ _ _ (by simp; omega), World.frozen?_alloc_past _ _ _ (by simp)]
theorem f3_new (w : World) (A B : Obj) (a : Array Value) (t : TypeId) (i n : Nat) : ((((w.alloc A).alloc B).alloc (.cells a t)).drewN n).frozen? ⟨w.heap.size + 1 + 1, i, none⟩ = false := by
  have h : ((w.alloc A).alloc B).heap.size = w.heap.size + 1 + 1 := by simp
  rw [World.frozen?_drewN, ← h, World.frozen?_alloc_new]
theorem name_world {w : World} {K : World → Prop} (h : ∀ W, W = w → K W) : K w := h w rfl
set_option maxHeartbeats 2000000 in
theorem fly117 (z v pull lo hi : Int) (w : World) (z0 : -1000 ≤ z) (z1 : z ≤ 50000) (v0 : -100 ≤ v) (v1 : v ≤ 100) (p0 : 0 ≤ pull) (p1 : pull ≤ 32) (l0 : -100 ≤ lo) :
    Calls Tryz.prog 117 #[.pointer (some ⟨w.heap.size, 0, none⟩), .agg #[.int .i64 lo, .int .i64 hi]] (w.alloc (.cells #[.int .i64 z, .int .i64 v, .int .i64 pull, .bool false] 150)) fun e w' => e = .returned (.agg #[.int .i64 (flyR z v lo hi pull).1, .int .i64 (flyR z v lo hi pull).2]) ∧ Below w.heap.size w w' := by
  cases hin : inB (z + v) (-1000) 50000 with
  | true =>
    have H1 := Lib.hid hin
    obtain ⟨i0, i1⟩ := inB_iff hin
    clear hin
    by_cases hv : v < lo
    · have HR : Hid (flyR z v lo hi pull = (z + v, min (v + pull) lo)) := Lib.hid (by unfold flyR flV; rw [if_pos H1.out, if_pos hv])
      go_enter Tryz.func117, Tryz.ntmps117
      go_wp2_with fail
      go_quiet (fail)
      go_wp2_with fail
      go_quiet (fail)
      go_wp2_with fail
      refine (in116 _ (-1000) 50000 _).mono ?_
      rintro e w1 ⟨rfl, rfl⟩
      rw [H1.out]
      refine name_world ?_
      intro W hW
      have s0 : W.heap.size = w.heap.size + 1 + 1 + 1 := by rw [hW]; simp
      have c0 : W.cell? ⟨w.heap.size, 0, none⟩ = some (.int .i64 z) := by rw [hW]; exact (c3_old _ _ _ _ _ _ _ _).trans (by simp)
      have c1 : W.cell? ⟨w.heap.size, 1, none⟩ = some (.int .i64 v) := by rw [hW]; exact (c3_old _ _ _ _ _ _ _ _).trans (by simp)
      have c2 : W.cell? ⟨w.heap.size, 2, none⟩ = some (.int .i64 pull) := by rw [hW]; exact (c3_old _ _ _ _ _ _ _ _).trans (by simp)
      have c3 : W.cell? ⟨w.heap.size, 3, none⟩ = some (.bool false) := by rw [hW]; exact (c3_old _ _ _ _ _ _ _ _).trans (by simp)
      have r0 : W.cell? ⟨w.heap.size + 1 + 1, 0, none⟩ = some (.int .i64 0) := by rw [hW]; exact (c3_new _ _ _ _ _ _ _).trans (by simp)
      have r1 : W.cell? ⟨w.heap.size + 1 + 1, 1, none⟩ = some (.int .i64 0) := by rw [hW]; exact (c3_new _ _ _ _ _ _ _).trans (by simp)
      have fz : ∀ i, W.frozen? ⟨w.heap.size, i, none⟩ = false := by intro i; rw [hW]; exact (f3_old _ _ _ _ _ _).trans (by simp)
      have fr : ∀ i, W.frozen? ⟨w.heap.size + 1 + 1, i, none⟩ = false := by intro i; rw [hW]; exact f3_new _ _ _ _ _ _ _
      have BW : Below w.heap.size w W := by rw [hW]; exact below_drewN ((((Below.refl _ _).alloc (Nat.le_refl _) _).alloc (by simp) _).alloc (by simp; omega) _) _
      clear hW
      go_wp2_with fail
      (try simp only [Exit.inBlock, Exit.then])
      exact bodyPost_ret (v := .agg #[.int .i64 (z + v), .int .i64 (min (v + pull) lo)]) (by simp [results, Tryz.results117, go_sem, r0, r1]) rfl ⟨ret_agg2 HR.out, ((((BW.setCell (p := ⟨w.heap.size, 0, none⟩) (Nat.le_refl _) _).setCell (p := ⟨w.heap.size, 1, none⟩) (Nat.le_refl _) _).setCell (p := ⟨w.heap.size + 1 + 1, 0, none⟩) (by simp; omega) _).setCell (p := ⟨w.heap.size + 1 + 1, 1, none⟩) (by simp; omega) _)⟩
    · by_cases hh : hi < v
      · have HR : Hid (flyR z v lo hi pull = (z + v, max (v - pull) hi)) := Lib.hid (by unfold flyR flV; rw [if_pos H1.out, if_neg hv, if_pos hh])
        go_enter Tryz.func117, Tryz.ntmps117
        go_wp2_with fail
        go_quiet (fail)
        go_wp2_with fail
        go_quiet (fail)
        go_wp2_with fail
        refine (in116 _ (-1000) 50000 _).mono ?_
        rintro e w1 ⟨rfl, rfl⟩
        rw [H1.out]
        refine name_world ?_
        intro W hW
        have s0 : W.heap.size = w.heap.size + 1 + 1 + 1 := by rw [hW]; simp
        have c0 : W.cell? ⟨w.heap.size, 0, none⟩ = some (.int .i64 z) := by rw [hW]; exact (c3_old _ _ _ _ _ _ _ _).trans (by simp)
        have c1 : W.cell? ⟨w.heap.size, 1, none⟩ = some (.int .i64 v) := by rw [hW]; exact (c3_old _ _ _ _ _ _ _ _).trans (by simp)
        have c2 : W.cell? ⟨w.heap.size, 2, none⟩ = some (.int .i64 pull) := by rw [hW]; exact (c3_old _ _ _ _ _ _ _ _).trans (by simp)
        have c3 : W.cell? ⟨w.heap.size, 3, none⟩ = some (.bool false) := by rw [hW]; exact (c3_old _ _ _ _ _ _ _ _).trans (by simp)
        have r0 : W.cell? ⟨w.heap.size + 1 + 1, 0, none⟩ = some (.int .i64 0) := by rw [hW]; exact (c3_new _ _ _ _ _ _ _).trans (by simp)
        have r1 : W.cell? ⟨w.heap.size + 1 + 1, 1, none⟩ = some (.int .i64 0) := by rw [hW]; exact (c3_new _ _ _ _ _ _ _).trans (by simp)
        have fz : ∀ i, W.frozen? ⟨w.heap.size, i, none⟩ = false := by intro i; rw [hW]; exact (f3_old _ _ _ _ _ _).trans (by simp)
        have fr : ∀ i, W.frozen? ⟨w.heap.size + 1 + 1, i, none⟩ = false := by intro i; rw [hW]; exact f3_new _ _ _ _ _ _ _
        have BW : Below w.heap.size w W := by rw [hW]; exact below_drewN ((((Below.refl _ _).alloc (Nat.le_refl _) _).alloc (by simp) _).alloc (by simp; omega) _) _
        clear hW
        go_wp2_with fail
        (try simp only [Exit.inBlock, Exit.then])
        exact bodyPost_ret (v := .agg #[.int .i64 (z + v), .int .i64 (max (v - pull) hi)]) (by simp [results, Tryz.results117, go_sem, r0, r1]) rfl ⟨ret_agg2 HR.out, ((((BW.setCell (p := ⟨w.heap.size, 0, none⟩) (Nat.le_refl _) _).setCell (p := ⟨w.heap.size, 1, none⟩) (Nat.le_refl _) _).setCell (p := ⟨w.heap.size + 1 + 1, 0, none⟩) (by simp; omega) _).setCell (p := ⟨w.heap.size + 1 + 1, 1, none⟩) (by simp; omega) _)⟩
      · have HR : Hid (flyR z v lo hi pull = (z + v, v)) := Lib.hid (by unfold flyR flV; rw [if_pos H1.out, if_neg hv, if_neg hh])
        go_enter Tryz.func117, Tryz.ntmps117
        go_wp2_with fail
        go_quiet (fail)
        go_wp2_with fail
        refine (in116 _ (-1000) 50000 _).mono ?_
        rintro e w1 ⟨rfl, rfl⟩
        rw [H1.out]
        refine name_world ?_
        intro W hW
        have s0 : W.heap.size = w.heap.size + 1 + 1 + 1 := by rw [hW]; simp
        have c0 : W.cell? ⟨w.heap.size, 0, none⟩ = some (.int .i64 z) := by rw [hW]; exact (c3_old _ _ _ _ _ _ _ _).trans (by simp)
        have c1 : W.cell? ⟨w.heap.size, 1, none⟩ = some (.int .i64 v) := by rw [hW]; exact (c3_old _ _ _ _ _ _ _ _).trans (by simp)
        have c2 : W.cell? ⟨w.heap.size, 2, none⟩ = some (.int .i64 pull) := by rw [hW]; exact (c3_old _ _ _ _ _ _ _ _).trans (by simp)
        have c3 : W.cell? ⟨w.heap.size, 3, none⟩ = some (.bool false) := by rw [hW]; exact (c3_old _ _ _ _ _ _ _ _).trans (by simp)
        have r0 : W.cell? ⟨w.heap.size + 1 + 1, 0, none⟩ = some (.int .i64 0) := by rw [hW]; exact (c3_new _ _ _ _ _ _ _).trans (by simp)
        have r1 : W.cell? ⟨w.heap.size + 1 + 1, 1, none⟩ = some (.int .i64 0) := by rw [hW]; exact (c3_new _ _ _ _ _ _ _).trans (by simp)
        have fz : ∀ i, W.frozen? ⟨w.heap.size, i, none⟩ = false := by intro i; rw [hW]; exact (f3_old _ _ _ _ _ _).trans (by simp)
        have fr : ∀ i, W.frozen? ⟨w.heap.size + 1 + 1, i, none⟩ = false := by intro i; rw [hW]; exact f3_new _ _ _ _ _ _ _
        have BW : Below w.heap.size w W := by rw [hW]; exact below_drewN ((((Below.refl _ _).alloc (Nat.le_refl _) _).alloc (by simp) _).alloc (by simp; omega) _) _
        clear hW
        go_wp2_with fail
        (try simp only [Exit.inBlock, Exit.then])
        exact bodyPost_ret (v := .agg #[.int .i64 (z + v), .int .i64 (v)]) (by simp [results, Tryz.results117, go_sem, r0, r1]) rfl ⟨ret_agg2 HR.out, ((((BW.setCell (p := ⟨w.heap.size, 0, none⟩) (Nat.le_refl _) _).setCell (p := ⟨w.heap.size, 1, none⟩) (Nat.le_refl _) _).setCell (p := ⟨w.heap.size + 1 + 1, 0, none⟩) (by simp; omega) _).setCell (p := ⟨w.heap.size + 1 + 1, 1, none⟩) (by simp; omega) _)⟩
  | false =>
    have H1 := Lib.hid hin
    clear hin
    by_cases hv : v < lo
    · have HR : Hid (flyR z v lo hi pull = (min (max (z + v) (-1000)) 50000, 0)) := Lib.hid (by unfold flyR; rw [if_neg (by rw [H1.out]; decide)])
      go_enter Tryz.func117, Tryz.ntmps117
      go_wp2_with fail
      go_quiet (fail)
      go_wp2_with fail
      go_quiet (fail)
      go_wp2_with fail
      refine (in116 _ (-1000) 50000 _).mono ?_
      rintro e w1 ⟨rfl, rfl⟩
      rw [H1.out]
      refine name_world ?_
      intro W hW
      have s0 : W.heap.size = w.heap.size + 1 + 1 + 1 := by rw [hW]; simp
      have c0 : W.cell? ⟨w.heap.size, 0, none⟩ = some (.int .i64 z) := by rw [hW]; exact (c3_old _ _ _ _ _ _ _ _).trans (by simp)
      have c1 : W.cell? ⟨w.heap.size, 1, none⟩ = some (.int .i64 v) := by rw [hW]; exact (c3_old _ _ _ _ _ _ _ _).trans (by simp)
      have c2 : W.cell? ⟨w.heap.size, 2, none⟩ = some (.int .i64 pull) := by rw [hW]; exact (c3_old _ _ _ _ _ _ _ _).trans (by simp)
      have c3 : W.cell? ⟨w.heap.size, 3, none⟩ = some (.bool false) := by rw [hW]; exact (c3_old _ _ _ _ _ _ _ _).trans (by simp)
      have r0 : W.cell? ⟨w.heap.size + 1 + 1, 0, none⟩ = some (.int .i64 0) := by rw [hW]; exact (c3_new _ _ _ _ _ _ _).trans (by simp)
      have r1 : W.cell? ⟨w.heap.size + 1 + 1, 1, none⟩ = some (.int .i64 0) := by rw [hW]; exact (c3_new _ _ _ _ _ _ _).trans (by simp)
      have fz : ∀ i, W.frozen? ⟨w.heap.size, i, none⟩ = false := by intro i; rw [hW]; exact (f3_old _ _ _ _ _ _).trans (by simp)
      have fr : ∀ i, W.frozen? ⟨w.heap.size + 1 + 1, i, none⟩ = false := by intro i; rw [hW]; exact f3_new _ _ _ _ _ _ _
      have BW : Below w.heap.size w W := by rw [hW]; exact below_drewN ((((Below.refl _ _).alloc (Nat.le_refl _) _).alloc (by simp) _).alloc (by simp; omega) _) _
      clear hW
      go_wp2_with fail
      (try simp only [Exit.inBlock, Exit.then])
      exact bodyPost_ret (v := .agg #[.int .i64 (min (max (z + v) (-1000)) 50000), .int .i64 (0)]) (by simp [results, Tryz.results117, go_sem, r0, r1]) rfl ⟨ret_agg2 HR.out, ((((((BW).setCell (p := ⟨w.heap.size, 3, none⟩) (Nat.le_refl _) _).setCell (p := ⟨w.heap.size, 0, none⟩) (Nat.le_refl _) _).setCell (p := ⟨w.heap.size, 1, none⟩) (Nat.le_refl _) _).setCell (p := ⟨w.heap.size + 1 + 1, 0, none⟩) (by simp; omega) _).setCell (p := ⟨w.heap.size + 1 + 1, 1, none⟩) (by simp; omega) _)⟩
    · by_cases hh : hi < v
      · have HR : Hid (flyR z v lo hi pull = (min (max (z + v) (-1000)) 50000, 0)) := Lib.hid (by unfold flyR; rw [if_neg (by rw [H1.out]; decide)])
        go_enter Tryz.func117, Tryz.ntmps117
        go_wp2_with fail
        go_quiet (fail)
        go_wp2_with fail
        go_quiet (fail)
        go_wp2_with fail
        refine (in116 _ (-1000) 50000 _).mono ?_
        rintro e w1 ⟨rfl, rfl⟩
        rw [H1.out]
        refine name_world ?_
        intro W hW
        have s0 : W.heap.size = w.heap.size + 1 + 1 + 1 := by rw [hW]; simp
        have c0 : W.cell? ⟨w.heap.size, 0, none⟩ = some (.int .i64 z) := by rw [hW]; exact (c3_old _ _ _ _ _ _ _ _).trans (by simp)
        have c1 : W.cell? ⟨w.heap.size, 1, none⟩ = some (.int .i64 v) := by rw [hW]; exact (c3_old _ _ _ _ _ _ _ _).trans (by simp)
        have c2 : W.cell? ⟨w.heap.size, 2, none⟩ = some (.int .i64 pull) := by rw [hW]; exact (c3_old _ _ _ _ _ _ _ _).trans (by simp)
        have c3 : W.cell? ⟨w.heap.size, 3, none⟩ = some (.bool false) := by rw [hW]; exact (c3_old _ _ _ _ _ _ _ _).trans (by simp)
        have r0 : W.cell? ⟨w.heap.size + 1 + 1, 0, none⟩ = some (.int .i64 0) := by rw [hW]; exact (c3_new _ _ _ _ _ _ _).trans (by simp)
        have r1 : W.cell? ⟨w.heap.size + 1 + 1, 1, none⟩ = some (.int .i64 0) := by rw [hW]; exact (c3_new _ _ _ _ _ _ _).trans (by simp)
        have fz : ∀ i, W.frozen? ⟨w.heap.size, i, none⟩ = false := by intro i; rw [hW]; exact (f3_old _ _ _ _ _ _).trans (by simp)
        have fr : ∀ i, W.frozen? ⟨w.heap.size + 1 + 1, i, none⟩ = false := by intro i; rw [hW]; exact f3_new _ _ _ _ _ _ _
        have BW : Below w.heap.size w W := by rw [hW]; exact below_drewN ((((Below.refl _ _).alloc (Nat.le_refl _) _).alloc (by simp) _).alloc (by simp; omega) _) _
        clear hW
        go_wp2_with fail
        (try simp only [Exit.inBlock, Exit.then])
        exact bodyPost_ret (v := .agg #[.int .i64 (min (max (z + v) (-1000)) 50000), .int .i64 (0)]) (by simp [results, Tryz.results117, go_sem, r0, r1]) rfl ⟨ret_agg2 HR.out, ((((((BW).setCell (p := ⟨w.heap.size, 3, none⟩) (Nat.le_refl _) _).setCell (p := ⟨w.heap.size, 0, none⟩) (Nat.le_refl _) _).setCell (p := ⟨w.heap.size, 1, none⟩) (Nat.le_refl _) _).setCell (p := ⟨w.heap.size + 1 + 1, 0, none⟩) (by simp; omega) _).setCell (p := ⟨w.heap.size + 1 + 1, 1, none⟩) (by simp; omega) _)⟩
      · have HR : Hid (flyR z v lo hi pull = (min (max (z + v) (-1000)) 50000, 0)) := Lib.hid (by unfold flyR; rw [if_neg (by rw [H1.out]; decide)])
        go_enter Tryz.func117, Tryz.ntmps117
        go_wp2_with fail
        go_quiet (fail)
        go_wp2_with fail
        refine (in116 _ (-1000) 50000 _).mono ?_
        rintro e w1 ⟨rfl, rfl⟩
        rw [H1.out]
        refine name_world ?_
        intro W hW
        have s0 : W.heap.size = w.heap.size + 1 + 1 + 1 := by rw [hW]; simp
        have c0 : W.cell? ⟨w.heap.size, 0, none⟩ = some (.int .i64 z) := by rw [hW]; exact (c3_old _ _ _ _ _ _ _ _).trans (by simp)
        have c1 : W.cell? ⟨w.heap.size, 1, none⟩ = some (.int .i64 v) := by rw [hW]; exact (c3_old _ _ _ _ _ _ _ _).trans (by simp)
        have c2 : W.cell? ⟨w.heap.size, 2, none⟩ = some (.int .i64 pull) := by rw [hW]; exact (c3_old _ _ _ _ _ _ _ _).trans (by simp)
        have c3 : W.cell? ⟨w.heap.size, 3, none⟩ = some (.bool false) := by rw [hW]; exact (c3_old _ _ _ _ _ _ _ _).trans (by simp)
        have r0 : W.cell? ⟨w.heap.size + 1 + 1, 0, none⟩ = some (.int .i64 0) := by rw [hW]; exact (c3_new _ _ _ _ _ _ _).trans (by simp)
        have r1 : W.cell? ⟨w.heap.size + 1 + 1, 1, none⟩ = some (.int .i64 0) := by rw [hW]; exact (c3_new _ _ _ _ _ _ _).trans (by simp)
        have fz : ∀ i, W.frozen? ⟨w.heap.size, i, none⟩ = false := by intro i; rw [hW]; exact (f3_old _ _ _ _ _ _).trans (by simp)
        have fr : ∀ i, W.frozen? ⟨w.heap.size + 1 + 1, i, none⟩ = false := by intro i; rw [hW]; exact f3_new _ _ _ _ _ _ _
        have BW : Below w.heap.size w W := by rw [hW]; exact below_drewN ((((Below.refl _ _).alloc (Nat.le_refl _) _).alloc (by simp) _).alloc (by simp; omega) _) _
        clear hW
        go_wp2_with fail
        (try simp only [Exit.inBlock, Exit.then])
        exact bodyPost_ret (v := .agg #[.int .i64 (min (max (z + v) (-1000)) 50000), .int .i64 (0)]) (by simp [results, Tryz.results117, go_sem, r0, r1]) rfl ⟨ret_agg2 HR.out, ((((((BW).setCell (p := ⟨w.heap.size, 3, none⟩) (Nat.le_refl _) _).setCell (p := ⟨w.heap.size, 0, none⟩) (Nat.le_refl _) _).setCell (p := ⟨w.heap.size, 1, none⟩) (Nat.le_refl _) _).setCell (p := ⟨w.heap.size + 1 + 1, 0, none⟩) (by simp; omega) _).setCell (p := ⟨w.heap.size + 1 + 1, 1, none⟩) (by simp; omega) _)⟩
end Go.Proofs.YtnnnpliigdfipaaGreatDoor
