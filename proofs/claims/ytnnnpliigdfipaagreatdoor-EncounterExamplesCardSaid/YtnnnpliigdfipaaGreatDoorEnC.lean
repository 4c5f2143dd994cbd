/- plane.Fly, whole. -/
import Derived.Test.YtnnnpliigdfipaaGreatDoorRows
import Derived.WalkKit
import Derived.WalkLawsBesides
import Derived.WalkSpells
import Derived.ProofKit
import Derived.Below
import Derived.Outline
import Derived.Lib.Hide
import Derived.Deep.RegionWith
import Derived.Deep.RegionHeld3
import Derived.Deep.DrawnRows
import Derived.StillTailTactics
import Derived.BigQuiet
import Derived.Deep.QuietTactic
import Derived.Deep.LoopGhost
import Derived.IntWalk
import Derived.Lib.MinMax
import Derived.Test.YtnnnpliigdfipaaGreatDoorEnB
namespace Go.Proofs.YtnnnpliigdfipaaGreatDoor
open Go.RowKit
attribute [local go_sem ↓] Go.wp_at_zero Go.wp_at_succ
attribute [local go_sem] wrap_lit
theorem c2_old (w : World) (a : Array Value) (t : TypeId) (f : Nat × Nat) (B : Obj) (i : Nat) : ((w.alloc (.cells a t f)).alloc B).cell? ⟨w.heap.size, i, none⟩ = (w.alloc (.cells a t f)).cell? ⟨w.heap.size, i, none⟩ := by
  rw [World.cell?_alloc_lt _ _ _ (by simp)]
theorem c2_new (w : World) (A : Obj) (a : Array Value) (t : TypeId) (i : Nat) : ((w.alloc A).alloc (.cells a t)).cell? ⟨w.heap.size + 1, i, none⟩ = a[i]? := by
  have h : (w.alloc A).heap.size = w.heap.size + 1 := by simp
  rw [← h, World.cell?_alloc_new]
theorem f2_new (w : World) (A : Obj) (a : Array Value) (t : TypeId) (i : Nat) : ((w.alloc A).alloc (.cells a t)).frozen? ⟨w.heap.size + 1, i, none⟩ = false := by
  have h : (w.alloc A).heap.size = w.heap.size + 1 := by simp
  rw [← h, World.frozen?_alloc_new]
/-- plane.Fly: state and error. -/
def flyAll (z v lo hi pull : Int) : (Int × Int) × Int := if plE z v = 1 then ((0, 0), 1) else if bdB lo hi = true ∧ inB pull 0 32 = true then (flyR z v lo hi pull, 0) else ((0, 0), 1)
theorem ret_fly {R : (Int × Int) × Int} {a b c : Int} (h : R = ((a, b), c)) : Ending.returned (.tuple #[.agg #[.int .i64 a, .int .i64 b], .int .i64 c]) = .returned (.tuple #[.agg #[.int .i64 R.1.1, .int .i64 R.1.2], .int .i64 R.2]) := by rw [h]
set_option maxHeartbeats 2000000 in
theorem fly81 (z v lo hi pull : Int) (w : World) : Calls Tryz.prog 81 #[.agg #[.int .i64 z, .int .i64 v], .int .i64 lo, .int .i64 hi, .int .i64 pull] w fun e w' => e = .returned (.tuple #[.agg #[.int .i64 (flyAll z v lo hi pull).1.1, .int .i64 (flyAll z v lo hi pull).1.2], .int .i64 (flyAll z v lo hi pull).2]) ∧ Below w.heap.size w w' := by
  by_cases hp : plE z v = 1
  · have HR : Hid (flyAll z v lo hi pull = ((0, 0), 1)) := Lib.hid (by unfold flyAll; rw [if_pos hp])
    have H1 := Lib.hid hp
    clear hp
    go_enter Tryz.func81, Tryz.ntmps81
    go_wp2_with fail
    refine (pcheck114 z v _).mono ?_
    rintro e w1 ⟨rfl, hb1⟩
    rw [H1.out]
    have r0 : w1.cell? ⟨w.heap.size + 1, 0, none⟩ = some (.int .i64 0) := (hb1.cell (p := ⟨w.heap.size + 1, 0, none⟩) (by simp)).trans ((c2_new _ _ _ _ _).trans (by simp))
    have r1 : w1.cell? ⟨w.heap.size + 1, 1, none⟩ = some (.int .i64 0) := (hb1.cell (p := ⟨w.heap.size + 1, 1, none⟩) (by simp)).trans ((c2_new _ _ _ _ _).trans (by simp))
    have fr : ∀ i, w1.frozen? ⟨w.heap.size + 1, i, none⟩ = false := fun i => (hb1.frozen (p := ⟨w.heap.size + 1, i, none⟩) (by simp)).trans (f2_new _ _ _ _ _)
    have B1 : Below w.heap.size w w1 := (((Below.refl _ _).alloc (Nat.le_refl _) _).alloc (by simp) _).trans (hb1.mono (by simp; omega))
    go_wp2_with fail
    (try simp only [Exit.inBlock, Exit.then])
    exact bodyPost_ret (v := .tuple #[.agg #[.int .i64 0, .int .i64 0], .int .i64 1]) (by simp [results, Tryz.results81, go_sem, r0, r1]) rfl ⟨ret_fly HR.out, (B1.setCell (p := ⟨w.heap.size + 1, 0, none⟩) (by simp) _).setCell (p := ⟨w.heap.size + 1, 1, none⟩) (by simp) _⟩
  · have HP : Hid (plE z v = 0) := Lib.hid (by rcases (by unfold plE; split <;> simp : plE z v = 0 ∨ plE z v = 1) with h | h; exact h; exact absurd h hp)
    clear hp
    cases hd : bdB lo hi with
    | false =>
      have HR : Hid (flyAll z v lo hi pull = ((0, 0), 1)) := Lib.hid (by unfold flyAll; rw [if_neg (by rw [HP.out]; decide), if_neg (by simp [hd])])
      have H1 := Lib.hid hd
      clear hd
      go_enter Tryz.func81, Tryz.ntmps81
      go_wp2_with fail
      refine (pcheck114 z v _).mono ?_
      rintro e w1 ⟨rfl, hb1⟩
      rw [HP.out]
      have s1 : w.heap.size + 1 + 1 ≤ w1.heap.size := by have := hb1.size; simpa using this
      have c0 : w1.cell? ⟨w.heap.size, 0, none⟩ = some (.int .i64 z) := (hb1.cell (p := ⟨w.heap.size, 0, none⟩) (by simp; omega)).trans ((c2_old _ _ _ _ _ _).trans (by simp))
      have c1 : w1.cell? ⟨w.heap.size, 1, none⟩ = some (.int .i64 v) := (hb1.cell (p := ⟨w.heap.size, 1, none⟩) (by simp; omega)).trans ((c2_old _ _ _ _ _ _).trans (by simp))
      have r0 : w1.cell? ⟨w.heap.size + 1, 0, none⟩ = some (.int .i64 0) := (hb1.cell (p := ⟨w.heap.size + 1, 0, none⟩) (by simp)).trans ((c2_new _ _ _ _ _).trans (by simp))
      have r1 : w1.cell? ⟨w.heap.size + 1, 1, none⟩ = some (.int .i64 0) := (hb1.cell (p := ⟨w.heap.size + 1, 1, none⟩) (by simp)).trans ((c2_new _ _ _ _ _).trans (by simp))
      have fr : ∀ i, w1.frozen? ⟨w.heap.size + 1, i, none⟩ = false := fun i => (hb1.frozen (p := ⟨w.heap.size + 1, i, none⟩) (by simp)).trans (f2_new _ _ _ _ _)
      have B1 : Below w.heap.size w w1 := (((Below.refl _ _).alloc (Nat.le_refl _) _).alloc (by simp) _).trans (hb1.mono (by simp; omega))
      go_wp2_with fail
      refine (valid115 lo hi _).mono ?_
      rintro e w2 ⟨rfl, hb2⟩
      have D : Below w1.heap.size w1 w2 := ((Below.refl _ _).alloc (Nat.le_refl _) _).trans (hb2.mono (by simp))
      have s2 : w1.heap.size + 1 ≤ w2.heap.size := by have := hb2.size; simpa using this
      have d0 : w2.cell? ⟨w.heap.size, 0, none⟩ = some (.int .i64 z) := (D.cell (p := ⟨w.heap.size, 0, none⟩) (by show w.heap.size < _; omega)).trans c0
      have d1 : w2.cell? ⟨w.heap.size, 1, none⟩ = some (.int .i64 v) := (D.cell (p := ⟨w.heap.size, 1, none⟩) (by show w.heap.size < _; omega)).trans c1
      have q0 : w2.cell? ⟨w.heap.size + 1, 0, none⟩ = some (.int .i64 0) := (D.cell (p := ⟨w.heap.size + 1, 0, none⟩) (by show w.heap.size + 1 < _; omega)).trans r0
      have q1 : w2.cell? ⟨w.heap.size + 1, 1, none⟩ = some (.int .i64 0) := (D.cell (p := ⟨w.heap.size + 1, 1, none⟩) (by show w.heap.size + 1 < _; omega)).trans r1
      have g2 : ∀ i, w2.frozen? ⟨w.heap.size + 1, i, none⟩ = false := fun i => (D.frozen (p := ⟨w.heap.size + 1, i, none⟩) (by show w.heap.size + 1 < _; omega)).trans (fr i)
      have B2 : Below w.heap.size w w2 := B1.trans (D.mono (by omega))
      rw [H1.out]
      go_wp2_with fail
      (try simp only [Exit.inBlock, Exit.then])
      exact bodyPost_ret (v := .tuple #[.agg #[.int .i64 0, .int .i64 0], .int .i64 1]) (by simp [results, Tryz.results81, go_sem, q0, q1]) rfl ⟨ret_fly HR.out, (B2.setCell (p := ⟨w.heap.size + 1, 0, none⟩) (by simp) _).setCell (p := ⟨w.heap.size + 1, 1, none⟩) (by simp) _⟩
    | true =>
      have H1 := Lib.hid hd
      cases hu : inB pull 0 32 with
      | false =>
        have HR : Hid (flyAll z v lo hi pull = ((0, 0), 1)) := Lib.hid (by unfold flyAll; rw [if_neg (by rw [HP.out]; decide), if_neg (by simp [hu])])
        have H2 := Lib.hid hu
        clear hd hu
        go_enter Tryz.func81, Tryz.ntmps81
        go_wp2_with fail
        refine (pcheck114 z v _).mono ?_
        rintro e w1 ⟨rfl, hb1⟩
        rw [HP.out]
        have s1 : w.heap.size + 1 + 1 ≤ w1.heap.size := by have := hb1.size; simpa using this
        have c0 : w1.cell? ⟨w.heap.size, 0, none⟩ = some (.int .i64 z) := (hb1.cell (p := ⟨w.heap.size, 0, none⟩) (by simp; omega)).trans ((c2_old _ _ _ _ _ _).trans (by simp))
        have c1 : w1.cell? ⟨w.heap.size, 1, none⟩ = some (.int .i64 v) := (hb1.cell (p := ⟨w.heap.size, 1, none⟩) (by simp; omega)).trans ((c2_old _ _ _ _ _ _).trans (by simp))
        have r0 : w1.cell? ⟨w.heap.size + 1, 0, none⟩ = some (.int .i64 0) := (hb1.cell (p := ⟨w.heap.size + 1, 0, none⟩) (by simp)).trans ((c2_new _ _ _ _ _).trans (by simp))
        have r1 : w1.cell? ⟨w.heap.size + 1, 1, none⟩ = some (.int .i64 0) := (hb1.cell (p := ⟨w.heap.size + 1, 1, none⟩) (by simp)).trans ((c2_new _ _ _ _ _).trans (by simp))
        have fr : ∀ i, w1.frozen? ⟨w.heap.size + 1, i, none⟩ = false := fun i => (hb1.frozen (p := ⟨w.heap.size + 1, i, none⟩) (by simp)).trans (f2_new _ _ _ _ _)
        have B1 : Below w.heap.size w w1 := (((Below.refl _ _).alloc (Nat.le_refl _) _).alloc (by simp) _).trans (hb1.mono (by simp; omega))
        go_wp2_with fail
        refine (valid115 lo hi _).mono ?_
        rintro e w2 ⟨rfl, hb2⟩
        have D : Below w1.heap.size w1 w2 := ((Below.refl _ _).alloc (Nat.le_refl _) _).trans (hb2.mono (by simp))
        have s2 : w1.heap.size + 1 ≤ w2.heap.size := by have := hb2.size; simpa using this
        have d0 : w2.cell? ⟨w.heap.size, 0, none⟩ = some (.int .i64 z) := (D.cell (p := ⟨w.heap.size, 0, none⟩) (by show w.heap.size < _; omega)).trans c0
        have d1 : w2.cell? ⟨w.heap.size, 1, none⟩ = some (.int .i64 v) := (D.cell (p := ⟨w.heap.size, 1, none⟩) (by show w.heap.size < _; omega)).trans c1
        have q0 : w2.cell? ⟨w.heap.size + 1, 0, none⟩ = some (.int .i64 0) := (D.cell (p := ⟨w.heap.size + 1, 0, none⟩) (by show w.heap.size + 1 < _; omega)).trans r0
        have q1 : w2.cell? ⟨w.heap.size + 1, 1, none⟩ = some (.int .i64 0) := (D.cell (p := ⟨w.heap.size + 1, 1, none⟩) (by show w.heap.size + 1 < _; omega)).trans r1
        have g2 : ∀ i, w2.frozen? ⟨w.heap.size + 1, i, none⟩ = false := fun i => (D.frozen (p := ⟨w.heap.size + 1, i, none⟩) (by show w.heap.size + 1 < _; omega)).trans (fr i)
        have B2 : Below w.heap.size w w2 := B1.trans (D.mono (by omega))
        rw [H1.out]
        go_wp2_with fail
        refine (in116 pull 0 32 _).mono ?_
        rintro e w3 ⟨rfl, rfl⟩
        rw [H2.out]
        go_wp2_with fail
        (try simp only [Exit.inBlock, Exit.then])
        exact bodyPost_ret (v := .tuple #[.agg #[.int .i64 0, .int .i64 0], .int .i64 1]) (by simp [results, Tryz.results81, go_sem, q0, q1]) rfl ⟨ret_fly HR.out, (B2.setCell (p := ⟨w.heap.size + 1, 0, none⟩) (by simp) _).setCell (p := ⟨w.heap.size + 1, 1, none⟩) (by simp) _⟩
      | true =>
        have HR : Hid (flyAll z v lo hi pull = (flyR z v lo hi pull, 0)) := Lib.hid (by unfold flyAll; rw [if_neg (by rw [HP.out]; decide), if_pos ⟨hd, hu⟩])
        have H2 := Lib.hid hu
        clear hd hu
        go_enter Tryz.func81, Tryz.ntmps81
        go_wp2_with fail
        refine (pcheck114 z v _).mono ?_
        rintro e w1 ⟨rfl, hb1⟩
        rw [HP.out]
        have s1 : w.heap.size + 1 + 1 ≤ w1.heap.size := by have := hb1.size; simpa using this
        have c0 : w1.cell? ⟨w.heap.size, 0, none⟩ = some (.int .i64 z) := (hb1.cell (p := ⟨w.heap.size, 0, none⟩) (by simp; omega)).trans ((c2_old _ _ _ _ _ _).trans (by simp))
        have c1 : w1.cell? ⟨w.heap.size, 1, none⟩ = some (.int .i64 v) := (hb1.cell (p := ⟨w.heap.size, 1, none⟩) (by simp; omega)).trans ((c2_old _ _ _ _ _ _).trans (by simp))
        have r0 : w1.cell? ⟨w.heap.size + 1, 0, none⟩ = some (.int .i64 0) := (hb1.cell (p := ⟨w.heap.size + 1, 0, none⟩) (by simp)).trans ((c2_new _ _ _ _ _).trans (by simp))
        have r1 : w1.cell? ⟨w.heap.size + 1, 1, none⟩ = some (.int .i64 0) := (hb1.cell (p := ⟨w.heap.size + 1, 1, none⟩) (by simp)).trans ((c2_new _ _ _ _ _).trans (by simp))
        have fr : ∀ i, w1.frozen? ⟨w.heap.size + 1, i, none⟩ = false := fun i => (hb1.frozen (p := ⟨w.heap.size + 1, i, none⟩) (by simp)).trans (f2_new _ _ _ _ _)
        have B1 : Below w.heap.size w w1 := (((Below.refl _ _).alloc (Nat.le_refl _) _).alloc (by simp) _).trans (hb1.mono (by simp; omega))
        go_wp2_with fail
        refine (valid115 lo hi _).mono ?_
        rintro e w2 ⟨rfl, hb2⟩
        have D : Below w1.heap.size w1 w2 := ((Below.refl _ _).alloc (Nat.le_refl _) _).trans (hb2.mono (by simp))
        have s2 : w1.heap.size + 1 ≤ w2.heap.size := by have := hb2.size; simpa using this
        have d0 : w2.cell? ⟨w.heap.size, 0, none⟩ = some (.int .i64 z) := (D.cell (p := ⟨w.heap.size, 0, none⟩) (by show w.heap.size < _; omega)).trans c0
        have d1 : w2.cell? ⟨w.heap.size, 1, none⟩ = some (.int .i64 v) := (D.cell (p := ⟨w.heap.size, 1, none⟩) (by show w.heap.size < _; omega)).trans c1
        have q0 : w2.cell? ⟨w.heap.size + 1, 0, none⟩ = some (.int .i64 0) := (D.cell (p := ⟨w.heap.size + 1, 0, none⟩) (by show w.heap.size + 1 < _; omega)).trans r0
        have q1 : w2.cell? ⟨w.heap.size + 1, 1, none⟩ = some (.int .i64 0) := (D.cell (p := ⟨w.heap.size + 1, 1, none⟩) (by show w.heap.size + 1 < _; omega)).trans r1
        have g2 : ∀ i, w2.frozen? ⟨w.heap.size + 1, i, none⟩ = false := fun i => (D.frozen (p := ⟨w.heap.size + 1, i, none⟩) (by show w.heap.size + 1 < _; omega)).trans (fr i)
        have B2 : Below w.heap.size w w2 := B1.trans (D.mono (by omega))
        rw [H1.out]
        go_wp2_with fail
        refine (in116 pull 0 32 _).mono ?_
        rintro e w3 ⟨rfl, rfl⟩
        rw [H2.out]
        have e0 : w2.cell? ⟨w1.heap.size, 0, none⟩ = some (.int .i64 lo) := (hb2.cell (p := ⟨w1.heap.size, 0, none⟩) (by simp)).trans (by simp)
        have e1 : w2.cell? ⟨w1.heap.size, 1, none⟩ = some (.int .i64 hi) := (hb2.cell (p := ⟨w1.heap.size, 1, none⟩) (by simp)).trans (by simp)
        have x0 : ∀ o, (w2.alloc o).cell? ⟨w1.heap.size, 0, none⟩ = some (.int .i64 lo) := fun o => (World.cell?_alloc_lt _ _ _ (by show w1.heap.size < _; omega)).trans e0
        have x1 : ∀ o, (w2.alloc o).cell? ⟨w1.heap.size, 1, none⟩ = some (.int .i64 hi) := fun o => (World.cell?_alloc_lt _ _ _ (by show w1.heap.size < _; omega)).trans e1
        go_wp2_with fail
        obtain ⟨hz, hv⟩ : inB z (-1000) 50000 = true ∧ inB v (-100) 100 = true := by
          have h := HP.out
          unfold plE at h
          split at h
          · assumption
          · simp at h
        obtain ⟨z0, z1⟩ := inB_iff hz
        obtain ⟨v0, v1⟩ := inB_iff hv
        obtain ⟨p0, p1⟩ := inB_iff H2.out
        have hl : -100 ≤ lo := by
          have h := H1.out
          unfold bdB at h
          rw [Bool.and_eq_true] at h
          exact (inB_iff h.1).1
        refine (fly117 z v pull lo hi w2 z0 z1 v0 v1 p0 p1 hl).mono ?_
        rintro e w4 ⟨rfl, hb4⟩
        have k0 : w4.cell? ⟨w.heap.size + 1, 0, none⟩ = some (.int .i64 0) := (hb4.cell (p := ⟨w.heap.size + 1, 0, none⟩) (by show w.heap.size + 1 < _; omega)).trans q0
        have k1 : w4.cell? ⟨w.heap.size + 1, 1, none⟩ = some (.int .i64 0) := (hb4.cell (p := ⟨w.heap.size + 1, 1, none⟩) (by show w.heap.size + 1 < _; omega)).trans q1
        have g4 : ∀ i, w4.frozen? ⟨w.heap.size + 1, i, none⟩ = false := fun i => (hb4.frozen (p := ⟨w.heap.size + 1, i, none⟩) (by show w.heap.size + 1 < _; omega)).trans (g2 i)
        have B4 : Below w.heap.size w w4 := B2.trans (hb4.mono (by omega))
        generalize flyR z v lo hi pull = R at *
        go_wp2_with fail
        (try simp only [Exit.inBlock, Exit.then])
        exact bodyPost_ret (v := .tuple #[.agg #[.int .i64 R.1, .int .i64 R.2], .int .i64 0]) (by simp [results, Tryz.results81, go_sem, k0, k1]) rfl ⟨by rw [HR.out], (B4.setCell (p := ⟨w.heap.size + 1, 0, none⟩) (by simp) _).setCell (p := ⟨w.heap.size + 1, 1, none⟩) (by simp) _⟩
end Go.Proofs.YtnnnpliigdfipaaGreatDoor
