/- GeometryTurns returns true for every input. -/
import Derived.Test.YtdflamblbhpngaaRows
import Derived.WalkKit
import Derived.WalkLawsBesides
import Derived.WalkSpells
import Derived.ProofKit
import Derived.Below
import Derived.Outline
import Derived.Lib.Hide
import Derived.Deep.RegionWith
import Derived.Deep.RegionHeld3
import Derived.Deep.DrawnRows
import Derived.StillTailTactics
import Derived.BigQuiet
import Derived.Deep.QuietTactic
import Derived.Deep.LoopGhost
import Derived.IntWalk
import Derived.Test.YtdflamblbhpngaaGeY
import Derived.Test.YtdflamblbhpngaaKO
import Derived.WalkKit
import Derived.ProofKit
import Derived.OpenShut
import Derived.ShutString
import Derived.ChangeOld
import Derived.Below
import Derived.Lib.SmallJoins
namespace Go.Proofs.Ytdflamblbhpngaa
open Go.RowKit
attribute [local go_sem ↓] Go.wp_at_zero Go.wp_at_succ
attribute [local go_sem] wrap_lit

set_option maxRecDepth 100000 in
set_option maxHeartbeats 4000000 in
theorem turnsE (p q v u : V3) (d t : Int) (w : World) (T0 : Hid (∀ w, Calls Try.prog 16 #[.agg #[.int .i64 p.x, .int .i64 p.y, .int .i64 p.z], .agg #[.int .i64 q.x, .int .i64 q.y, .int .i64 q.z], .agg #[.int .i64 v.x, .int .i64 v.y, .int .i64 v.z], .agg #[.int .i64 u.x, .int .i64 u.y, .int .i64 u.z], .int .i64 d, .int .i64 t] w fun e w' => e = .returned (.tuple #[.bool false, .int .i64 1]) ∧ Below w.heap.size w w')) : Calls Try.prog 5 #[.agg #[.int .i64 p.x, .int .i64 p.y, .int .i64 p.z, .int .i64 q.x, .int .i64 q.y, .int .i64 q.z, .int .i64 v.x, .int .i64 v.y, .int .i64 v.z, .int .i64 u.x, .int .i64 u.y, .int .i64 u.z], .int .i64 d, .int .i64 t] w fun e w' => e = .returned (.bool true) ∧ Below w.heap.size w w' := by
  go_enter Try.func5, Try.ntmps5
  go_wp2_with fail
  refine (T0.out _).mono ?_
  rintro e w1 ⟨rfl, hb1⟩
  have hc1 := (bcell hb1).1
  have hf1 := (bcell hb1).2
  have hs1 := hb1.size
  try simp at hs1
  have hz1_0 : w.heap.size < w1.heap.size := by omega
  have B1 : Below w.heap.size w w1 := ((Below.refl _ _).alloc (Nat.le_refl _) _).trans (hb1.mono (by first | omega | (simp; omega) | simp))
  go_wp2_with fail
  refine (awake18 _).mono ?_
  rintro e w2 ⟨rfl, hb2⟩
  have hc2 := (bcell hb2).1
  have hf2 := (bcell hb2).2
  have hs2 := hb2.size
  try simp at hs2
  have hz2_0 : w.heap.size < w2.heap.size := by omega
  have B2 : Below w.heap.size w w2 := (B1).trans (hb2.mono (by first | omega | (simp; omega) | simp))
  go_wp2_with fail
  go_ret
  exact ⟨rfl, B2⟩

set_option maxRecDepth 100000 in
set_option maxHeartbeats 4000000 in
theorem turnsG (p q v u : V3) (d t : Int) (b : Bool) (w : World) (T0 : Hid (∀ w, Calls Try.prog 16 #[.agg #[.int .i64 p.x, .int .i64 p.y, .int .i64 p.z], .agg #[.int .i64 q.x, .int .i64 q.y, .int .i64 q.z], .agg #[.int .i64 v.x, .int .i64 v.y, .int .i64 v.z], .agg #[.int .i64 u.x, .int .i64 u.y, .int .i64 u.z], .int .i64 d, .int .i64 t] w fun e w' => e = .returned (.tuple #[.bool b, .int .i64 0]) ∧ Below w.heap.size w w'))
    (T1 : Hid (∀ w, Calls Try.prog 20 #[.agg #[.int .i64 p.x, .int .i64 p.y, .int .i64 p.z, .int .i64 q.x, .int .i64 q.y, .int .i64 q.z, .int .i64 v.x, .int .i64 v.y, .int .i64 v.z, .int .i64 u.x, .int .i64 u.y, .int .i64 u.z], .bool false] w fun e w' => e = .returned (.agg #[.int .i64 p.y, .int .i64 p.x, .int .i64 p.z, .int .i64 q.y, .int .i64 q.x, .int .i64 q.z, .int .i64 v.y, .int .i64 v.x, .int .i64 v.z, .int .i64 u.y, .int .i64 u.x, .int .i64 u.z]) ∧ Below w.heap.size w w')) (T2 : Hid (∀ w, Calls Try.prog 20 #[.agg #[.int .i64 p.x, .int .i64 p.y, .int .i64 p.z, .int .i64 q.x, .int .i64 q.y, .int .i64 q.z, .int .i64 v.x, .int .i64 v.y, .int .i64 v.z, .int .i64 u.x, .int .i64 u.y, .int .i64 u.z], .bool true] w fun e w' => e = .returned (.agg #[.int .i64 (-p.x), .int .i64 p.y, .int .i64 p.z, .int .i64 (-q.x), .int .i64 q.y, .int .i64 q.z, .int .i64 (-v.x), .int .i64 v.y, .int .i64 v.z, .int .i64 (-u.x), .int .i64 u.y, .int .i64 u.z]) ∧ Below w.heap.size w w'))
    (S1 : Hid (∀ w, Calls Try.prog 21 #[.agg #[.int .i64 p.x, .int .i64 p.y, .int .i64 p.z, .int .i64 q.x, .int .i64 q.y, .int .i64 q.z, .int .i64 v.x, .int .i64 v.y, .int .i64 v.z, .int .i64 u.x, .int .i64 u.y, .int .i64 u.z], .agg #[.int .i64 q.x, .int .i64 q.y, .int .i64 q.z, .int .i64 p.x, .int .i64 p.y, .int .i64 p.z, .int .i64 u.x, .int .i64 u.y, .int .i64 u.z, .int .i64 v.x, .int .i64 v.y, .int .i64 v.z]] w fun e w' => e = .returned (.bool true) ∧ Below w.heap.size w w')) (S2 : Hid (∀ w, Calls Try.prog 21 #[.agg #[.int .i64 p.x, .int .i64 p.y, .int .i64 p.z, .int .i64 q.x, .int .i64 q.y, .int .i64 q.z, .int .i64 v.x, .int .i64 v.y, .int .i64 v.z, .int .i64 u.x, .int .i64 u.y, .int .i64 u.z], .agg #[.int .i64 p.y, .int .i64 p.x, .int .i64 p.z, .int .i64 q.y, .int .i64 q.x, .int .i64 q.z, .int .i64 v.y, .int .i64 v.x, .int .i64 v.z, .int .i64 u.y, .int .i64 u.x, .int .i64 u.z]] w fun e w' => e = .returned (.bool true) ∧ Below w.heap.size w w')) (S3 : Hid (∀ w, Calls Try.prog 21 #[.agg #[.int .i64 p.x, .int .i64 p.y, .int .i64 p.z, .int .i64 q.x, .int .i64 q.y, .int .i64 q.z, .int .i64 v.x, .int .i64 v.y, .int .i64 v.z, .int .i64 u.x, .int .i64 u.y, .int .i64 u.z], .agg #[.int .i64 (-p.x), .int .i64 p.y, .int .i64 p.z, .int .i64 (-q.x), .int .i64 q.y, .int .i64 q.z, .int .i64 (-v.x), .int .i64 v.y, .int .i64 v.z, .int .i64 (-u.x), .int .i64 u.y, .int .i64 u.z]] w fun e w' => e = .returned (.bool true) ∧ Below w.heap.size w w'))
    (I1 : Hid (∀ w, Calls Try.prog 19 #[.agg #[.int .i64 q.x, .int .i64 q.y, .int .i64 q.z, .int .i64 p.x, .int .i64 p.y, .int .i64 p.z, .int .i64 u.x, .int .i64 u.y, .int .i64 u.z, .int .i64 v.x, .int .i64 v.y, .int .i64 v.z], .int .i64 d, .int .i64 t, .bool b] w fun e w' => e = .returned (.bool true) ∧ Below w.heap.size w w')) (I2 : Hid (∀ w, Calls Try.prog 19 #[.agg #[.int .i64 p.y, .int .i64 p.x, .int .i64 p.z, .int .i64 q.y, .int .i64 q.x, .int .i64 q.z, .int .i64 v.y, .int .i64 v.x, .int .i64 v.z, .int .i64 u.y, .int .i64 u.x, .int .i64 u.z], .int .i64 d, .int .i64 t, .bool b] w fun e w' => e = .returned (.bool true) ∧ Below w.heap.size w w')) (I3 : Hid (∀ w, Calls Try.prog 19 #[.agg #[.int .i64 (-p.x), .int .i64 p.y, .int .i64 p.z, .int .i64 (-q.x), .int .i64 q.y, .int .i64 q.z, .int .i64 (-v.x), .int .i64 v.y, .int .i64 v.z, .int .i64 (-u.x), .int .i64 u.y, .int .i64 u.z], .int .i64 d, .int .i64 t, .bool b] w fun e w' => e = .returned (.bool true) ∧ Below w.heap.size w w')) : Calls Try.prog 5 #[.agg #[.int .i64 p.x, .int .i64 p.y, .int .i64 p.z, .int .i64 q.x, .int .i64 q.y, .int .i64 q.z, .int .i64 v.x, .int .i64 v.y, .int .i64 v.z, .int .i64 u.x, .int .i64 u.y, .int .i64 u.z], .int .i64 d, .int .i64 t] w fun e w' => e = .returned (.bool true) ∧ Below w.heap.size w w' := by
  go_enter Try.func5, Try.ntmps5
  go_wp2_with fail
  refine (T0.out _).mono ?_
  rintro e w1 ⟨rfl, hb1⟩
  have hc1 := (bcell hb1).1
  have hf1 := (bcell hb1).2
  have hs1 := hb1.size
  try simp at hs1
  have hz1_0 : w.heap.size < w1.heap.size := by omega
  have B1 : Below w.heap.size w w1 := ((Below.refl _ _).alloc (Nat.le_refl _) _).trans (hb1.mono (by first | omega | (simp; omega) | simp))
  go_wp2_with fail
  refine (awake18 _).mono ?_
  rintro e w2 ⟨rfl, hb2⟩
  have hc2 := (bcell hb2).1
  have hf2 := (bcell hb2).2
  have hs2 := hb2.size
  try simp at hs2
  have hz2_0 : w.heap.size < w2.heap.size := by omega
  have B2 : Below w.heap.size w w2 := (B1).trans (hb2.mono (by first | omega | (simp; omega) | simp))
  go_wp2_with fail
  obtain ⟨X, hX⟩ : ∃ X, X = w2 := ⟨_, rfl⟩
  have k_0 : X.cell? ⟨w.heap.size, 0, none⟩ = some (.int .i64 p.x) := by rw [hX]; go_simp
  have k_1 : X.cell? ⟨w.heap.size, 1, none⟩ = some (.int .i64 p.y) := by rw [hX]; go_simp
  have k_2 : X.cell? ⟨w.heap.size, 2, none⟩ = some (.int .i64 p.z) := by rw [hX]; go_simp
  have k_3 : X.cell? ⟨w.heap.size, 3, none⟩ = some (.int .i64 q.x) := by rw [hX]; go_simp
  have k_4 : X.cell? ⟨w.heap.size, 4, none⟩ = some (.int .i64 q.y) := by rw [hX]; go_simp
  have k_5 : X.cell? ⟨w.heap.size, 5, none⟩ = some (.int .i64 q.z) := by rw [hX]; go_simp
  have k_6 : X.cell? ⟨w.heap.size, 6, none⟩ = some (.int .i64 v.x) := by rw [hX]; go_simp
  have k_7 : X.cell? ⟨w.heap.size, 7, none⟩ = some (.int .i64 v.y) := by rw [hX]; go_simp
  have k_8 : X.cell? ⟨w.heap.size, 8, none⟩ = some (.int .i64 v.z) := by rw [hX]; go_simp
  have k_9 : X.cell? ⟨w.heap.size, 9, none⟩ = some (.int .i64 u.x) := by rw [hX]; go_simp
  have k_10 : X.cell? ⟨w.heap.size, 10, none⟩ = some (.int .i64 u.y) := by rw [hX]; go_simp
  have k_11 : X.cell? ⟨w.heap.size, 11, none⟩ = some (.int .i64 u.z) := by rw [hX]; go_simp
  have zX_0 : w.heap.size < X.heap.size := by rw [hX]; omega
  have BX : Below w.heap.size w X := by rw [hX]; exact B2
  rw [← hX]
  clear hX
  clear B1 B2 hb1 hb2 hc1 hc2 hf1 hf2 hs1 hs2 hz1_0 hz2_0
  go_region_held3 (fun w' => w'.cell? ⟨w.heap.size, 0, none⟩ = some (.int .i64 p.x) ∧ w'.cell? ⟨w.heap.size, 1, none⟩ = some (.int .i64 p.y) ∧ w'.cell? ⟨w.heap.size, 2, none⟩ = some (.int .i64 p.z) ∧ w'.cell? ⟨w.heap.size, 3, none⟩ = some (.int .i64 q.x) ∧ w'.cell? ⟨w.heap.size, 4, none⟩ = some (.int .i64 q.y) ∧ w'.cell? ⟨w.heap.size, 5, none⟩ = some (.int .i64 q.z) ∧ w'.cell? ⟨w.heap.size, 6, none⟩ = some (.int .i64 v.x) ∧ w'.cell? ⟨w.heap.size, 7, none⟩ = some (.int .i64 v.y) ∧ w'.cell? ⟨w.heap.size, 8, none⟩ = some (.int .i64 v.z) ∧ w'.cell? ⟨w.heap.size, 9, none⟩ = some (.int .i64 u.x) ∧ w'.cell? ⟨w.heap.size, 10, none⟩ = some (.int .i64 u.y) ∧ w'.cell? ⟨w.heap.size, 11, none⟩ = some (.int .i64 u.z)) (first | exact ⟨k_0, k_1, k_2, k_3, k_4, k_5, k_6, k_7, k_8, k_9, k_10, k_11⟩ | exact ⟨r4_0, r4_1, r4_2, r4_3, r4_4, r4_5, r4_6, r4_7, r4_8, r4_9, r4_10, r4_11⟩ | exact ⟨r3_0, r3_1, r3_2, r3_3, r3_4, r3_5, r3_6, r3_7, r3_8, r3_9, r3_10, r3_11⟩ | go_keep) (first
    | ((with_reducible refine (T1.out _).mono ?_); rintro e w3 ⟨rfl, hb3⟩; have hs3 := hb3.size; (try simp at hs3); have z3_0 : w.heap.size < w3.heap.size := (by omega); have r3_0 := (hb3.cell (p := ⟨w.heap.size, 0, none⟩) zX_0).trans k_0; have r3_1 := (hb3.cell (p := ⟨w.heap.size, 1, none⟩) zX_0).trans k_1; have r3_2 := (hb3.cell (p := ⟨w.heap.size, 2, none⟩) zX_0).trans k_2; have r3_3 := (hb3.cell (p := ⟨w.heap.size, 3, none⟩) zX_0).trans k_3; have r3_4 := (hb3.cell (p := ⟨w.heap.size, 4, none⟩) zX_0).trans k_4; have r3_5 := (hb3.cell (p := ⟨w.heap.size, 5, none⟩) zX_0).trans k_5; have r3_6 := (hb3.cell (p := ⟨w.heap.size, 6, none⟩) zX_0).trans k_6; have r3_7 := (hb3.cell (p := ⟨w.heap.size, 7, none⟩) zX_0).trans k_7; have r3_8 := (hb3.cell (p := ⟨w.heap.size, 8, none⟩) zX_0).trans k_8; have r3_9 := (hb3.cell (p := ⟨w.heap.size, 9, none⟩) zX_0).trans k_9; have r3_10 := (hb3.cell (p := ⟨w.heap.size, 10, none⟩) zX_0).trans k_10; have r3_11 := (hb3.cell (p := ⟨w.heap.size, 11, none⟩) zX_0).trans k_11)
    | ((with_reducible refine (T2.out _).mono ?_); rintro e w4 ⟨rfl, hb4⟩; have hs4 := hb4.size; (try simp at hs4); have z4_0 : w.heap.size < w4.heap.size := (by omega); have r4_0 := (hb4.cell (p := ⟨w.heap.size, 0, none⟩) z3_0).trans r3_0; have r4_1 := (hb4.cell (p := ⟨w.heap.size, 1, none⟩) z3_0).trans r3_1; have r4_2 := (hb4.cell (p := ⟨w.heap.size, 2, none⟩) z3_0).trans r3_2; have r4_3 := (hb4.cell (p := ⟨w.heap.size, 3, none⟩) z3_0).trans r3_3; have r4_4 := (hb4.cell (p := ⟨w.heap.size, 4, none⟩) z3_0).trans r3_4; have r4_5 := (hb4.cell (p := ⟨w.heap.size, 5, none⟩) z3_0).trans r3_5; have r4_6 := (hb4.cell (p := ⟨w.heap.size, 6, none⟩) z3_0).trans r3_6; have r4_7 := (hb4.cell (p := ⟨w.heap.size, 7, none⟩) z3_0).trans r3_7; have r4_8 := (hb4.cell (p := ⟨w.heap.size, 8, none⟩) z3_0).trans r3_8; have r4_9 := (hb4.cell (p := ⟨w.heap.size, 9, none⟩) z3_0).trans r3_9; have r4_10 := (hb4.cell (p := ⟨w.heap.size, 10, none⟩) z3_0).trans r3_10; have r4_11 := (hb4.cell (p := ⟨w.heap.size, 11, none⟩) z3_0).trans r3_11))
  go_wp2_with fail
  obtain ⟨Y, hY⟩ : ∃ Y, Y = w4.alloc (.cells #[.int .i64 q.x, .int .i64 q.y, .int .i64 q.z, .int .i64 p.x, .int .i64 p.y, .int .i64 p.z, .int .i64 u.x, .int .i64 u.y, .int .i64 u.z, .int .i64 v.x, .int .i64 v.y, .int .i64 v.z, .int .i64 p.y, .int .i64 p.x, .int .i64 p.z, .int .i64 q.y, .int .i64 q.x, .int .i64 q.z, .int .i64 v.y, .int .i64 v.x, .int .i64 v.z, .int .i64 u.y, .int .i64 u.x, .int .i64 u.z, .int .i64 (-p.x), .int .i64 p.y, .int .i64 p.z, .int .i64 (-q.x), .int .i64 q.y, .int .i64 q.z, .int .i64 (-v.x), .int .i64 v.y, .int .i64 v.z, .int .i64 (-u.x), .int .i64 u.y, .int .i64 u.z] 26) := ⟨_, rfl⟩
  have y_0 : Y.cell? ⟨w.heap.size, 0, none⟩ = some (.int .i64 p.x) := by rw [hY]; exact (World.cell?_alloc_old _ _ _ (by show w.heap.size ≠ _; omega)).trans r4_0
  have y_1 : Y.cell? ⟨w.heap.size, 1, none⟩ = some (.int .i64 p.y) := by rw [hY]; exact (World.cell?_alloc_old _ _ _ (by show w.heap.size ≠ _; omega)).trans r4_1
  have y_2 : Y.cell? ⟨w.heap.size, 2, none⟩ = some (.int .i64 p.z) := by rw [hY]; exact (World.cell?_alloc_old _ _ _ (by show w.heap.size ≠ _; omega)).trans r4_2
  have y_3 : Y.cell? ⟨w.heap.size, 3, none⟩ = some (.int .i64 q.x) := by rw [hY]; exact (World.cell?_alloc_old _ _ _ (by show w.heap.size ≠ _; omega)).trans r4_3
  have y_4 : Y.cell? ⟨w.heap.size, 4, none⟩ = some (.int .i64 q.y) := by rw [hY]; exact (World.cell?_alloc_old _ _ _ (by show w.heap.size ≠ _; omega)).trans r4_4
  have y_5 : Y.cell? ⟨w.heap.size, 5, none⟩ = some (.int .i64 q.z) := by rw [hY]; exact (World.cell?_alloc_old _ _ _ (by show w.heap.size ≠ _; omega)).trans r4_5
  have y_6 : Y.cell? ⟨w.heap.size, 6, none⟩ = some (.int .i64 v.x) := by rw [hY]; exact (World.cell?_alloc_old _ _ _ (by show w.heap.size ≠ _; omega)).trans r4_6
  have y_7 : Y.cell? ⟨w.heap.size, 7, none⟩ = some (.int .i64 v.y) := by rw [hY]; exact (World.cell?_alloc_old _ _ _ (by show w.heap.size ≠ _; omega)).trans r4_7
  have y_8 : Y.cell? ⟨w.heap.size, 8, none⟩ = some (.int .i64 v.z) := by rw [hY]; exact (World.cell?_alloc_old _ _ _ (by show w.heap.size ≠ _; omega)).trans r4_8
  have y_9 : Y.cell? ⟨w.heap.size, 9, none⟩ = some (.int .i64 u.x) := by rw [hY]; exact (World.cell?_alloc_old _ _ _ (by show w.heap.size ≠ _; omega)).trans r4_9
  have y_10 : Y.cell? ⟨w.heap.size, 10, none⟩ = some (.int .i64 u.y) := by rw [hY]; exact (World.cell?_alloc_old _ _ _ (by show w.heap.size ≠ _; omega)).trans r4_10
  have y_11 : Y.cell? ⟨w.heap.size, 11, none⟩ = some (.int .i64 u.z) := by rw [hY]; exact (World.cell?_alloc_old _ _ _ (by show w.heap.size ≠ _; omega)).trans r4_11
  have e_0 : Y.cell? ⟨w4.heap.size, 0, none⟩ = some (.int .i64 q.x) := by rw [hY]; exact World.cell?_alloc_at _ _ _ _ rfl
  have e_1 : Y.cell? ⟨w4.heap.size, 1, none⟩ = some (.int .i64 q.y) := by rw [hY]; exact World.cell?_alloc_at _ _ _ _ rfl
  have e_2 : Y.cell? ⟨w4.heap.size, 2, none⟩ = some (.int .i64 q.z) := by rw [hY]; exact World.cell?_alloc_at _ _ _ _ rfl
  have e_3 : Y.cell? ⟨w4.heap.size, 3, none⟩ = some (.int .i64 p.x) := by rw [hY]; exact World.cell?_alloc_at _ _ _ _ rfl
  have e_4 : Y.cell? ⟨w4.heap.size, 4, none⟩ = some (.int .i64 p.y) := by rw [hY]; exact World.cell?_alloc_at _ _ _ _ rfl
  have e_5 : Y.cell? ⟨w4.heap.size, 5, none⟩ = some (.int .i64 p.z) := by rw [hY]; exact World.cell?_alloc_at _ _ _ _ rfl
  have e_6 : Y.cell? ⟨w4.heap.size, 6, none⟩ = some (.int .i64 u.x) := by rw [hY]; exact World.cell?_alloc_at _ _ _ _ rfl
  have e_7 : Y.cell? ⟨w4.heap.size, 7, none⟩ = some (.int .i64 u.y) := by rw [hY]; exact World.cell?_alloc_at _ _ _ _ rfl
  have e_8 : Y.cell? ⟨w4.heap.size, 8, none⟩ = some (.int .i64 u.z) := by rw [hY]; exact World.cell?_alloc_at _ _ _ _ rfl
  have e_9 : Y.cell? ⟨w4.heap.size, 9, none⟩ = some (.int .i64 v.x) := by rw [hY]; exact World.cell?_alloc_at _ _ _ _ rfl
  have e_10 : Y.cell? ⟨w4.heap.size, 10, none⟩ = some (.int .i64 v.y) := by rw [hY]; exact World.cell?_alloc_at _ _ _ _ rfl
  have e_11 : Y.cell? ⟨w4.heap.size, 11, none⟩ = some (.int .i64 v.z) := by rw [hY]; exact World.cell?_alloc_at _ _ _ _ rfl
  have e_12 : Y.cell? ⟨w4.heap.size, 12, none⟩ = some (.int .i64 p.y) := by rw [hY]; exact World.cell?_alloc_at _ _ _ _ rfl
  have e_13 : Y.cell? ⟨w4.heap.size, 13, none⟩ = some (.int .i64 p.x) := by rw [hY]; exact World.cell?_alloc_at _ _ _ _ rfl
  have e_14 : Y.cell? ⟨w4.heap.size, 14, none⟩ = some (.int .i64 p.z) := by rw [hY]; exact World.cell?_alloc_at _ _ _ _ rfl
  have e_15 : Y.cell? ⟨w4.heap.size, 15, none⟩ = some (.int .i64 q.y) := by rw [hY]; exact World.cell?_alloc_at _ _ _ _ rfl
  have e_16 : Y.cell? ⟨w4.heap.size, 16, none⟩ = some (.int .i64 q.x) := by rw [hY]; exact World.cell?_alloc_at _ _ _ _ rfl
  have e_17 : Y.cell? ⟨w4.heap.size, 17, none⟩ = some (.int .i64 q.z) := by rw [hY]; exact World.cell?_alloc_at _ _ _ _ rfl
  have e_18 : Y.cell? ⟨w4.heap.size, 18, none⟩ = some (.int .i64 v.y) := by rw [hY]; exact World.cell?_alloc_at _ _ _ _ rfl
  have e_19 : Y.cell? ⟨w4.heap.size, 19, none⟩ = some (.int .i64 v.x) := by rw [hY]; exact World.cell?_alloc_at _ _ _ _ rfl
  have e_20 : Y.cell? ⟨w4.heap.size, 20, none⟩ = some (.int .i64 v.z) := by rw [hY]; exact World.cell?_alloc_at _ _ _ _ rfl
  have e_21 : Y.cell? ⟨w4.heap.size, 21, none⟩ = some (.int .i64 u.y) := by rw [hY]; exact World.cell?_alloc_at _ _ _ _ rfl
  have e_22 : Y.cell? ⟨w4.heap.size, 22, none⟩ = some (.int .i64 u.x) := by rw [hY]; exact World.cell?_alloc_at _ _ _ _ rfl
  have e_23 : Y.cell? ⟨w4.heap.size, 23, none⟩ = some (.int .i64 u.z) := by rw [hY]; exact World.cell?_alloc_at _ _ _ _ rfl
  have e_24 : Y.cell? ⟨w4.heap.size, 24, none⟩ = some (.int .i64 (-p.x)) := by rw [hY]; exact World.cell?_alloc_at _ _ _ _ rfl
  have e_25 : Y.cell? ⟨w4.heap.size, 25, none⟩ = some (.int .i64 p.y) := by rw [hY]; exact World.cell?_alloc_at _ _ _ _ rfl
  have e_26 : Y.cell? ⟨w4.heap.size, 26, none⟩ = some (.int .i64 p.z) := by rw [hY]; exact World.cell?_alloc_at _ _ _ _ rfl
  have e_27 : Y.cell? ⟨w4.heap.size, 27, none⟩ = some (.int .i64 (-q.x)) := by rw [hY]; exact World.cell?_alloc_at _ _ _ _ rfl
  have e_28 : Y.cell? ⟨w4.heap.size, 28, none⟩ = some (.int .i64 q.y) := by rw [hY]; exact World.cell?_alloc_at _ _ _ _ rfl
  have e_29 : Y.cell? ⟨w4.heap.size, 29, none⟩ = some (.int .i64 q.z) := by rw [hY]; exact World.cell?_alloc_at _ _ _ _ rfl
  have e_30 : Y.cell? ⟨w4.heap.size, 30, none⟩ = some (.int .i64 (-v.x)) := by rw [hY]; exact World.cell?_alloc_at _ _ _ _ rfl
  have e_31 : Y.cell? ⟨w4.heap.size, 31, none⟩ = some (.int .i64 v.y) := by rw [hY]; exact World.cell?_alloc_at _ _ _ _ rfl
  have e_32 : Y.cell? ⟨w4.heap.size, 32, none⟩ = some (.int .i64 v.z) := by rw [hY]; exact World.cell?_alloc_at _ _ _ _ rfl
  have e_33 : Y.cell? ⟨w4.heap.size, 33, none⟩ = some (.int .i64 (-u.x)) := by rw [hY]; exact World.cell?_alloc_at _ _ _ _ rfl
  have e_34 : Y.cell? ⟨w4.heap.size, 34, none⟩ = some (.int .i64 u.y) := by rw [hY]; exact World.cell?_alloc_at _ _ _ _ rfl
  have e_35 : Y.cell? ⟨w4.heap.size, 35, none⟩ = some (.int .i64 u.z) := by rw [hY]; exact World.cell?_alloc_at _ _ _ _ rfl
  have BY : Below w.heap.size w Y := by rw [hY]; exact ((BX.trans (Below.trans (Below.drew (Below.refl w.heap.size X)) (hb3.mono (by show _ ≤ X.heap.size; omega)))).trans (hb4.mono (by omega))).alloc (by omega) _
  have yY : w.heap.size < Y.heap.size := by rw [hY]; simp; omega
  have eY : w4.heap.size < Y.heap.size := by rw [hY]; simp
  rw [← hY]
  clear hY
  clear BX hb3 hb4 hs3 hs4 z3_0 z4_0 zX_0 k_0 r3_0 r4_0 k_1 r3_1 r4_1 k_2 r3_2 r4_2 k_3 r3_3 r4_3 k_4 r3_4 r4_4 k_5 r3_5 r4_5 k_6 r3_6 r4_6 k_7 r3_7 r4_7 k_8 r3_8 r4_8 k_9 r3_9 r4_9 k_10 r3_10 r4_10 k_11 r3_11 r4_11
  try clear hq
  obtain ⟨g, hg⟩ : ∃ g, g = w4.heap.size := ⟨_, rfl⟩
  rw [← hg] at e_0 e_1 e_2 e_3 e_4 e_5 e_6 e_7 e_8 e_9 e_10 e_11 e_12 e_13 e_14 e_15 e_16 e_17 e_18 e_19 e_20 e_21 e_22 e_23 e_24 e_25 e_26 e_27 e_28 e_29 e_30 e_31 e_32 e_33 e_34 e_35 eY ⊢
  clear hg
  go_loopw [10] (fun i wr => ∃ k : Nat, k ≤ 3 ∧ i = .int .i64 k ∧ Below Y.heap.size Y wr) (fun i _ => 3 - (intOf i).toNat)
  case atStart => exact ⟨0, by omega, rfl, Below.refl _ _⟩
  case round =>
    obtain ⟨k, hk, rfl, hB⟩ := hrel
    have hBs := hB.size
    have yr : w.heap.size < wr.heap.size := by omega
    have er : g < wr.heap.size := by omega
    have BR : Below w.heap.size w wr := BY.trans (hB.mono (by omega))
    replace y_0 := (hB.cell (p := ⟨w.heap.size, 0, none⟩) yY).trans y_0
    replace y_1 := (hB.cell (p := ⟨w.heap.size, 1, none⟩) yY).trans y_1
    replace y_2 := (hB.cell (p := ⟨w.heap.size, 2, none⟩) yY).trans y_2
    replace y_3 := (hB.cell (p := ⟨w.heap.size, 3, none⟩) yY).trans y_3
    replace y_4 := (hB.cell (p := ⟨w.heap.size, 4, none⟩) yY).trans y_4
    replace y_5 := (hB.cell (p := ⟨w.heap.size, 5, none⟩) yY).trans y_5
    replace y_6 := (hB.cell (p := ⟨w.heap.size, 6, none⟩) yY).trans y_6
    replace y_7 := (hB.cell (p := ⟨w.heap.size, 7, none⟩) yY).trans y_7
    replace y_8 := (hB.cell (p := ⟨w.heap.size, 8, none⟩) yY).trans y_8
    replace y_9 := (hB.cell (p := ⟨w.heap.size, 9, none⟩) yY).trans y_9
    replace y_10 := (hB.cell (p := ⟨w.heap.size, 10, none⟩) yY).trans y_10
    replace y_11 := (hB.cell (p := ⟨w.heap.size, 11, none⟩) yY).trans y_11
    replace e_0 := (hB.cell (p := ⟨g, 0, none⟩) eY).trans e_0
    replace e_1 := (hB.cell (p := ⟨g, 1, none⟩) eY).trans e_1
    replace e_2 := (hB.cell (p := ⟨g, 2, none⟩) eY).trans e_2
    replace e_3 := (hB.cell (p := ⟨g, 3, none⟩) eY).trans e_3
    replace e_4 := (hB.cell (p := ⟨g, 4, none⟩) eY).trans e_4
    replace e_5 := (hB.cell (p := ⟨g, 5, none⟩) eY).trans e_5
    replace e_6 := (hB.cell (p := ⟨g, 6, none⟩) eY).trans e_6
    replace e_7 := (hB.cell (p := ⟨g, 7, none⟩) eY).trans e_7
    replace e_8 := (hB.cell (p := ⟨g, 8, none⟩) eY).trans e_8
    replace e_9 := (hB.cell (p := ⟨g, 9, none⟩) eY).trans e_9
    replace e_10 := (hB.cell (p := ⟨g, 10, none⟩) eY).trans e_10
    replace e_11 := (hB.cell (p := ⟨g, 11, none⟩) eY).trans e_11
    replace e_12 := (hB.cell (p := ⟨g, 12, none⟩) eY).trans e_12
    replace e_13 := (hB.cell (p := ⟨g, 13, none⟩) eY).trans e_13
    replace e_14 := (hB.cell (p := ⟨g, 14, none⟩) eY).trans e_14
    replace e_15 := (hB.cell (p := ⟨g, 15, none⟩) eY).trans e_15
    replace e_16 := (hB.cell (p := ⟨g, 16, none⟩) eY).trans e_16
    replace e_17 := (hB.cell (p := ⟨g, 17, none⟩) eY).trans e_17
    replace e_18 := (hB.cell (p := ⟨g, 18, none⟩) eY).trans e_18
    replace e_19 := (hB.cell (p := ⟨g, 19, none⟩) eY).trans e_19
    replace e_20 := (hB.cell (p := ⟨g, 20, none⟩) eY).trans e_20
    replace e_21 := (hB.cell (p := ⟨g, 21, none⟩) eY).trans e_21
    replace e_22 := (hB.cell (p := ⟨g, 22, none⟩) eY).trans e_22
    replace e_23 := (hB.cell (p := ⟨g, 23, none⟩) eY).trans e_23
    replace e_24 := (hB.cell (p := ⟨g, 24, none⟩) eY).trans e_24
    replace e_25 := (hB.cell (p := ⟨g, 25, none⟩) eY).trans e_25
    replace e_26 := (hB.cell (p := ⟨g, 26, none⟩) eY).trans e_26
    replace e_27 := (hB.cell (p := ⟨g, 27, none⟩) eY).trans e_27
    replace e_28 := (hB.cell (p := ⟨g, 28, none⟩) eY).trans e_28
    replace e_29 := (hB.cell (p := ⟨g, 29, none⟩) eY).trans e_29
    replace e_30 := (hB.cell (p := ⟨g, 30, none⟩) eY).trans e_30
    replace e_31 := (hB.cell (p := ⟨g, 31, none⟩) eY).trans e_31
    replace e_32 := (hB.cell (p := ⟨g, 32, none⟩) eY).trans e_32
    replace e_33 := (hB.cell (p := ⟨g, 33, none⟩) eY).trans e_33
    replace e_34 := (hB.cell (p := ⟨g, 34, none⟩) eY).trans e_34
    replace e_35 := (hB.cell (p := ⟨g, 35, none⟩) eY).trans e_35
    rcases (by omega : k = 0 ∨ k = 1 ∨ k = 2 ∨ k = 3) with rfl | rfl | rfl | rfl
    · have HB := Lib.hid hB
      clear e_12 e_13 e_14 e_15 e_16 e_17 e_18 e_19 e_20 e_21 e_22 e_23 e_24 e_25 e_26 e_27 e_28 e_29 e_30 e_31 e_32 e_33 e_34 e_35 BY hB yY eY
      go_wp2_with fail
      go_region_held3 (fun w' => w'.cell? ⟨w.heap.size, 0, none⟩ = some (.int .i64 p.x) ∧ w'.cell? ⟨w.heap.size, 1, none⟩ = some (.int .i64 p.y) ∧ w'.cell? ⟨w.heap.size, 2, none⟩ = some (.int .i64 p.z) ∧ w'.cell? ⟨w.heap.size, 3, none⟩ = some (.int .i64 q.x) ∧ w'.cell? ⟨w.heap.size, 4, none⟩ = some (.int .i64 q.y) ∧ w'.cell? ⟨w.heap.size, 5, none⟩ = some (.int .i64 q.z) ∧ w'.cell? ⟨w.heap.size, 6, none⟩ = some (.int .i64 v.x) ∧ w'.cell? ⟨w.heap.size, 7, none⟩ = some (.int .i64 v.y) ∧ w'.cell? ⟨w.heap.size, 8, none⟩ = some (.int .i64 v.z) ∧ w'.cell? ⟨w.heap.size, 9, none⟩ = some (.int .i64 u.x) ∧ w'.cell? ⟨w.heap.size, 10, none⟩ = some (.int .i64 u.y) ∧ w'.cell? ⟨w.heap.size, 11, none⟩ = some (.int .i64 u.z) ∧ w'.cell? ⟨g, 0, none⟩ = some (.int .i64 q.x) ∧ w'.cell? ⟨g, 1, none⟩ = some (.int .i64 q.y) ∧ w'.cell? ⟨g, 2, none⟩ = some (.int .i64 q.z) ∧ w'.cell? ⟨g, 3, none⟩ = some (.int .i64 p.x) ∧ w'.cell? ⟨g, 4, none⟩ = some (.int .i64 p.y) ∧ w'.cell? ⟨g, 5, none⟩ = some (.int .i64 p.z) ∧ w'.cell? ⟨g, 6, none⟩ = some (.int .i64 u.x) ∧ w'.cell? ⟨g, 7, none⟩ = some (.int .i64 u.y) ∧ w'.cell? ⟨g, 8, none⟩ = some (.int .i64 u.z) ∧ w'.cell? ⟨g, 9, none⟩ = some (.int .i64 v.x) ∧ w'.cell? ⟨g, 10, none⟩ = some (.int .i64 v.y) ∧ w'.cell? ⟨g, 11, none⟩ = some (.int .i64 v.z)) (first | exact ⟨y_0, y_1, y_2, y_3, y_4, y_5, y_6, y_7, y_8, y_9, y_10, y_11, e_0, e_1, e_2, e_3, e_4, e_5, e_6, e_7, e_8, e_9, e_10, e_11⟩ | exact ⟨r6_0, r6_1, r6_2, r6_3, r6_4, r6_5, r6_6, r6_7, r6_8, r6_9, r6_10, r6_11, r6_12, r6_13, r6_14, r6_15, r6_16, r6_17, r6_18, r6_19, r6_20, r6_21, r6_22, r6_23⟩ | exact ⟨r5_0, r5_1, r5_2, r5_3, r5_4, r5_5, r5_6, r5_7, r5_8, r5_9, r5_10, r5_11, r5_12, r5_13, r5_14, r5_15, r5_16, r5_17, r5_18, r5_19, r5_20, r5_21, r5_22, r5_23⟩ | go_keep) (first
        | ((with_reducible refine (S1.out _).mono ?_); rintro e w5 ⟨rfl, hb5⟩; have hs5 := hb5.size; (try simp at hs5); have z5_0 : w.heap.size < w5.heap.size := (by omega); have z5_1 : g < w5.heap.size := (by omega); have r5_0 := (hb5.cell (p := ⟨w.heap.size, 0, none⟩) yr).trans y_0; have r5_1 := (hb5.cell (p := ⟨w.heap.size, 1, none⟩) yr).trans y_1; have r5_2 := (hb5.cell (p := ⟨w.heap.size, 2, none⟩) yr).trans y_2; have r5_3 := (hb5.cell (p := ⟨w.heap.size, 3, none⟩) yr).trans y_3; have r5_4 := (hb5.cell (p := ⟨w.heap.size, 4, none⟩) yr).trans y_4; have r5_5 := (hb5.cell (p := ⟨w.heap.size, 5, none⟩) yr).trans y_5; have r5_6 := (hb5.cell (p := ⟨w.heap.size, 6, none⟩) yr).trans y_6; have r5_7 := (hb5.cell (p := ⟨w.heap.size, 7, none⟩) yr).trans y_7; have r5_8 := (hb5.cell (p := ⟨w.heap.size, 8, none⟩) yr).trans y_8; have r5_9 := (hb5.cell (p := ⟨w.heap.size, 9, none⟩) yr).trans y_9; have r5_10 := (hb5.cell (p := ⟨w.heap.size, 10, none⟩) yr).trans y_10; have r5_11 := (hb5.cell (p := ⟨w.heap.size, 11, none⟩) yr).trans y_11; have r5_12 := (hb5.cell (p := ⟨g, 0, none⟩) er).trans e_0; have r5_13 := (hb5.cell (p := ⟨g, 1, none⟩) er).trans e_1; have r5_14 := (hb5.cell (p := ⟨g, 2, none⟩) er).trans e_2; have r5_15 := (hb5.cell (p := ⟨g, 3, none⟩) er).trans e_3; have r5_16 := (hb5.cell (p := ⟨g, 4, none⟩) er).trans e_4; have r5_17 := (hb5.cell (p := ⟨g, 5, none⟩) er).trans e_5; have r5_18 := (hb5.cell (p := ⟨g, 6, none⟩) er).trans e_6; have r5_19 := (hb5.cell (p := ⟨g, 7, none⟩) er).trans e_7; have r5_20 := (hb5.cell (p := ⟨g, 8, none⟩) er).trans e_8; have r5_21 := (hb5.cell (p := ⟨g, 9, none⟩) er).trans e_9; have r5_22 := (hb5.cell (p := ⟨g, 10, none⟩) er).trans e_10; have r5_23 := (hb5.cell (p := ⟨g, 11, none⟩) er).trans e_11)
        | ((with_reducible refine (I1.out _).mono ?_); rintro e w6 ⟨rfl, hb6⟩; have hs6 := hb6.size; (try simp at hs6); have z6_0 : w.heap.size < w6.heap.size := (by omega); have z6_1 : g < w6.heap.size := (by omega); have r6_0 := (hb6.cell (p := ⟨w.heap.size, 0, none⟩) z5_0).trans r5_0; have r6_1 := (hb6.cell (p := ⟨w.heap.size, 1, none⟩) z5_0).trans r5_1; have r6_2 := (hb6.cell (p := ⟨w.heap.size, 2, none⟩) z5_0).trans r5_2; have r6_3 := (hb6.cell (p := ⟨w.heap.size, 3, none⟩) z5_0).trans r5_3; have r6_4 := (hb6.cell (p := ⟨w.heap.size, 4, none⟩) z5_0).trans r5_4; have r6_5 := (hb6.cell (p := ⟨w.heap.size, 5, none⟩) z5_0).trans r5_5; have r6_6 := (hb6.cell (p := ⟨w.heap.size, 6, none⟩) z5_0).trans r5_6; have r6_7 := (hb6.cell (p := ⟨w.heap.size, 7, none⟩) z5_0).trans r5_7; have r6_8 := (hb6.cell (p := ⟨w.heap.size, 8, none⟩) z5_0).trans r5_8; have r6_9 := (hb6.cell (p := ⟨w.heap.size, 9, none⟩) z5_0).trans r5_9; have r6_10 := (hb6.cell (p := ⟨w.heap.size, 10, none⟩) z5_0).trans r5_10; have r6_11 := (hb6.cell (p := ⟨w.heap.size, 11, none⟩) z5_0).trans r5_11; have r6_12 := (hb6.cell (p := ⟨g, 0, none⟩) z5_1).trans r5_12; have r6_13 := (hb6.cell (p := ⟨g, 1, none⟩) z5_1).trans r5_13; have r6_14 := (hb6.cell (p := ⟨g, 2, none⟩) z5_1).trans r5_14; have r6_15 := (hb6.cell (p := ⟨g, 3, none⟩) z5_1).trans r5_15; have r6_16 := (hb6.cell (p := ⟨g, 4, none⟩) z5_1).trans r5_16; have r6_17 := (hb6.cell (p := ⟨g, 5, none⟩) z5_1).trans r5_17; have r6_18 := (hb6.cell (p := ⟨g, 6, none⟩) z5_1).trans r5_18; have r6_19 := (hb6.cell (p := ⟨g, 7, none⟩) z5_1).trans r5_19; have r6_20 := (hb6.cell (p := ⟨g, 8, none⟩) z5_1).trans r5_20; have r6_21 := (hb6.cell (p := ⟨g, 9, none⟩) z5_1).trans r5_21; have r6_22 := (hb6.cell (p := ⟨g, 10, none⟩) z5_1).trans r5_22; have r6_23 := (hb6.cell (p := ⟨g, 11, none⟩) z5_1).trans r5_23))
      go_wp2_with fail
      exact ⟨⟨1, by omega, rfl, (HB.out.trans (Below.trans (Below.drew (Below.refl Y.heap.size wr)) (hb5.mono (by show _ ≤ wr.heap.size; omega)))).trans (hb6.mono (by omega))⟩, by simp [intOf]⟩
    · have HB := Lib.hid hB
      clear e_0 e_1 e_2 e_3 e_4 e_5 e_6 e_7 e_8 e_9 e_10 e_11 e_24 e_25 e_26 e_27 e_28 e_29 e_30 e_31 e_32 e_33 e_34 e_35 BY hB yY eY
      go_wp2_with fail
      go_region_held3 (fun w' => w'.cell? ⟨w.heap.size, 0, none⟩ = some (.int .i64 p.x) ∧ w'.cell? ⟨w.heap.size, 1, none⟩ = some (.int .i64 p.y) ∧ w'.cell? ⟨w.heap.size, 2, none⟩ = some (.int .i64 p.z) ∧ w'.cell? ⟨w.heap.size, 3, none⟩ = some (.int .i64 q.x) ∧ w'.cell? ⟨w.heap.size, 4, none⟩ = some (.int .i64 q.y) ∧ w'.cell? ⟨w.heap.size, 5, none⟩ = some (.int .i64 q.z) ∧ w'.cell? ⟨w.heap.size, 6, none⟩ = some (.int .i64 v.x) ∧ w'.cell? ⟨w.heap.size, 7, none⟩ = some (.int .i64 v.y) ∧ w'.cell? ⟨w.heap.size, 8, none⟩ = some (.int .i64 v.z) ∧ w'.cell? ⟨w.heap.size, 9, none⟩ = some (.int .i64 u.x) ∧ w'.cell? ⟨w.heap.size, 10, none⟩ = some (.int .i64 u.y) ∧ w'.cell? ⟨w.heap.size, 11, none⟩ = some (.int .i64 u.z) ∧ w'.cell? ⟨g, 12, none⟩ = some (.int .i64 p.y) ∧ w'.cell? ⟨g, 13, none⟩ = some (.int .i64 p.x) ∧ w'.cell? ⟨g, 14, none⟩ = some (.int .i64 p.z) ∧ w'.cell? ⟨g, 15, none⟩ = some (.int .i64 q.y) ∧ w'.cell? ⟨g, 16, none⟩ = some (.int .i64 q.x) ∧ w'.cell? ⟨g, 17, none⟩ = some (.int .i64 q.z) ∧ w'.cell? ⟨g, 18, none⟩ = some (.int .i64 v.y) ∧ w'.cell? ⟨g, 19, none⟩ = some (.int .i64 v.x) ∧ w'.cell? ⟨g, 20, none⟩ = some (.int .i64 v.z) ∧ w'.cell? ⟨g, 21, none⟩ = some (.int .i64 u.y) ∧ w'.cell? ⟨g, 22, none⟩ = some (.int .i64 u.x) ∧ w'.cell? ⟨g, 23, none⟩ = some (.int .i64 u.z)) (first | exact ⟨y_0, y_1, y_2, y_3, y_4, y_5, y_6, y_7, y_8, y_9, y_10, y_11, e_12, e_13, e_14, e_15, e_16, e_17, e_18, e_19, e_20, e_21, e_22, e_23⟩ | exact ⟨r6_0, r6_1, r6_2, r6_3, r6_4, r6_5, r6_6, r6_7, r6_8, r6_9, r6_10, r6_11, r6_12, r6_13, r6_14, r6_15, r6_16, r6_17, r6_18, r6_19, r6_20, r6_21, r6_22, r6_23⟩ | exact ⟨r5_0, r5_1, r5_2, r5_3, r5_4, r5_5, r5_6, r5_7, r5_8, r5_9, r5_10, r5_11, r5_12, r5_13, r5_14, r5_15, r5_16, r5_17, r5_18, r5_19, r5_20, r5_21, r5_22, r5_23⟩ | go_keep) (first
        | ((with_reducible refine (S2.out _).mono ?_); rintro e w5 ⟨rfl, hb5⟩; have hs5 := hb5.size; (try simp at hs5); have z5_0 : w.heap.size < w5.heap.size := (by omega); have z5_1 : g < w5.heap.size := (by omega); have r5_0 := (hb5.cell (p := ⟨w.heap.size, 0, none⟩) yr).trans y_0; have r5_1 := (hb5.cell (p := ⟨w.heap.size, 1, none⟩) yr).trans y_1; have r5_2 := (hb5.cell (p := ⟨w.heap.size, 2, none⟩) yr).trans y_2; have r5_3 := (hb5.cell (p := ⟨w.heap.size, 3, none⟩) yr).trans y_3; have r5_4 := (hb5.cell (p := ⟨w.heap.size, 4, none⟩) yr).trans y_4; have r5_5 := (hb5.cell (p := ⟨w.heap.size, 5, none⟩) yr).trans y_5; have r5_6 := (hb5.cell (p := ⟨w.heap.size, 6, none⟩) yr).trans y_6; have r5_7 := (hb5.cell (p := ⟨w.heap.size, 7, none⟩) yr).trans y_7; have r5_8 := (hb5.cell (p := ⟨w.heap.size, 8, none⟩) yr).trans y_8; have r5_9 := (hb5.cell (p := ⟨w.heap.size, 9, none⟩) yr).trans y_9; have r5_10 := (hb5.cell (p := ⟨w.heap.size, 10, none⟩) yr).trans y_10; have r5_11 := (hb5.cell (p := ⟨w.heap.size, 11, none⟩) yr).trans y_11; have r5_12 := (hb5.cell (p := ⟨g, 12, none⟩) er).trans e_12; have r5_13 := (hb5.cell (p := ⟨g, 13, none⟩) er).trans e_13; have r5_14 := (hb5.cell (p := ⟨g, 14, none⟩) er).trans e_14; have r5_15 := (hb5.cell (p := ⟨g, 15, none⟩) er).trans e_15; have r5_16 := (hb5.cell (p := ⟨g, 16, none⟩) er).trans e_16; have r5_17 := (hb5.cell (p := ⟨g, 17, none⟩) er).trans e_17; have r5_18 := (hb5.cell (p := ⟨g, 18, none⟩) er).trans e_18; have r5_19 := (hb5.cell (p := ⟨g, 19, none⟩) er).trans e_19; have r5_20 := (hb5.cell (p := ⟨g, 20, none⟩) er).trans e_20; have r5_21 := (hb5.cell (p := ⟨g, 21, none⟩) er).trans e_21; have r5_22 := (hb5.cell (p := ⟨g, 22, none⟩) er).trans e_22; have r5_23 := (hb5.cell (p := ⟨g, 23, none⟩) er).trans e_23)
        | ((with_reducible refine (I2.out _).mono ?_); rintro e w6 ⟨rfl, hb6⟩; have hs6 := hb6.size; (try simp at hs6); have z6_0 : w.heap.size < w6.heap.size := (by omega); have z6_1 : g < w6.heap.size := (by omega); have r6_0 := (hb6.cell (p := ⟨w.heap.size, 0, none⟩) z5_0).trans r5_0; have r6_1 := (hb6.cell (p := ⟨w.heap.size, 1, none⟩) z5_0).trans r5_1; have r6_2 := (hb6.cell (p := ⟨w.heap.size, 2, none⟩) z5_0).trans r5_2; have r6_3 := (hb6.cell (p := ⟨w.heap.size, 3, none⟩) z5_0).trans r5_3; have r6_4 := (hb6.cell (p := ⟨w.heap.size, 4, none⟩) z5_0).trans r5_4; have r6_5 := (hb6.cell (p := ⟨w.heap.size, 5, none⟩) z5_0).trans r5_5; have r6_6 := (hb6.cell (p := ⟨w.heap.size, 6, none⟩) z5_0).trans r5_6; have r6_7 := (hb6.cell (p := ⟨w.heap.size, 7, none⟩) z5_0).trans r5_7; have r6_8 := (hb6.cell (p := ⟨w.heap.size, 8, none⟩) z5_0).trans r5_8; have r6_9 := (hb6.cell (p := ⟨w.heap.size, 9, none⟩) z5_0).trans r5_9; have r6_10 := (hb6.cell (p := ⟨w.heap.size, 10, none⟩) z5_0).trans r5_10; have r6_11 := (hb6.cell (p := ⟨w.heap.size, 11, none⟩) z5_0).trans r5_11; have r6_12 := (hb6.cell (p := ⟨g, 12, none⟩) z5_1).trans r5_12; have r6_13 := (hb6.cell (p := ⟨g, 13, none⟩) z5_1).trans r5_13; have r6_14 := (hb6.cell (p := ⟨g, 14, none⟩) z5_1).trans r5_14; have r6_15 := (hb6.cell (p := ⟨g, 15, none⟩) z5_1).trans r5_15; have r6_16 := (hb6.cell (p := ⟨g, 16, none⟩) z5_1).trans r5_16; have r6_17 := (hb6.cell (p := ⟨g, 17, none⟩) z5_1).trans r5_17; have r6_18 := (hb6.cell (p := ⟨g, 18, none⟩) z5_1).trans r5_18; have r6_19 := (hb6.cell (p := ⟨g, 19, none⟩) z5_1).trans r5_19; have r6_20 := (hb6.cell (p := ⟨g, 20, none⟩) z5_1).trans r5_20; have r6_21 := (hb6.cell (p := ⟨g, 21, none⟩) z5_1).trans r5_21; have r6_22 := (hb6.cell (p := ⟨g, 22, none⟩) z5_1).trans r5_22; have r6_23 := (hb6.cell (p := ⟨g, 23, none⟩) z5_1).trans r5_23))
      go_wp2_with fail
      exact ⟨⟨2, by omega, rfl, (HB.out.trans (Below.trans (Below.drew (Below.refl Y.heap.size wr)) (hb5.mono (by show _ ≤ wr.heap.size; omega)))).trans (hb6.mono (by omega))⟩, by simp [intOf]⟩
    · have HB := Lib.hid hB
      clear e_0 e_1 e_2 e_3 e_4 e_5 e_6 e_7 e_8 e_9 e_10 e_11 e_12 e_13 e_14 e_15 e_16 e_17 e_18 e_19 e_20 e_21 e_22 e_23 BY hB yY eY
      go_wp2_with fail
      go_region_held3 (fun w' => w'.cell? ⟨w.heap.size, 0, none⟩ = some (.int .i64 p.x) ∧ w'.cell? ⟨w.heap.size, 1, none⟩ = some (.int .i64 p.y) ∧ w'.cell? ⟨w.heap.size, 2, none⟩ = some (.int .i64 p.z) ∧ w'.cell? ⟨w.heap.size, 3, none⟩ = some (.int .i64 q.x) ∧ w'.cell? ⟨w.heap.size, 4, none⟩ = some (.int .i64 q.y) ∧ w'.cell? ⟨w.heap.size, 5, none⟩ = some (.int .i64 q.z) ∧ w'.cell? ⟨w.heap.size, 6, none⟩ = some (.int .i64 v.x) ∧ w'.cell? ⟨w.heap.size, 7, none⟩ = some (.int .i64 v.y) ∧ w'.cell? ⟨w.heap.size, 8, none⟩ = some (.int .i64 v.z) ∧ w'.cell? ⟨w.heap.size, 9, none⟩ = some (.int .i64 u.x) ∧ w'.cell? ⟨w.heap.size, 10, none⟩ = some (.int .i64 u.y) ∧ w'.cell? ⟨w.heap.size, 11, none⟩ = some (.int .i64 u.z) ∧ w'.cell? ⟨g, 24, none⟩ = some (.int .i64 (-p.x)) ∧ w'.cell? ⟨g, 25, none⟩ = some (.int .i64 p.y) ∧ w'.cell? ⟨g, 26, none⟩ = some (.int .i64 p.z) ∧ w'.cell? ⟨g, 27, none⟩ = some (.int .i64 (-q.x)) ∧ w'.cell? ⟨g, 28, none⟩ = some (.int .i64 q.y) ∧ w'.cell? ⟨g, 29, none⟩ = some (.int .i64 q.z) ∧ w'.cell? ⟨g, 30, none⟩ = some (.int .i64 (-v.x)) ∧ w'.cell? ⟨g, 31, none⟩ = some (.int .i64 v.y) ∧ w'.cell? ⟨g, 32, none⟩ = some (.int .i64 v.z) ∧ w'.cell? ⟨g, 33, none⟩ = some (.int .i64 (-u.x)) ∧ w'.cell? ⟨g, 34, none⟩ = some (.int .i64 u.y) ∧ w'.cell? ⟨g, 35, none⟩ = some (.int .i64 u.z)) (first | exact ⟨y_0, y_1, y_2, y_3, y_4, y_5, y_6, y_7, y_8, y_9, y_10, y_11, e_24, e_25, e_26, e_27, e_28, e_29, e_30, e_31, e_32, e_33, e_34, e_35⟩ | exact ⟨r6_0, r6_1, r6_2, r6_3, r6_4, r6_5, r6_6, r6_7, r6_8, r6_9, r6_10, r6_11, r6_12, r6_13, r6_14, r6_15, r6_16, r6_17, r6_18, r6_19, r6_20, r6_21, r6_22, r6_23⟩ | exact ⟨r5_0, r5_1, r5_2, r5_3, r5_4, r5_5, r5_6, r5_7, r5_8, r5_9, r5_10, r5_11, r5_12, r5_13, r5_14, r5_15, r5_16, r5_17, r5_18, r5_19, r5_20, r5_21, r5_22, r5_23⟩ | go_keep) (first
        | ((with_reducible refine (S3.out _).mono ?_); rintro e w5 ⟨rfl, hb5⟩; have hs5 := hb5.size; (try simp at hs5); have z5_0 : w.heap.size < w5.heap.size := (by omega); have z5_1 : g < w5.heap.size := (by omega); have r5_0 := (hb5.cell (p := ⟨w.heap.size, 0, none⟩) yr).trans y_0; have r5_1 := (hb5.cell (p := ⟨w.heap.size, 1, none⟩) yr).trans y_1; have r5_2 := (hb5.cell (p := ⟨w.heap.size, 2, none⟩) yr).trans y_2; have r5_3 := (hb5.cell (p := ⟨w.heap.size, 3, none⟩) yr).trans y_3; have r5_4 := (hb5.cell (p := ⟨w.heap.size, 4, none⟩) yr).trans y_4; have r5_5 := (hb5.cell (p := ⟨w.heap.size, 5, none⟩) yr).trans y_5; have r5_6 := (hb5.cell (p := ⟨w.heap.size, 6, none⟩) yr).trans y_6; have r5_7 := (hb5.cell (p := ⟨w.heap.size, 7, none⟩) yr).trans y_7; have r5_8 := (hb5.cell (p := ⟨w.heap.size, 8, none⟩) yr).trans y_8; have r5_9 := (hb5.cell (p := ⟨w.heap.size, 9, none⟩) yr).trans y_9; have r5_10 := (hb5.cell (p := ⟨w.heap.size, 10, none⟩) yr).trans y_10; have r5_11 := (hb5.cell (p := ⟨w.heap.size, 11, none⟩) yr).trans y_11; have r5_12 := (hb5.cell (p := ⟨g, 24, none⟩) er).trans e_24; have r5_13 := (hb5.cell (p := ⟨g, 25, none⟩) er).trans e_25; have r5_14 := (hb5.cell (p := ⟨g, 26, none⟩) er).trans e_26; have r5_15 := (hb5.cell (p := ⟨g, 27, none⟩) er).trans e_27; have r5_16 := (hb5.cell (p := ⟨g, 28, none⟩) er).trans e_28; have r5_17 := (hb5.cell (p := ⟨g, 29, none⟩) er).trans e_29; have r5_18 := (hb5.cell (p := ⟨g, 30, none⟩) er).trans e_30; have r5_19 := (hb5.cell (p := ⟨g, 31, none⟩) er).trans e_31; have r5_20 := (hb5.cell (p := ⟨g, 32, none⟩) er).trans e_32; have r5_21 := (hb5.cell (p := ⟨g, 33, none⟩) er).trans e_33; have r5_22 := (hb5.cell (p := ⟨g, 34, none⟩) er).trans e_34; have r5_23 := (hb5.cell (p := ⟨g, 35, none⟩) er).trans e_35)
        | ((with_reducible refine (I3.out _).mono ?_); rintro e w6 ⟨rfl, hb6⟩; have hs6 := hb6.size; (try simp at hs6); have z6_0 : w.heap.size < w6.heap.size := (by omega); have z6_1 : g < w6.heap.size := (by omega); have r6_0 := (hb6.cell (p := ⟨w.heap.size, 0, none⟩) z5_0).trans r5_0; have r6_1 := (hb6.cell (p := ⟨w.heap.size, 1, none⟩) z5_0).trans r5_1; have r6_2 := (hb6.cell (p := ⟨w.heap.size, 2, none⟩) z5_0).trans r5_2; have r6_3 := (hb6.cell (p := ⟨w.heap.size, 3, none⟩) z5_0).trans r5_3; have r6_4 := (hb6.cell (p := ⟨w.heap.size, 4, none⟩) z5_0).trans r5_4; have r6_5 := (hb6.cell (p := ⟨w.heap.size, 5, none⟩) z5_0).trans r5_5; have r6_6 := (hb6.cell (p := ⟨w.heap.size, 6, none⟩) z5_0).trans r5_6; have r6_7 := (hb6.cell (p := ⟨w.heap.size, 7, none⟩) z5_0).trans r5_7; have r6_8 := (hb6.cell (p := ⟨w.heap.size, 8, none⟩) z5_0).trans r5_8; have r6_9 := (hb6.cell (p := ⟨w.heap.size, 9, none⟩) z5_0).trans r5_9; have r6_10 := (hb6.cell (p := ⟨w.heap.size, 10, none⟩) z5_0).trans r5_10; have r6_11 := (hb6.cell (p := ⟨w.heap.size, 11, none⟩) z5_0).trans r5_11; have r6_12 := (hb6.cell (p := ⟨g, 24, none⟩) z5_1).trans r5_12; have r6_13 := (hb6.cell (p := ⟨g, 25, none⟩) z5_1).trans r5_13; have r6_14 := (hb6.cell (p := ⟨g, 26, none⟩) z5_1).trans r5_14; have r6_15 := (hb6.cell (p := ⟨g, 27, none⟩) z5_1).trans r5_15; have r6_16 := (hb6.cell (p := ⟨g, 28, none⟩) z5_1).trans r5_16; have r6_17 := (hb6.cell (p := ⟨g, 29, none⟩) z5_1).trans r5_17; have r6_18 := (hb6.cell (p := ⟨g, 30, none⟩) z5_1).trans r5_18; have r6_19 := (hb6.cell (p := ⟨g, 31, none⟩) z5_1).trans r5_19; have r6_20 := (hb6.cell (p := ⟨g, 32, none⟩) z5_1).trans r5_20; have r6_21 := (hb6.cell (p := ⟨g, 33, none⟩) z5_1).trans r5_21; have r6_22 := (hb6.cell (p := ⟨g, 34, none⟩) z5_1).trans r5_22; have r6_23 := (hb6.cell (p := ⟨g, 35, none⟩) z5_1).trans r5_23))
      go_wp2_with fail
      exact ⟨⟨3, by omega, rfl, (HB.out.trans (Below.trans (Below.drew (Below.refl Y.heap.size wr)) (hb5.mono (by show _ ≤ wr.heap.size; omega)))).trans (hb6.mono (by omega))⟩, by simp [intOf]⟩
    · go_wp2_with fail
      go_ret
      exact ⟨rfl, BR⟩
theorem turns5 (p q v u : V3) (d t : Int) (w : World) : Calls Try.prog 5 #[.agg #[.int .i64 p.x, .int .i64 p.y, .int .i64 p.z, .int .i64 q.x, .int .i64 q.y, .int .i64 q.z, .int .i64 v.x, .int .i64 v.y, .int .i64 v.z, .int .i64 u.x, .int .i64 u.y, .int .i64 u.z], .int .i64 d, .int .i64 t] w fun e w' => e = .returned (.bool true) ∧ Below w.heap.size w w' := by
  have T0 := fun w => within16 p q v u d t w
  rcases wiE_01 p q v u d t with he | he
  · have hG := (wiE_ok.1 he).1
    have W0 := fun w => win19 q p u v d t (wiB p q v u d t) w
    have W1 := fun w => win19 (txy p) (txy q) (txy v) (txy u) d t (wiB p q v u d t) w
    have W2 := fun w => win19 (tsg p) (tsg q) (tsg v) (tsg u) d t (wiB p q v u d t) w
    rw [(same_swap p q v u).2.2.2.2.2.2.2.1, (same_swap p q v u).2.2.2.2.2.2.2.2, he] at W0
    rw [(same_txy p q v u).2.2.2.2.2.2.2.1, (same_txy p q v u).2.2.2.2.2.2.2.2, he] at W1
    rw [(same_tsg p q v u).2.2.2.2.2.2.2.1, (same_tsg p q v u).2.2.2.2.2.2.2.2, he] at W2
    rw [he] at T0
    have hbb : ((wiB p q v u d t == wiB p q v u d t) && ((0 : Int) == 0)) = true := by simp
    rw [hbb] at W0 W1 W2
    exact turnsG p q v u d t _ w (Lib.hid T0) (Lib.hid (fun w => turnXY p q v u w)) (Lib.hid (fun w => turnSg p q v u w hG)) (Lib.hid (fun w => same21 p q v u q p u v w (same_swap p q v u))) (Lib.hid (fun w => same21 p q v u (txy p) (txy q) (txy v) (txy u) w (same_txy p q v u))) (Lib.hid (fun w => same21 p q v u (tsg p) (tsg q) (tsg v) (tsg u) w (same_tsg p q v u))) (Lib.hid W0) (Lib.hid W1) (Lib.hid W2)
  · rw [he, wiB_bad he] at T0
    exact turnsE p q v u d t w (Lib.hid T0)

namespace geometryTurnsRow
open Go.ChangeShapes Go.WideShapes Go.ChangeAt Go.RowKit
open Go.ChangeMaps (open_string shut_string)
set_option linter.unusedVariables false
theorem own : ownKnob Try.prog.godebug = none := by kernel_rfl
theorem laidOut : laidOutB Try.prog = true := by kernel_rfl
set_option maxRecDepth 100000 in
theorem lifted (os : Os) (started : os.Started) (H : Type) (enc : TypeId × Value → H) :
    ReturnsInHanded {} Try.checked os 5 .any (Rows.geometryTurnsSpec.pre6 enc Try.prog Try.f5 Rows.geometryTurnsRow.domain false) (Rows.geometryTurnsSpec.post enc Try.prog Try.f5 false true false false) := by
  refine returnsInHanded_of_change (C := Try.checked) own started (by kernel_rfl) Try.func5
    (ChangeSpec.witness6 (enc := enc) (C := Try.checked) false ⟨#[], #[.agg #[.int .i64 0, .int .i64 0, .int .i64 0, .int .i64 0, .int .i64 0, .int .i64 0, .int .i64 0, .int .i64 0, .int .i64 0, .int .i64 0, .int .i64 0, .int .i64 0], .int .i64 0, .int .i64 0], []⟩ 8 (by kernel_rfl) (by kernel_rfl) (by kernel_rfl) (by kernel_rfl)) ?_
  intro W base args ds gs before hval0 hW hcnd _hsz
  have hval : ∀ (j : Nat) t v, Try.f5.params[j]? = some t → args[j]? = some v → Value.okWide Try.prog W .any base t v := hval0
  have hW' := hW
  obtain ⟨p, q, hA0, hV, rfl, hfz, hnd⟩ := hW
  have hA : DataW.TrodAll enc Try.prog W 0 (fun _ => true) true Try.f5.params.toList args.toList ds p := hA0
  rw [Try.params5] at hA hval
  obtain ⟨v0, vs0, d0, ds0, p0, q0, hargs, rfl, rfl, h0, r0⟩ := trodAll_cons hA
  obtain ⟨v1, vs1, d1, ds1, p1, q1, rfl, rfl, rfl, h1, r1⟩ := trodAll_cons r0
  obtain ⟨v2, vs2, d2, ds2, p2, q2, rfl, rfl, rfl, h2, r2⟩ := trodAll_cons r1
  obtain ⟨rfl, rfl, rfl⟩ := trodAll_nil r2
  obtain rfl : args = #[v0, v1, v2] := by cases args; simp_all
  obtain ⟨rfl, rfl⟩ := trodVars_none hV
  have k0 := h0
  have lt0 : ∀ x ∈ p0, x.block < W.heap.size := by obtain ⟨m, hm⟩ := k0; exact DataW.trod_lt m _ _ _ hm
  have k1 := h1
  have lt1 : ∀ x ∈ p1, x.block < W.heap.size := by obtain ⟨m, hm⟩ := k1; exact DataW.trod_lt m _ _ _ hm
  have k2 := h2
  have lt2 : ∀ x ∈ p2, x.block < W.heap.size := by obtain ⟨m, hm⟩ := k2; exact DataW.trod_lt m _ _ _ hm
  obtain ⟨cs0, rfl, i0⟩ := open_leaves 9 [.i64, .i64, .i64, .i64, .i64, .i64, .i64, .i64, .i64, .i64, .i64, .i64] (by kernel_rfl) (by kernel_rfl) (hval 0 26 v0 rfl rfl) h0
  obtain ⟨a0_0, c0_0, rfl, w0_0, i0_0⟩ := i0
  obtain ⟨a0_1, c0_1, rfl, w0_1, i0_1⟩ := i0_0
  obtain ⟨a0_2, c0_2, rfl, w0_2, i0_2⟩ := i0_1
  obtain ⟨a0_3, c0_3, rfl, w0_3, i0_3⟩ := i0_2
  obtain ⟨a0_4, c0_4, rfl, w0_4, i0_4⟩ := i0_3
  obtain ⟨a0_5, c0_5, rfl, w0_5, i0_5⟩ := i0_4
  obtain ⟨a0_6, c0_6, rfl, w0_6, i0_6⟩ := i0_5
  obtain ⟨a0_7, c0_7, rfl, w0_7, i0_7⟩ := i0_6
  obtain ⟨a0_8, c0_8, rfl, w0_8, i0_8⟩ := i0_7
  obtain ⟨a0_9, c0_9, rfl, w0_9, i0_9⟩ := i0_8
  obtain ⟨a0_10, c0_10, rfl, w0_10, i0_10⟩ := i0_9
  obtain ⟨a0_11, c0_11, rfl, w0_11, i0_11⟩ := i0_10
  obtain rfl : c0_11 = [] := i0_11
  obtain ⟨a1, rfl, -, -, w1⟩ := open_int Try.underlying3 (hval 1 3 v1 rfl rfl) h1
  obtain ⟨a2, rfl, -, -, w2⟩ := open_int Try.underlying3 (hval 2 3 v2 rfl rfl) h2
  clear hA0 hval0
  refine (turns5 ⟨a0_0, a0_1, a0_2⟩ ⟨a0_3, a0_4, a0_5⟩ ⟨a0_6, a0_7, a0_8⟩ ⟨a0_9, a0_10, a0_11⟩ a1 a2 W).mono fun e W' ⟨he, bel⟩ => ?_
  subst he
  exact ⟨_, rfl, _, _, _, [], _, [], hW', trodAll_mk1 (shut_bool Try.underlying4 _), (trodAll_cons_mk (Below.trod laidOut (by kernel_rfl) (of_decide_eq_true (by kernel_rfl)) k0 bel lt0) (trodAll_cons_mk (Below.trod laidOut (by kernel_rfl) (of_decide_eq_true (by kernel_rfl)) k1 bel lt1) (trodAll_cons_mk (Below.trod laidOut (by kernel_rfl) (of_decide_eq_true (by kernel_rfl)) k2 bel lt2) trodAll_mk0))), rfl, bel.frame _, fun h => by cases h⟩

theorem over : Rows.geometryTurnsRow.holds Try.pinned (OpenSpec.ofChange Rows.geometryTurnsSpec) :=
  OpenClaim.holds_of_wide 5 Try.f5 rfl rfl rfl rfl rfl rfl rfl ⟨rfl, rfl, rfl, rfl, rfl⟩ rfl rfl rfl rfl rfl (by kernel_rfl) Try.func5 (by kernel_rfl)
    (of_decide_eq_true (by kernel_rfl)) (by unfold Func.isWrapper; first | (rw [if_pos (by decide +kernel)]; kernel_rfl) | (rw [if_neg (by decide +kernel)]; exact ⟨rfl, rfl⟩))
    (fun os started H enc _ => lifted os started H enc)
theorem proved : Rows.GeometryTurnsSaid := over
end geometryTurnsRow
end Go.Proofs.Ytdflamblbhpngaa
