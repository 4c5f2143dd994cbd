/- GeometryMoves returns true for every input. -/
import Derived.Test.YtdflamblbhpngaaRows
import Derived.WalkKit
import Derived.WalkLawsBesides
import Derived.WalkSpells
import Derived.ProofKit
import Derived.Below
import Derived.Outline
import Derived.Lib.Hide
import Derived.Deep.RegionWith
import Derived.Deep.RegionHeld3
import Derived.Deep.DrawnRows
import Derived.StillTailTactics
import Derived.BigQuiet
import Derived.Deep.QuietTactic
import Derived.Deep.LoopGhost
import Derived.IntWalk
import Derived.Test.YtdflamblbhpngaaGeZ
import Derived.Test.YtdflamblbhpngaaKO
import Derived.WalkKit
import Derived.ProofKit
import Derived.OpenShut
import Derived.ShutString
import Derived.ChangeOld
import Derived.Below
import Derived.Lib.SmallJoins
namespace Go.Proofs.Ytdflamblbhpngaa
open Go.RowKit
attribute [local go_sem ↓] Go.wp_at_zero Go.wp_at_succ
attribute [local go_sem] wrap_lit

set_option maxRecDepth 100000 in
set_option maxHeartbeats 4000000 in
theorem movesE (p q v u b : V3) (t : Int) (w : World) (T0 : Hid (∀ w, Calls Try.prog 12 #[.agg #[.int .i64 p.x, .int .i64 p.y, .int .i64 p.z], .agg #[.int .i64 q.x, .int .i64 q.y, .int .i64 q.z], .agg #[.int .i64 v.x, .int .i64 v.y, .int .i64 v.z], .agg #[.int .i64 u.x, .int .i64 u.y, .int .i64 u.z]] w fun e w' => e = .returned (.tuple #[.int .i64 0, .int .i64 0, .int .i64 1]) ∧ Below w.heap.size w w')) (T1 : Hid (∀ w, Calls Try.prog 14 #[.agg #[.int .i64 p.x, .int .i64 p.y, .int .i64 p.z], .agg #[.int .i64 q.x, .int .i64 q.y, .int .i64 q.z], .agg #[.int .i64 v.x, .int .i64 v.y, .int .i64 v.z], .agg #[.int .i64 u.x, .int .i64 u.y, .int .i64 u.z]] w fun e w' => e = .returned (.tuple #[.int .i64 0, .int .i64 1]) ∧ Below w.heap.size w w')) : Calls Try.prog 8 #[.agg #[.int .i64 p.x, .int .i64 p.y, .int .i64 p.z, .int .i64 q.x, .int .i64 q.y, .int .i64 q.z, .int .i64 v.x, .int .i64 v.y, .int .i64 v.z, .int .i64 u.x, .int .i64 u.y, .int .i64 u.z], .int .i64 t, .agg #[.int .i64 b.x, .int .i64 b.y, .int .i64 b.z]] w fun e w' => e = .returned (.bool true) ∧ Below w.heap.size w w' := by
  go_enter Try.func8, Try.ntmps8
  go_wp2_with fail
  refine (T0.out _).mono ?_
  rintro e w1 ⟨rfl, hb1⟩
  have hc1 := (bcell hb1).1
  have hf1 := (bcell hb1).2
  have hs1 := hb1.size
  try simp at hs1
  have hz1_0 : w.heap.size < w1.heap.size := by omega
  have hz1_1 : w.heap.size + 1 < w1.heap.size := by omega
  have B1 : Below w.heap.size w w1 := (((Below.refl _ _).alloc (Nat.le_refl _) _).alloc (by first | omega | (simp; omega) | simp) _).trans (hb1.mono (by first | omega | (simp; omega) | simp))
  go_wp2_with fail
  refine (T1.out _).mono ?_
  rintro e w2 ⟨rfl, hb2⟩
  have hc2 := (bcell hb2).1
  have hf2 := (bcell hb2).2
  have hs2 := hb2.size
  try simp at hs2
  have hz2_0 : w.heap.size < w2.heap.size := by omega
  have hz2_1 : w.heap.size + 1 < w2.heap.size := by omega
  have B2 : Below w.heap.size w w2 := (B1).trans (hb2.mono (by first | omega | (simp; omega) | simp))
  go_wp2_with fail
  refine (awake18 _).mono ?_
  rintro e w3 ⟨rfl, hb3⟩
  have hc3 := (bcell hb3).1
  have hf3 := (bcell hb3).2
  have hs3 := hb3.size
  try simp at hs3
  have hz3_0 : w.heap.size < w3.heap.size := by omega
  have hz3_1 : w.heap.size + 1 < w3.heap.size := by omega
  have B3 : Below w.heap.size w w3 := (B2).trans (hb3.mono (by first | omega | (simp; omega) | simp))
  go_wp2_with fail
  go_ret
  exact ⟨rfl, B3⟩

set_option maxRecDepth 100000 in
set_option maxHeartbeats 4000000 in
theorem movesG (p q v u b P1 Q1 P2 Q2 : V3) (t N D M E1 E2 E3 E4 : Int) (w : World) (hD : 1 ≤ D ∧ D ≤ 10000000000000) (hN : 0 ≤ N ∧ N ≤ 10000000000000)
    (T0 : Hid (∀ w, Calls Try.prog 12 #[.agg #[.int .i64 p.x, .int .i64 p.y, .int .i64 p.z], .agg #[.int .i64 q.x, .int .i64 q.y, .int .i64 q.z], .agg #[.int .i64 v.x, .int .i64 v.y, .int .i64 v.z], .agg #[.int .i64 u.x, .int .i64 u.y, .int .i64 u.z]] w fun e w' => e = .returned (.tuple #[.int .i64 N, .int .i64 D, .int .i64 0]) ∧ Below w.heap.size w w')) (T1 : Hid (∀ w, Calls Try.prog 14 #[.agg #[.int .i64 p.x, .int .i64 p.y, .int .i64 p.z], .agg #[.int .i64 q.x, .int .i64 q.y, .int .i64 q.z], .agg #[.int .i64 v.x, .int .i64 v.y, .int .i64 v.z], .agg #[.int .i64 u.x, .int .i64 u.y, .int .i64 u.z]] w fun e w' => e = .returned (.tuple #[.int .i64 M, .int .i64 0]) ∧ Below w.heap.size w w'))
    (T2 : Hid (∀ w, Calls Try.prog 29 #[.agg #[.int .i64 p.x, .int .i64 p.y, .int .i64 p.z], .agg #[.int .i64 b.x, .int .i64 b.y, .int .i64 b.z], .int .i64 1] w fun e w' => e = .returned (.tuple #[.agg #[.int .i64 P1.x, .int .i64 P1.y, .int .i64 P1.z], .int .i64 E1]) ∧ Below w.heap.size w w')) (T3 : Hid (∀ w, Calls Try.prog 29 #[.agg #[.int .i64 q.x, .int .i64 q.y, .int .i64 q.z], .agg #[.int .i64 b.x, .int .i64 b.y, .int .i64 b.z], .int .i64 1] w fun e w' => e = .returned (.tuple #[.agg #[.int .i64 Q1.x, .int .i64 Q1.y, .int .i64 Q1.z], .int .i64 E2]) ∧ Below w.heap.size w w')) (T4 : E1 = 0 → E2 = 0 → Hid (∀ w, Calls Try.prog 21 #[.agg #[.int .i64 p.x, .int .i64 p.y, .int .i64 p.z, .int .i64 q.x, .int .i64 q.y, .int .i64 q.z, .int .i64 v.x, .int .i64 v.y, .int .i64 v.z, .int .i64 u.x, .int .i64 u.y, .int .i64 u.z], .agg #[.int .i64 P1.x, .int .i64 P1.y, .int .i64 P1.z, .int .i64 Q1.x, .int .i64 Q1.y, .int .i64 Q1.z, .int .i64 v.x, .int .i64 v.y, .int .i64 v.z, .int .i64 u.x, .int .i64 u.y, .int .i64 u.z]] w fun e w' => e = .returned (.bool true) ∧ Below w.heap.size w w'))
    (T5 : Hid (∀ w, Calls Try.prog 29 #[.agg #[.int .i64 p.x, .int .i64 p.y, .int .i64 p.z], .agg #[.int .i64 v.x, .int .i64 v.y, .int .i64 v.z], .int .i64 t] w fun e w' => e = .returned (.tuple #[.agg #[.int .i64 P2.x, .int .i64 P2.y, .int .i64 P2.z], .int .i64 E3]) ∧ Below w.heap.size w w')) (T6 : Hid (∀ w, Calls Try.prog 29 #[.agg #[.int .i64 q.x, .int .i64 q.y, .int .i64 q.z], .agg #[.int .i64 u.x, .int .i64 u.y, .int .i64 u.z], .int .i64 t] w fun e w' => e = .returned (.tuple #[.agg #[.int .i64 Q2.x, .int .i64 Q2.y, .int .i64 Q2.z], .int .i64 E4]) ∧ Below w.heap.size w w'))
    (T7 : E3 = 0 → E4 = 0 → t ≤ N / D → Hid (∀ w, Calls Try.prog 12 #[.agg #[.int .i64 P2.x, .int .i64 P2.y, .int .i64 P2.z], .agg #[.int .i64 Q2.x, .int .i64 Q2.y, .int .i64 Q2.z], .agg #[.int .i64 v.x, .int .i64 v.y, .int .i64 v.z], .agg #[.int .i64 u.x, .int .i64 u.y, .int .i64 u.z]] w fun e w' => e = .returned (.tuple #[.int .i64 (N - t * D), .int .i64 D, .int .i64 0]) ∧ Below w.heap.size w w'))
    (T8 : E3 = 0 → E4 = 0 → t ≤ N / D → Hid (∀ w, Calls Try.prog 14 #[.agg #[.int .i64 P2.x, .int .i64 P2.y, .int .i64 P2.z], .agg #[.int .i64 Q2.x, .int .i64 Q2.y, .int .i64 Q2.z], .agg #[.int .i64 v.x, .int .i64 v.y, .int .i64 v.z], .agg #[.int .i64 u.x, .int .i64 u.y, .int .i64 u.z]] w fun e w' => e = .returned (.tuple #[.int .i64 M, .int .i64 0]) ∧ Below w.heap.size w w'))
    (hTD : E3 = 0 → E4 = 0 → t ≤ N / D → 0 ≤ t * D ∧ t * D ≤ N) : Calls Try.prog 8 #[.agg #[.int .i64 p.x, .int .i64 p.y, .int .i64 p.z, .int .i64 q.x, .int .i64 q.y, .int .i64 q.z, .int .i64 v.x, .int .i64 v.y, .int .i64 v.z, .int .i64 u.x, .int .i64 u.y, .int .i64 u.z], .int .i64 t, .agg #[.int .i64 b.x, .int .i64 b.y, .int .i64 b.z]] w fun e w' => e = .returned (.bool true) ∧ Below w.heap.size w w' := by
  obtain ⟨D0, D1⟩ := hD
  obtain ⟨N0, N1⟩ := hN
  have q0 : N.tdiv D = N / D := Int.tdiv_eq_ediv_of_nonneg (by omega)
  have q2 : 0 ≤ N / D := Int.ediv_nonneg (by omega) (by omega)
  have q3 : N / D ≤ N := Int.ediv_le_self _ (by omega)
  have q1 : IntKind.i64.wrap (N / D) = N / D := IntWalk.i64_in _ (by omega)
  have q4 : (D == 0) = false := by simp; omega
  have q5 : ¬ D = 0 := by omega
  have q6 : ¬ D < 1 := by omega
  have Q := And.intro q0 q1
  have HQ := Lib.hid Q
  clear q0 q1 q2 q3 Q
  go_enter Try.func8, Try.ntmps8
  go_wp2_with fail
  refine (T0.out _).mono ?_
  rintro e w1 ⟨rfl, hb1⟩
  have hc1 := (bcell hb1).1
  have hf1 := (bcell hb1).2
  have hs1 := hb1.size
  try simp at hs1
  have hz1_0 : w.heap.size < w1.heap.size := by omega
  have hz1_1 : w.heap.size + 1 < w1.heap.size := by omega
  have B1 : Below w.heap.size w w1 := (((Below.refl _ _).alloc (Nat.le_refl _) _).alloc (by first | omega | (simp; omega) | simp) _).trans (hb1.mono (by first | omega | (simp; omega) | simp))
  go_wp2_with fail
  refine (T1.out _).mono ?_
  rintro e w2 ⟨rfl, hb2⟩
  have hc2 := (bcell hb2).1
  have hf2 := (bcell hb2).2
  have hs2 := hb2.size
  try simp at hs2
  have hz2_0 : w.heap.size < w2.heap.size := by omega
  have hz2_1 : w.heap.size + 1 < w2.heap.size := by omega
  have B2 : Below w.heap.size w w2 := (B1).trans (hb2.mono (by first | omega | (simp; omega) | simp))
  go_wp2_with fail
  refine (awake18 _).mono ?_
  rintro e w3 ⟨rfl, hb3⟩
  have hc3 := (bcell hb3).1
  have hf3 := (bcell hb3).2
  have hs3 := hb3.size
  try simp at hs3
  have hz3_0 : w.heap.size < w3.heap.size := by omega
  have hz3_1 : w.heap.size + 1 < w3.heap.size := by omega
  have B3 : Below w.heap.size w w3 := (B2).trans (hb3.mono (by first | omega | (simp; omega) | simp))
  go_wp2_with fail
  refine (T2.out _).mono ?_
  rintro e w4 ⟨rfl, hb4⟩
  have hc4 := (bcell hb4).1
  have hf4 := (bcell hb4).2
  have hs4 := hb4.size
  try simp at hs4
  have hz4_0 : w.heap.size < w4.heap.size := by omega
  have hz4_1 : w.heap.size + 1 < w4.heap.size := by omega
  have B4 : Below w.heap.size w w4 := (B3).trans (hb4.mono (by first | omega | (simp; omega) | simp))
  go_wp2_with fail
  refine (T3.out _).mono ?_
  rintro e w5 ⟨rfl, hb5⟩
  have hc5 := (bcell hb5).1
  have hf5 := (bcell hb5).2
  have hs5 := hb5.size
  try simp at hs5
  have hz5_0 : w.heap.size < w5.heap.size := by omega
  have hz5_1 : w.heap.size + 1 < w5.heap.size := by omega
  have hz5_2 : w4.heap.size < w5.heap.size := by omega
  have B5 : Below w.heap.size w w5 := (B4.alloc (by first | omega | (simp; omega) | simp) _).trans (hb5.mono (by first | omega | (simp; omega) | simp))
  have z54 : w4.heap.size < w5.heap.size := by omega
  rcases (by omega : (E1 = 0 ∧ E2 = 0) ∨ ¬ E1 = 0 ∨ (E1 = 0 ∧ ¬ E2 = 0)) with ⟨h1, h2⟩ | h1 | ⟨h1, h2⟩
  · have U4 := T4 h1 h2
    clear T4
    subst h1 h2
    go_wp2_with fail
    refine (U4.out _).mono ?_
    rintro e w6 ⟨rfl, hb6⟩
    have hc6 := (bcell hb6).1
    have hf6 := (bcell hb6).2
    have hs6 := hb6.size
    try simp at hs6
    have hz6_0 : w.heap.size < w6.heap.size := by omega
    have hz6_1 : w.heap.size + 1 < w6.heap.size := by omega
    have hz6_2 : w4.heap.size < w6.heap.size := by omega
    have hz6_3 : w5.heap.size < w6.heap.size := by omega
    have B6 : Below w.heap.size w w6 := (B5.alloc (by first | omega | (simp; omega) | simp) _).trans (hb6.mono (by first | omega | (simp; omega) | simp))
    go_wp2_with fail
    obtain ⟨X, hX⟩ : ∃ X, X = w6 := ⟨_, rfl⟩
    have k_0 : X.cell? ⟨w.heap.size, 0, none⟩ = some (.int .i64 p.x) := by rw [hX]; go_simp
    have k_1 : X.cell? ⟨w.heap.size, 1, none⟩ = some (.int .i64 p.y) := by rw [hX]; go_simp
    have k_2 : X.cell? ⟨w.heap.size, 2, none⟩ = some (.int .i64 p.z) := by rw [hX]; go_simp
    have k_3 : X.cell? ⟨w.heap.size, 3, none⟩ = some (.int .i64 q.x) := by rw [hX]; go_simp
    have k_4 : X.cell? ⟨w.heap.size, 4, none⟩ = some (.int .i64 q.y) := by rw [hX]; go_simp
    have k_5 : X.cell? ⟨w.heap.size, 5, none⟩ = some (.int .i64 q.z) := by rw [hX]; go_simp
    have k_6 : X.cell? ⟨w.heap.size, 6, none⟩ = some (.int .i64 v.x) := by rw [hX]; go_simp
    have k_7 : X.cell? ⟨w.heap.size, 7, none⟩ = some (.int .i64 v.y) := by rw [hX]; go_simp
    have k_8 : X.cell? ⟨w.heap.size, 8, none⟩ = some (.int .i64 v.z) := by rw [hX]; go_simp
    have k_9 : X.cell? ⟨w.heap.size, 9, none⟩ = some (.int .i64 u.x) := by rw [hX]; go_simp
    have k_10 : X.cell? ⟨w.heap.size, 10, none⟩ = some (.int .i64 u.y) := by rw [hX]; go_simp
    have k_11 : X.cell? ⟨w.heap.size, 11, none⟩ = some (.int .i64 u.z) := by rw [hX]; go_simp
    have a_0 : X.cell? ⟨w4.heap.size, 0, none⟩ = some (.int .i64 P1.x) := by rw [hX]; go_simp
    have af_0 : X.frozen? ⟨w4.heap.size, 0, none⟩ = false := by rw [hX]; go_simp
    have a_1 : X.cell? ⟨w4.heap.size, 1, none⟩ = some (.int .i64 P1.y) := by rw [hX]; go_simp
    have af_1 : X.frozen? ⟨w4.heap.size, 1, none⟩ = false := by rw [hX]; go_simp
    have a_2 : X.cell? ⟨w4.heap.size, 2, none⟩ = some (.int .i64 P1.z) := by rw [hX]; go_simp
    have af_2 : X.frozen? ⟨w4.heap.size, 2, none⟩ = false := by rw [hX]; go_simp
    have c_0 : X.cell? ⟨w5.heap.size, 0, none⟩ = some (.int .i64 Q1.x) := by rw [hX]; go_simp
    have cf_0 : X.frozen? ⟨w5.heap.size, 0, none⟩ = false := by rw [hX]; go_simp
    have c_1 : X.cell? ⟨w5.heap.size, 1, none⟩ = some (.int .i64 Q1.y) := by rw [hX]; go_simp
    have cf_1 : X.frozen? ⟨w5.heap.size, 1, none⟩ = false := by rw [hX]; go_simp
    have c_2 : X.cell? ⟨w5.heap.size, 2, none⟩ = some (.int .i64 Q1.z) := by rw [hX]; go_simp
    have cf_2 : X.frozen? ⟨w5.heap.size, 2, none⟩ = false := by rw [hX]; go_simp
    have zX0 : w.heap.size < X.heap.size := by rw [hX]; first | omega | (simp <;> omega)
    have zX1 : w4.heap.size < X.heap.size := by rw [hX]; first | omega | (simp <;> omega)
    have zX2 : w5.heap.size < X.heap.size := by rw [hX]; first | omega | (simp <;> omega)
    have BX : Below w.heap.size w X := by rw [hX]; exact B6
    rw [← hX]
    clear hX
    have g01 : w.heap.size < w4.heap.size := by omega
    have g02 : w.heap.size < w5.heap.size := by omega
    clear hc1 hf1 hc2 hf2 hc3 hf3 hc4 hf4 hc5 hf5 hc6 hf6
    refine (T5.out _).mono ?_
    rintro e w7 ⟨rfl, hb7⟩
    have hc7 := (bcell hb7).1
    have hf7 := (bcell hb7).2
    have hs7 := hb7.size
    try simp at hs7
    have hz7_0 : w.heap.size < w7.heap.size := by omega
    have hz7_1 : w4.heap.size < w7.heap.size := by omega
    have hz7_2 : w5.heap.size < w7.heap.size := by omega
    have B7 : Below w.heap.size w w7 := (BX).trans (hb7.mono (by first | omega | (simp; omega) | simp))
    go_wp2_with fail
    obtain ⟨Y, hY⟩ : ∃ Y, Y = (((w7.setCell ⟨w4.heap.size, 0, none⟩ (.int .i64 P2.x)).setCell ⟨w4.heap.size, 1, none⟩ (.int .i64 P2.y)).setCell ⟨w4.heap.size, 2, none⟩ (.int .i64 P2.z)) := ⟨_, rfl⟩
    have l_0 : Y.cell? ⟨w.heap.size, 0, none⟩ = some (.int .i64 p.x) := by rw [hY]; go_simp
    have l_1 : Y.cell? ⟨w.heap.size, 1, none⟩ = some (.int .i64 p.y) := by rw [hY]; go_simp
    have l_2 : Y.cell? ⟨w.heap.size, 2, none⟩ = some (.int .i64 p.z) := by rw [hY]; go_simp
    have l_3 : Y.cell? ⟨w.heap.size, 3, none⟩ = some (.int .i64 q.x) := by rw [hY]; go_simp
    have l_4 : Y.cell? ⟨w.heap.size, 4, none⟩ = some (.int .i64 q.y) := by rw [hY]; go_simp
    have l_5 : Y.cell? ⟨w.heap.size, 5, none⟩ = some (.int .i64 q.z) := by rw [hY]; go_simp
    have l_6 : Y.cell? ⟨w.heap.size, 6, none⟩ = some (.int .i64 v.x) := by rw [hY]; go_simp
    have l_7 : Y.cell? ⟨w.heap.size, 7, none⟩ = some (.int .i64 v.y) := by rw [hY]; go_simp
    have l_8 : Y.cell? ⟨w.heap.size, 8, none⟩ = some (.int .i64 v.z) := by rw [hY]; go_simp
    have l_9 : Y.cell? ⟨w.heap.size, 9, none⟩ = some (.int .i64 u.x) := by rw [hY]; go_simp
    have l_10 : Y.cell? ⟨w.heap.size, 10, none⟩ = some (.int .i64 u.y) := by rw [hY]; go_simp
    have l_11 : Y.cell? ⟨w.heap.size, 11, none⟩ = some (.int .i64 u.z) := by rw [hY]; go_simp
    have m_0 : Y.cell? ⟨w4.heap.size, 0, none⟩ = some (.int .i64 P2.x) := by rw [hY]; go_simp
    have mf_0 : Y.frozen? ⟨w4.heap.size, 0, none⟩ = false := by rw [hY]; go_simp
    have m_1 : Y.cell? ⟨w4.heap.size, 1, none⟩ = some (.int .i64 P2.y) := by rw [hY]; go_simp
    have mf_1 : Y.frozen? ⟨w4.heap.size, 1, none⟩ = false := by rw [hY]; go_simp
    have m_2 : Y.cell? ⟨w4.heap.size, 2, none⟩ = some (.int .i64 P2.z) := by rw [hY]; go_simp
    have mf_2 : Y.frozen? ⟨w4.heap.size, 2, none⟩ = false := by rw [hY]; go_simp
    have n_0 : Y.cell? ⟨w5.heap.size, 0, none⟩ = some (.int .i64 Q1.x) := by rw [hY]; go_simp
    have nf_0 : Y.frozen? ⟨w5.heap.size, 0, none⟩ = false := by rw [hY]; go_simp
    have n_1 : Y.cell? ⟨w5.heap.size, 1, none⟩ = some (.int .i64 Q1.y) := by rw [hY]; go_simp
    have nf_1 : Y.frozen? ⟨w5.heap.size, 1, none⟩ = false := by rw [hY]; go_simp
    have n_2 : Y.cell? ⟨w5.heap.size, 2, none⟩ = some (.int .i64 Q1.z) := by rw [hY]; go_simp
    have nf_2 : Y.frozen? ⟨w5.heap.size, 2, none⟩ = false := by rw [hY]; go_simp
    have zY0 : w.heap.size < Y.heap.size := by rw [hY]; first | omega | (simp [World.setCell]; omega)
    have zY1 : w4.heap.size < Y.heap.size := by rw [hY]; first | omega | (simp [World.setCell]; omega)
    have zY2 : w5.heap.size < Y.heap.size := by rw [hY]; first | omega | (simp [World.setCell]; omega)
    have BY : Below w.heap.size w Y := by rw [hY]; exact (((B7.setCell (p := ⟨w4.heap.size, 0, none⟩) (Nat.le_of_lt g01) (.int .i64 P2.x)).setCell (p := ⟨w4.heap.size, 1, none⟩) (Nat.le_of_lt g01) (.int .i64 P2.y)).setCell (p := ⟨w4.heap.size, 2, none⟩) (Nat.le_of_lt g01) (.int .i64 P2.z))
    rw [← hY]
    clear hY
    clear hc7 hf7 k_0 k_1 k_2 k_3 k_4 k_5 k_6 k_7 k_8 k_9 k_10 k_11 a_0 af_0 c_0 cf_0 a_1 af_1 c_1 cf_1 a_2 af_2 c_2 cf_2
    refine (T6.out _).mono ?_
    rintro e w8 ⟨rfl, hb8⟩
    have hc8 := (bcell hb8).1
    have hf8 := (bcell hb8).2
    have hs8 := hb8.size
    try simp at hs8
    have hz8_0 : w.heap.size < w8.heap.size := by omega
    have hz8_1 : w4.heap.size < w8.heap.size := by omega
    have hz8_2 : w5.heap.size < w8.heap.size := by omega
    have B8 : Below w.heap.size w w8 := (BY).trans (hb8.mono (by first | omega | (simp; omega) | simp))
    rcases (by omega : ¬ E3 = 0 ∨ (E3 = 0 ∧ ¬ E4 = 0) ∨ (E3 = 0 ∧ E4 = 0 ∧ ¬ t ≤ N / D) ∨ (E3 = 0 ∧ E4 = 0 ∧ t ≤ N / D)) with h3 | ⟨h3, h4⟩ | ⟨h3, h4, h5⟩ | ⟨h3, h4, h5⟩
    · clear T7 T8 hTD
      go_wp2_with fail
      go_ret
      exact ⟨rfl, (((B8.setCell (p := ⟨w5.heap.size, 0, none⟩) (Nat.le_of_lt g02) (.int .i64 Q2.x)).setCell (p := ⟨w5.heap.size, 1, none⟩) (Nat.le_of_lt g02) (.int .i64 Q2.y)).setCell (p := ⟨w5.heap.size, 2, none⟩) (Nat.le_of_lt g02) (.int .i64 Q2.z))⟩
    · clear T7 T8 hTD
      subst h3
      go_wp2_with fail
      go_ret
      exact ⟨rfl, (((B8.setCell (p := ⟨w5.heap.size, 0, none⟩) (Nat.le_of_lt g02) (.int .i64 Q2.x)).setCell (p := ⟨w5.heap.size, 1, none⟩) (Nat.le_of_lt g02) (.int .i64 Q2.y)).setCell (p := ⟨w5.heap.size, 2, none⟩) (Nat.le_of_lt g02) (.int .i64 Q2.z))⟩
    · clear T7 T8 hTD
      subst h3 h4
      obtain ⟨q0, q1⟩ := HQ.out
      go_wp2_with fail
      go_ret
      exact ⟨rfl, (((B8.setCell (p := ⟨w5.heap.size, 0, none⟩) (Nat.le_of_lt g02) (.int .i64 Q2.x)).setCell (p := ⟨w5.heap.size, 1, none⟩) (Nat.le_of_lt g02) (.int .i64 Q2.y)).setCell (p := ⟨w5.heap.size, 2, none⟩) (Nat.le_of_lt g02) (.int .i64 Q2.z))⟩
    · have U7 := T7 h3 h4 h5
      have U8 := T8 h3 h4 h5
      obtain ⟨x1, x2⟩ := hTD h3 h4 h5
      clear T7 T8 hTD
      subst h3 h4
      obtain ⟨q0, q1⟩ := HQ.out
      go_wp2_with fail
      refine (U7.out _).mono ?_
      rintro e w9 ⟨rfl, hb9⟩
      have hc9 := (bcell hb9).1
      have hf9 := (bcell hb9).2
      have hs9 := hb9.size
      try simp at hs9
      have hz9_0 : w.heap.size < w9.heap.size := by omega
      have hz9_1 : w4.heap.size < w9.heap.size := by omega
      have hz9_2 : w5.heap.size < w9.heap.size := by omega
      have B9 : Below w.heap.size w w9 := ((((B8.setCell (p := ⟨w5.heap.size, 0, none⟩) (Nat.le_of_lt g02) (.int .i64 Q2.x)).setCell (p := ⟨w5.heap.size, 1, none⟩) (Nat.le_of_lt g02) (.int .i64 Q2.y)).setCell (p := ⟨w5.heap.size, 2, none⟩) (Nat.le_of_lt g02) (.int .i64 Q2.z))).trans (hb9.mono (by first | omega | (simp; omega) | simp))
      go_wp2_with fail
      refine (U8.out _).mono ?_
      rintro e w10 ⟨rfl, hb10⟩
      have hc10 := (bcell hb10).1
      have hf10 := (bcell hb10).2
      have hs10 := hb10.size
      try simp at hs10
      have hz10_0 : w.heap.size < w10.heap.size := by omega
      have hz10_1 : w4.heap.size < w10.heap.size := by omega
      have hz10_2 : w5.heap.size < w10.heap.size := by omega
      have B10 : Below w.heap.size w w10 := (B9).trans (hb10.mono (by first | omega | (simp; omega) | simp))
      go_wp2_with fail
      go_ret
      exact ⟨rfl, B10⟩
  · clear T4
    go_wp2_with fail
    obtain ⟨X, hX⟩ : ∃ X, X = w5.alloc (.cells #[.int .i64 Q1.x, .int .i64 Q1.y, .int .i64 Q1.z] 23) := ⟨_, rfl⟩
    have k_0 : X.cell? ⟨w.heap.size, 0, none⟩ = some (.int .i64 p.x) := by rw [hX]; go_simp
    have k_1 : X.cell? ⟨w.heap.size, 1, none⟩ = some (.int .i64 p.y) := by rw [hX]; go_simp
    have k_2 : X.cell? ⟨w.heap.size, 2, none⟩ = some (.int .i64 p.z) := by rw [hX]; go_simp
    have k_3 : X.cell? ⟨w.heap.size, 3, none⟩ = some (.int .i64 q.x) := by rw [hX]; go_simp
    have k_4 : X.cell? ⟨w.heap.size, 4, none⟩ = some (.int .i64 q.y) := by rw [hX]; go_simp
    have k_5 : X.cell? ⟨w.heap.size, 5, none⟩ = some (.int .i64 q.z) := by rw [hX]; go_simp
    have k_6 : X.cell? ⟨w.heap.size, 6, none⟩ = some (.int .i64 v.x) := by rw [hX]; go_simp
    have k_7 : X.cell? ⟨w.heap.size, 7, none⟩ = some (.int .i64 v.y) := by rw [hX]; go_simp
    have k_8 : X.cell? ⟨w.heap.size, 8, none⟩ = some (.int .i64 v.z) := by rw [hX]; go_simp
    have k_9 : X.cell? ⟨w.heap.size, 9, none⟩ = some (.int .i64 u.x) := by rw [hX]; go_simp
    have k_10 : X.cell? ⟨w.heap.size, 10, none⟩ = some (.int .i64 u.y) := by rw [hX]; go_simp
    have k_11 : X.cell? ⟨w.heap.size, 11, none⟩ = some (.int .i64 u.z) := by rw [hX]; go_simp
    have a_0 : X.cell? ⟨w4.heap.size, 0, none⟩ = some (.int .i64 P1.x) := by rw [hX]; go_simp
    have af_0 : X.frozen? ⟨w4.heap.size, 0, none⟩ = false := by rw [hX]; go_simp
    have a_1 : X.cell? ⟨w4.heap.size, 1, none⟩ = some (.int .i64 P1.y) := by rw [hX]; go_simp
    have af_1 : X.frozen? ⟨w4.heap.size, 1, none⟩ = false := by rw [hX]; go_simp
    have a_2 : X.cell? ⟨w4.heap.size, 2, none⟩ = some (.int .i64 P1.z) := by rw [hX]; go_simp
    have af_2 : X.frozen? ⟨w4.heap.size, 2, none⟩ = false := by rw [hX]; go_simp
    have c_0 : X.cell? ⟨w5.heap.size, 0, none⟩ = some (.int .i64 Q1.x) := by rw [hX]; go_simp
    have cf_0 : X.frozen? ⟨w5.heap.size, 0, none⟩ = false := by rw [hX]; go_simp
    have c_1 : X.cell? ⟨w5.heap.size, 1, none⟩ = some (.int .i64 Q1.y) := by rw [hX]; go_simp
    have cf_1 : X.frozen? ⟨w5.heap.size, 1, none⟩ = false := by rw [hX]; go_simp
    have c_2 : X.cell? ⟨w5.heap.size, 2, none⟩ = some (.int .i64 Q1.z) := by rw [hX]; go_simp
    have cf_2 : X.frozen? ⟨w5.heap.size, 2, none⟩ = false := by rw [hX]; go_simp
    have zX0 : w.heap.size < X.heap.size := by rw [hX]; first | omega | (simp <;> omega)
    have zX1 : w4.heap.size < X.heap.size := by rw [hX]; first | omega | (simp <;> omega)
    have zX2 : w5.heap.size < X.heap.size := by rw [hX]; first | omega | (simp <;> omega)
    have BX : Below w.heap.size w X := by rw [hX]; exact B5.alloc (by first | omega | (simp; omega) | simp) _
    rw [← hX]
    clear hX
    have g01 : w.heap.size < w4.heap.size := by omega
    have g02 : w.heap.size < w5.heap.size := by omega
    clear hc1 hf1 hc2 hf2 hc3 hf3 hc4 hf4 hc5 hf5
    refine (T5.out _).mono ?_
    rintro e w7 ⟨rfl, hb7⟩
    have hc7 := (bcell hb7).1
    have hf7 := (bcell hb7).2
    have hs7 := hb7.size
    try simp at hs7
    have hz7_0 : w.heap.size < w7.heap.size := by omega
    have hz7_1 : w4.heap.size < w7.heap.size := by omega
    have hz7_2 : w5.heap.size < w7.heap.size := by omega
    have B7 : Below w.heap.size w w7 := (BX).trans (hb7.mono (by first | omega | (simp; omega) | simp))
    go_wp2_with fail
    obtain ⟨Y, hY⟩ : ∃ Y, Y = (((w7.setCell ⟨w4.heap.size, 0, none⟩ (.int .i64 P2.x)).setCell ⟨w4.heap.size, 1, none⟩ (.int .i64 P2.y)).setCell ⟨w4.heap.size, 2, none⟩ (.int .i64 P2.z)) := ⟨_, rfl⟩
    have l_0 : Y.cell? ⟨w.heap.size, 0, none⟩ = some (.int .i64 p.x) := by rw [hY]; go_simp
    have l_1 : Y.cell? ⟨w.heap.size, 1, none⟩ = some (.int .i64 p.y) := by rw [hY]; go_simp
    have l_2 : Y.cell? ⟨w.heap.size, 2, none⟩ = some (.int .i64 p.z) := by rw [hY]; go_simp
    have l_3 : Y.cell? ⟨w.heap.size, 3, none⟩ = some (.int .i64 q.x) := by rw [hY]; go_simp
    have l_4 : Y.cell? ⟨w.heap.size, 4, none⟩ = some (.int .i64 q.y) := by rw [hY]; go_simp
    have l_5 : Y.cell? ⟨w.heap.size, 5, none⟩ = some (.int .i64 q.z) := by rw [hY]; go_simp
    have l_6 : Y.cell? ⟨w.heap.size, 6, none⟩ = some (.int .i64 v.x) := by rw [hY]; go_simp
    have l_7 : Y.cell? ⟨w.heap.size, 7, none⟩ = some (.int .i64 v.y) := by rw [hY]; go_simp
    have l_8 : Y.cell? ⟨w.heap.size, 8, none⟩ = some (.int .i64 v.z) := by rw [hY]; go_simp
    have l_9 : Y.cell? ⟨w.heap.size, 9, none⟩ = some (.int .i64 u.x) := by rw [hY]; go_simp
    have l_10 : Y.cell? ⟨w.heap.size, 10, none⟩ = some (.int .i64 u.y) := by rw [hY]; go_simp
    have l_11 : Y.cell? ⟨w.heap.size, 11, none⟩ = some (.int .i64 u.z) := by rw [hY]; go_simp
    have m_0 : Y.cell? ⟨w4.heap.size, 0, none⟩ = some (.int .i64 P2.x) := by rw [hY]; go_simp
    have mf_0 : Y.frozen? ⟨w4.heap.size, 0, none⟩ = false := by rw [hY]; go_simp
    have m_1 : Y.cell? ⟨w4.heap.size, 1, none⟩ = some (.int .i64 P2.y) := by rw [hY]; go_simp
    have mf_1 : Y.frozen? ⟨w4.heap.size, 1, none⟩ = false := by rw [hY]; go_simp
    have m_2 : Y.cell? ⟨w4.heap.size, 2, none⟩ = some (.int .i64 P2.z) := by rw [hY]; go_simp
    have mf_2 : Y.frozen? ⟨w4.heap.size, 2, none⟩ = false := by rw [hY]; go_simp
    have n_0 : Y.cell? ⟨w5.heap.size, 0, none⟩ = some (.int .i64 Q1.x) := by rw [hY]; go_simp
    have nf_0 : Y.frozen? ⟨w5.heap.size, 0, none⟩ = false := by rw [hY]; go_simp
    have n_1 : Y.cell? ⟨w5.heap.size, 1, none⟩ = some (.int .i64 Q1.y) := by rw [hY]; go_simp
    have nf_1 : Y.frozen? ⟨w5.heap.size, 1, none⟩ = false := by rw [hY]; go_simp
    have n_2 : Y.cell? ⟨w5.heap.size, 2, none⟩ = some (.int .i64 Q1.z) := by rw [hY]; go_simp
    have nf_2 : Y.frozen? ⟨w5.heap.size, 2, none⟩ = false := by rw [hY]; go_simp
    have zY0 : w.heap.size < Y.heap.size := by rw [hY]; first | omega | (simp [World.setCell]; omega)
    have zY1 : w4.heap.size < Y.heap.size := by rw [hY]; first | omega | (simp [World.setCell]; omega)
    have zY2 : w5.heap.size < Y.heap.size := by rw [hY]; first | omega | (simp [World.setCell]; omega)
    have BY : Below w.heap.size w Y := by rw [hY]; exact (((B7.setCell (p := ⟨w4.heap.size, 0, none⟩) (Nat.le_of_lt g01) (.int .i64 P2.x)).setCell (p := ⟨w4.heap.size, 1, none⟩) (Nat.le_of_lt g01) (.int .i64 P2.y)).setCell (p := ⟨w4.heap.size, 2, none⟩) (Nat.le_of_lt g01) (.int .i64 P2.z))
    rw [← hY]
    clear hY
    clear hc7 hf7 k_0 k_1 k_2 k_3 k_4 k_5 k_6 k_7 k_8 k_9 k_10 k_11 a_0 af_0 c_0 cf_0 a_1 af_1 c_1 cf_1 a_2 af_2 c_2 cf_2
    refine (T6.out _).mono ?_
    rintro e w8 ⟨rfl, hb8⟩
    have hc8 := (bcell hb8).1
    have hf8 := (bcell hb8).2
    have hs8 := hb8.size
    try simp at hs8
    have hz8_0 : w.heap.size < w8.heap.size := by omega
    have hz8_1 : w4.heap.size < w8.heap.size := by omega
    have hz8_2 : w5.heap.size < w8.heap.size := by omega
    have B8 : Below w.heap.size w w8 := (BY).trans (hb8.mono (by first | omega | (simp; omega) | simp))
    rcases (by omega : ¬ E3 = 0 ∨ (E3 = 0 ∧ ¬ E4 = 0) ∨ (E3 = 0 ∧ E4 = 0 ∧ ¬ t ≤ N / D) ∨ (E3 = 0 ∧ E4 = 0 ∧ t ≤ N / D)) with h3 | ⟨h3, h4⟩ | ⟨h3, h4, h5⟩ | ⟨h3, h4, h5⟩
    · clear T7 T8 hTD
      go_wp2_with fail
      go_ret
      exact ⟨rfl, (((B8.setCell (p := ⟨w5.heap.size, 0, none⟩) (Nat.le_of_lt g02) (.int .i64 Q2.x)).setCell (p := ⟨w5.heap.size, 1, none⟩) (Nat.le_of_lt g02) (.int .i64 Q2.y)).setCell (p := ⟨w5.heap.size, 2, none⟩) (Nat.le_of_lt g02) (.int .i64 Q2.z))⟩
    · clear T7 T8 hTD
      subst h3
      go_wp2_with fail
      go_ret
      exact ⟨rfl, (((B8.setCell (p := ⟨w5.heap.size, 0, none⟩) (Nat.le_of_lt g02) (.int .i64 Q2.x)).setCell (p := ⟨w5.heap.size, 1, none⟩) (Nat.le_of_lt g02) (.int .i64 Q2.y)).setCell (p := ⟨w5.heap.size, 2, none⟩) (Nat.le_of_lt g02) (.int .i64 Q2.z))⟩
    · clear T7 T8 hTD
      subst h3 h4
      obtain ⟨q0, q1⟩ := HQ.out
      go_wp2_with fail
      go_ret
      exact ⟨rfl, (((B8.setCell (p := ⟨w5.heap.size, 0, none⟩) (Nat.le_of_lt g02) (.int .i64 Q2.x)).setCell (p := ⟨w5.heap.size, 1, none⟩) (Nat.le_of_lt g02) (.int .i64 Q2.y)).setCell (p := ⟨w5.heap.size, 2, none⟩) (Nat.le_of_lt g02) (.int .i64 Q2.z))⟩
    · have U7 := T7 h3 h4 h5
      have U8 := T8 h3 h4 h5
      obtain ⟨x1, x2⟩ := hTD h3 h4 h5
      clear T7 T8 hTD
      subst h3 h4
      obtain ⟨q0, q1⟩ := HQ.out
      go_wp2_with fail
      refine (U7.out _).mono ?_
      rintro e w9 ⟨rfl, hb9⟩
      have hc9 := (bcell hb9).1
      have hf9 := (bcell hb9).2
      have hs9 := hb9.size
      try simp at hs9
      have hz9_0 : w.heap.size < w9.heap.size := by omega
      have hz9_1 : w4.heap.size < w9.heap.size := by omega
      have hz9_2 : w5.heap.size < w9.heap.size := by omega
      have B9 : Below w.heap.size w w9 := ((((B8.setCell (p := ⟨w5.heap.size, 0, none⟩) (Nat.le_of_lt g02) (.int .i64 Q2.x)).setCell (p := ⟨w5.heap.size, 1, none⟩) (Nat.le_of_lt g02) (.int .i64 Q2.y)).setCell (p := ⟨w5.heap.size, 2, none⟩) (Nat.le_of_lt g02) (.int .i64 Q2.z))).trans (hb9.mono (by first | omega | (simp; omega) | simp))
      go_wp2_with fail
      refine (U8.out _).mono ?_
      rintro e w10 ⟨rfl, hb10⟩
      have hc10 := (bcell hb10).1
      have hf10 := (bcell hb10).2
      have hs10 := hb10.size
      try simp at hs10
      have hz10_0 : w.heap.size < w10.heap.size := by omega
      have hz10_1 : w4.heap.size < w10.heap.size := by omega
      have hz10_2 : w5.heap.size < w10.heap.size := by omega
      have B10 : Below w.heap.size w w10 := (B9).trans (hb10.mono (by first | omega | (simp; omega) | simp))
      go_wp2_with fail
      go_ret
      exact ⟨rfl, B10⟩
  · clear T4
    subst h1
    go_wp2_with fail
    obtain ⟨X, hX⟩ : ∃ X, X = w5.alloc (.cells #[.int .i64 Q1.x, .int .i64 Q1.y, .int .i64 Q1.z] 23) := ⟨_, rfl⟩
    have k_0 : X.cell? ⟨w.heap.size, 0, none⟩ = some (.int .i64 p.x) := by rw [hX]; go_simp
    have k_1 : X.cell? ⟨w.heap.size, 1, none⟩ = some (.int .i64 p.y) := by rw [hX]; go_simp
    have k_2 : X.cell? ⟨w.heap.size, 2, none⟩ = some (.int .i64 p.z) := by rw [hX]; go_simp
    have k_3 : X.cell? ⟨w.heap.size, 3, none⟩ = some (.int .i64 q.x) := by rw [hX]; go_simp
    have k_4 : X.cell? ⟨w.heap.size, 4, none⟩ = some (.int .i64 q.y) := by rw [hX]; go_simp
    have k_5 : X.cell? ⟨w.heap.size, 5, none⟩ = some (.int .i64 q.z) := by rw [hX]; go_simp
    have k_6 : X.cell? ⟨w.heap.size, 6, none⟩ = some (.int .i64 v.x) := by rw [hX]; go_simp
    have k_7 : X.cell? ⟨w.heap.size, 7, none⟩ = some (.int .i64 v.y) := by rw [hX]; go_simp
    have k_8 : X.cell? ⟨w.heap.size, 8, none⟩ = some (.int .i64 v.z) := by rw [hX]; go_simp
    have k_9 : X.cell? ⟨w.heap.size, 9, none⟩ = some (.int .i64 u.x) := by rw [hX]; go_simp
    have k_10 : X.cell? ⟨w.heap.size, 10, none⟩ = some (.int .i64 u.y) := by rw [hX]; go_simp
    have k_11 : X.cell? ⟨w.heap.size, 11, none⟩ = some (.int .i64 u.z) := by rw [hX]; go_simp
    have a_0 : X.cell? ⟨w4.heap.size, 0, none⟩ = some (.int .i64 P1.x) := by rw [hX]; go_simp
    have af_0 : X.frozen? ⟨w4.heap.size, 0, none⟩ = false := by rw [hX]; go_simp
    have a_1 : X.cell? ⟨w4.heap.size, 1, none⟩ = some (.int .i64 P1.y) := by rw [hX]; go_simp
    have af_1 : X.frozen? ⟨w4.heap.size, 1, none⟩ = false := by rw [hX]; go_simp
    have a_2 : X.cell? ⟨w4.heap.size, 2, none⟩ = some (.int .i64 P1.z) := by rw [hX]; go_simp
    have af_2 : X.frozen? ⟨w4.heap.size, 2, none⟩ = false := by rw [hX]; go_simp
    have c_0 : X.cell? ⟨w5.heap.size, 0, none⟩ = some (.int .i64 Q1.x) := by rw [hX]; go_simp
    have cf_0 : X.frozen? ⟨w5.heap.size, 0, none⟩ = false := by rw [hX]; go_simp
    have c_1 : X.cell? ⟨w5.heap.size, 1, none⟩ = some (.int .i64 Q1.y) := by rw [hX]; go_simp
    have cf_1 : X.frozen? ⟨w5.heap.size, 1, none⟩ = false := by rw [hX]; go_simp
    have c_2 : X.cell? ⟨w5.heap.size, 2, none⟩ = some (.int .i64 Q1.z) := by rw [hX]; go_simp
    have cf_2 : X.frozen? ⟨w5.heap.size, 2, none⟩ = false := by rw [hX]; go_simp
    have zX0 : w.heap.size < X.heap.size := by rw [hX]; first | omega | (simp <;> omega)
    have zX1 : w4.heap.size < X.heap.size := by rw [hX]; first | omega | (simp <;> omega)
    have zX2 : w5.heap.size < X.heap.size := by rw [hX]; first | omega | (simp <;> omega)
    have BX : Below w.heap.size w X := by rw [hX]; exact B5.alloc (by first | omega | (simp; omega) | simp) _
    rw [← hX]
    clear hX
    have g01 : w.heap.size < w4.heap.size := by omega
    have g02 : w.heap.size < w5.heap.size := by omega
    clear hc1 hf1 hc2 hf2 hc3 hf3 hc4 hf4 hc5 hf5
    refine (T5.out _).mono ?_
    rintro e w7 ⟨rfl, hb7⟩
    have hc7 := (bcell hb7).1
    have hf7 := (bcell hb7).2
    have hs7 := hb7.size
    try simp at hs7
    have hz7_0 : w.heap.size < w7.heap.size := by omega
    have hz7_1 : w4.heap.size < w7.heap.size := by omega
    have hz7_2 : w5.heap.size < w7.heap.size := by omega
    have B7 : Below w.heap.size w w7 := (BX).trans (hb7.mono (by first | omega | (simp; omega) | simp))
    go_wp2_with fail
    obtain ⟨Y, hY⟩ : ∃ Y, Y = (((w7.setCell ⟨w4.heap.size, 0, none⟩ (.int .i64 P2.x)).setCell ⟨w4.heap.size, 1, none⟩ (.int .i64 P2.y)).setCell ⟨w4.heap.size, 2, none⟩ (.int .i64 P2.z)) := ⟨_, rfl⟩
    have l_0 : Y.cell? ⟨w.heap.size, 0, none⟩ = some (.int .i64 p.x) := by rw [hY]; go_simp
    have l_1 : Y.cell? ⟨w.heap.size, 1, none⟩ = some (.int .i64 p.y) := by rw [hY]; go_simp
    have l_2 : Y.cell? ⟨w.heap.size, 2, none⟩ = some (.int .i64 p.z) := by rw [hY]; go_simp
    have l_3 : Y.cell? ⟨w.heap.size, 3, none⟩ = some (.int .i64 q.x) := by rw [hY]; go_simp
    have l_4 : Y.cell? ⟨w.heap.size, 4, none⟩ = some (.int .i64 q.y) := by rw [hY]; go_simp
    have l_5 : Y.cell? ⟨w.heap.size, 5, none⟩ = some (.int .i64 q.z) := by rw [hY]; go_simp
    have l_6 : Y.cell? ⟨w.heap.size, 6, none⟩ = some (.int .i64 v.x) := by rw [hY]; go_simp
    have l_7 : Y.cell? ⟨w.heap.size, 7, none⟩ = some (.int .i64 v.y) := by rw [hY]; go_simp
    have l_8 : Y.cell? ⟨w.heap.size, 8, none⟩ = some (.int .i64 v.z) := by rw [hY]; go_simp
    have l_9 : Y.cell? ⟨w.heap.size, 9, none⟩ = some (.int .i64 u.x) := by rw [hY]; go_simp
    have l_10 : Y.cell? ⟨w.heap.size, 10, none⟩ = some (.int .i64 u.y) := by rw [hY]; go_simp
    have l_11 : Y.cell? ⟨w.heap.size, 11, none⟩ = some (.int .i64 u.z) := by rw [hY]; go_simp
    have m_0 : Y.cell? ⟨w4.heap.size, 0, none⟩ = some (.int .i64 P2.x) := by rw [hY]; go_simp
    have mf_0 : Y.frozen? ⟨w4.heap.size, 0, none⟩ = false := by rw [hY]; go_simp
    have m_1 : Y.cell? ⟨w4.heap.size, 1, none⟩ = some (.int .i64 P2.y) := by rw [hY]; go_simp
    have mf_1 : Y.frozen? ⟨w4.heap.size, 1, none⟩ = false := by rw [hY]; go_simp
    have m_2 : Y.cell? ⟨w4.heap.size, 2, none⟩ = some (.int .i64 P2.z) := by rw [hY]; go_simp
    have mf_2 : Y.frozen? ⟨w4.heap.size, 2, none⟩ = false := by rw [hY]; go_simp
    have n_0 : Y.cell? ⟨w5.heap.size, 0, none⟩ = some (.int .i64 Q1.x) := by rw [hY]; go_simp
    have nf_0 : Y.frozen? ⟨w5.heap.size, 0, none⟩ = false := by rw [hY]; go_simp
    have n_1 : Y.cell? ⟨w5.heap.size, 1, none⟩ = some (.int .i64 Q1.y) := by rw [hY]; go_simp
    have nf_1 : Y.frozen? ⟨w5.heap.size, 1, none⟩ = false := by rw [hY]; go_simp
    have n_2 : Y.cell? ⟨w5.heap.size, 2, none⟩ = some (.int .i64 Q1.z) := by rw [hY]; go_simp
    have nf_2 : Y.frozen? ⟨w5.heap.size, 2, none⟩ = false := by rw [hY]; go_simp
    have zY0 : w.heap.size < Y.heap.size := by rw [hY]; first | omega | (simp [World.setCell]; omega)
    have zY1 : w4.heap.size < Y.heap.size := by rw [hY]; first | omega | (simp [World.setCell]; omega)
    have zY2 : w5.heap.size < Y.heap.size := by rw [hY]; first | omega | (simp [World.setCell]; omega)
    have BY : Below w.heap.size w Y := by rw [hY]; exact (((B7.setCell (p := ⟨w4.heap.size, 0, none⟩) (Nat.le_of_lt g01) (.int .i64 P2.x)).setCell (p := ⟨w4.heap.size, 1, none⟩) (Nat.le_of_lt g01) (.int .i64 P2.y)).setCell (p := ⟨w4.heap.size, 2, none⟩) (Nat.le_of_lt g01) (.int .i64 P2.z))
    rw [← hY]
    clear hY
    clear hc7 hf7 k_0 k_1 k_2 k_3 k_4 k_5 k_6 k_7 k_8 k_9 k_10 k_11 a_0 af_0 c_0 cf_0 a_1 af_1 c_1 cf_1 a_2 af_2 c_2 cf_2
    refine (T6.out _).mono ?_
    rintro e w8 ⟨rfl, hb8⟩
    have hc8 := (bcell hb8).1
    have hf8 := (bcell hb8).2
    have hs8 := hb8.size
    try simp at hs8
    have hz8_0 : w.heap.size < w8.heap.size := by omega
    have hz8_1 : w4.heap.size < w8.heap.size := by omega
    have hz8_2 : w5.heap.size < w8.heap.size := by omega
    have B8 : Below w.heap.size w w8 := (BY).trans (hb8.mono (by first | omega | (simp; omega) | simp))
    rcases (by omega : ¬ E3 = 0 ∨ (E3 = 0 ∧ ¬ E4 = 0) ∨ (E3 = 0 ∧ E4 = 0 ∧ ¬ t ≤ N / D) ∨ (E3 = 0 ∧ E4 = 0 ∧ t ≤ N / D)) with h3 | ⟨h3, h4⟩ | ⟨h3, h4, h5⟩ | ⟨h3, h4, h5⟩
    · clear T7 T8 hTD
      go_wp2_with fail
      go_ret
      exact ⟨rfl, (((B8.setCell (p := ⟨w5.heap.size, 0, none⟩) (Nat.le_of_lt g02) (.int .i64 Q2.x)).setCell (p := ⟨w5.heap.size, 1, none⟩) (Nat.le_of_lt g02) (.int .i64 Q2.y)).setCell (p := ⟨w5.heap.size, 2, none⟩) (Nat.le_of_lt g02) (.int .i64 Q2.z))⟩
    · clear T7 T8 hTD
      subst h3
      go_wp2_with fail
      go_ret
      exact ⟨rfl, (((B8.setCell (p := ⟨w5.heap.size, 0, none⟩) (Nat.le_of_lt g02) (.int .i64 Q2.x)).setCell (p := ⟨w5.heap.size, 1, none⟩) (Nat.le_of_lt g02) (.int .i64 Q2.y)).setCell (p := ⟨w5.heap.size, 2, none⟩) (Nat.le_of_lt g02) (.int .i64 Q2.z))⟩
    · clear T7 T8 hTD
      subst h3 h4
      obtain ⟨q0, q1⟩ := HQ.out
      go_wp2_with fail
      go_ret
      exact ⟨rfl, (((B8.setCell (p := ⟨w5.heap.size, 0, none⟩) (Nat.le_of_lt g02) (.int .i64 Q2.x)).setCell (p := ⟨w5.heap.size, 1, none⟩) (Nat.le_of_lt g02) (.int .i64 Q2.y)).setCell (p := ⟨w5.heap.size, 2, none⟩) (Nat.le_of_lt g02) (.int .i64 Q2.z))⟩
    · have U7 := T7 h3 h4 h5
      have U8 := T8 h3 h4 h5
      obtain ⟨x1, x2⟩ := hTD h3 h4 h5
      clear T7 T8 hTD
      subst h3 h4
      obtain ⟨q0, q1⟩ := HQ.out
      go_wp2_with fail
      refine (U7.out _).mono ?_
      rintro e w9 ⟨rfl, hb9⟩
      have hc9 := (bcell hb9).1
      have hf9 := (bcell hb9).2
      have hs9 := hb9.size
      try simp at hs9
      have hz9_0 : w.heap.size < w9.heap.size := by omega
      have hz9_1 : w4.heap.size < w9.heap.size := by omega
      have hz9_2 : w5.heap.size < w9.heap.size := by omega
      have B9 : Below w.heap.size w w9 := ((((B8.setCell (p := ⟨w5.heap.size, 0, none⟩) (Nat.le_of_lt g02) (.int .i64 Q2.x)).setCell (p := ⟨w5.heap.size, 1, none⟩) (Nat.le_of_lt g02) (.int .i64 Q2.y)).setCell (p := ⟨w5.heap.size, 2, none⟩) (Nat.le_of_lt g02) (.int .i64 Q2.z))).trans (hb9.mono (by first | omega | (simp; omega) | simp))
      go_wp2_with fail
      refine (U8.out _).mono ?_
      rintro e w10 ⟨rfl, hb10⟩
      have hc10 := (bcell hb10).1
      have hf10 := (bcell hb10).2
      have hs10 := hb10.size
      try simp at hs10
      have hz10_0 : w.heap.size < w10.heap.size := by omega
      have hz10_1 : w4.heap.size < w10.heap.size := by omega
      have hz10_2 : w5.heap.size < w10.heap.size := by omega
      have B10 : Below w.heap.size w w10 := (B9).trans (hb10.mono (by first | omega | (simp; omega) | simp))
      go_wp2_with fail
      go_ret
      exact ⟨rfl, B10⟩


theorem moves8 (p q v u b : V3) (t : Int) (w : World) : Calls Try.prog 8 #[.agg #[.int .i64 p.x, .int .i64 p.y, .int .i64 p.z, .int .i64 q.x, .int .i64 q.y, .int .i64 q.z, .int .i64 v.x, .int .i64 v.y, .int .i64 v.z, .int .i64 u.x, .int .i64 u.y, .int .i64 u.z], .int .i64 t, .agg #[.int .i64 b.x, .int .i64 b.y, .int .i64 b.z]] w fun e w' => e = .returned (.bool true) ∧ Below w.heap.size w w' := by
  have T0 := fun w => closest12 p q v u w
  have T1 := fun w => miss14 p q v u w
  by_cases h : okG p q v u
  · have hE : erG p q v u = 0 := by unfold erG; rw [if_pos h]
    rw [hE] at T0 T1
    obtain ⟨n0, m0⟩ := co_pos p q v u h
    obtain ⟨n1, m1⟩ := co_top p q v u h
    have ok : ∀ (x y : V3) (s : Int), mvE x y s = 0 → okMv x y s ∧ mvR x y s = mvP x y s := fun x y s k => by
      unfold mvE at k
      split at k
      · rename_i k1
        split at k
        · rename_i k2
          have : okMv x y s := ⟨k1.1, k1.2.1, k1.2.2, k2⟩
          exact ⟨this, by unfold mvR; rw [if_pos this]⟩
        · cases k
      · cases k
    refine movesG p q v u b _ _ _ _ t _ _ _ _ _ _ _ w ⟨m0, m1⟩ ⟨n0, n1⟩ (Lib.hid T0) (Lib.hid T1) (Lib.hid (fun w => move29 p b 1 w)) (Lib.hid (fun w => move29 q b 1 w)) (fun k1 k2 => Lib.hid (fun w => ?_)) (Lib.hid (fun w => move29 p v t w)) (Lib.hid (fun w => move29 q u t w)) (fun k1 k2 k3 => Lib.hid (fun w => ?_)) (fun k1 k2 k3 => Lib.hid (fun w => ?_)) (fun k1 k2 k3 => ?_)
    · obtain ⟨a1, a2⟩ := ok _ _ _ k1
      obtain ⟨b1, b2⟩ := ok _ _ _ k2
      rw [a2, b2]
      exact same21 p q v u _ _ v u w (shift_same p q v u b h a1 b1)
    all_goals
      obtain ⟨a1, a2⟩ := ok _ _ _ k1
      obtain ⟨b1, b2⟩ := ok _ _ _ k2
      obtain ⟨r1, r2, r3, r4, r5, r6⟩ := moved_on p q v u t h a1 b1 k3
    · have H := closest12 (mvP p v t) (mvP q u t) v u w
      have hE' : erG (mvP p v t) (mvP q u t) v u = 0 := by unfold erG; rw [if_pos r1]
      rw [r2, r3, hE'] at H
      rw [a2, b2]
      exact H
    · have H := miss14 (mvP p v t) (mvP q u t) v u w
      have hE' : erG (mvP p v t) (mvP q u t) v u = 0 := by unfold erG; rw [if_pos r1]
      rw [r4, hE'] at H
      rw [a2, b2]
      exact H
    · exact ⟨r5, r6⟩
  · have e1 : coN p q v u = 0 := by unfold coN; rw [if_neg h]
    have e2 : coD p q v u = 0 := by unfold coD; rw [if_neg h]
    have e3 : missG p q v u = 0 := by unfold missG; rw [if_neg h]
    have e4 : erG p q v u = 1 := by unfold erG; rw [if_neg h]
    rw [e1, e2, e4] at T0
    rw [e3, e4] at T1
    exact movesE p q v u b t w (Lib.hid T0) (Lib.hid T1)

namespace geometryMovesRow
open Go.ChangeShapes Go.WideShapes Go.ChangeAt Go.RowKit
open Go.ChangeMaps (open_string shut_string)
set_option linter.unusedVariables false
theorem own : ownKnob Try.prog.godebug = none := by kernel_rfl
theorem laidOut : laidOutB Try.prog = true := by kernel_rfl
set_option maxRecDepth 100000 in
theorem lifted (os : Os) (started : os.Started) (H : Type) (enc : TypeId × Value → H) :
    ReturnsInHanded {} Try.checked os 8 .any (Rows.geometryMovesSpec.pre6 enc Try.prog Try.f8 Rows.geometryMovesRow.domain false) (Rows.geometryMovesSpec.post enc Try.prog Try.f8 false true false false) := by
  refine returnsInHanded_of_change (C := Try.checked) own started (by kernel_rfl) Try.func8
    (ChangeSpec.witness6 (enc := enc) (C := Try.checked) false ⟨#[], #[.agg #[.int .i64 0, .int .i64 0, .int .i64 0, .int .i64 0, .int .i64 0, .int .i64 0, .int .i64 0, .int .i64 0, .int .i64 0, .int .i64 0, .int .i64 0, .int .i64 0], .int .i64 0, .agg #[.int .i64 0, .int .i64 0, .int .i64 0]], []⟩ 8 (by kernel_rfl) (by kernel_rfl) (by kernel_rfl) (by kernel_rfl)) ?_
  intro W base args ds gs before hval0 hW hcnd _hsz
  have hval : ∀ (j : Nat) t v, Try.f8.params[j]? = some t → args[j]? = some v → Value.okWide Try.prog W .any base t v := hval0
  have hW' := hW
  obtain ⟨p, q, hA0, hV, rfl, hfz, hnd⟩ := hW
  have hA : DataW.TrodAll enc Try.prog W 0 (fun _ => true) true Try.f8.params.toList args.toList ds p := hA0
  rw [Try.params8] at hA hval
  obtain ⟨v0, vs0, d0, ds0, p0, q0, hargs, rfl, rfl, h0, r0⟩ := trodAll_cons hA
  obtain ⟨v1, vs1, d1, ds1, p1, q1, rfl, rfl, rfl, h1, r1⟩ := trodAll_cons r0
  obtain ⟨v2, vs2, d2, ds2, p2, q2, rfl, rfl, rfl, h2, r2⟩ := trodAll_cons r1
  obtain ⟨rfl, rfl, rfl⟩ := trodAll_nil r2
  obtain rfl : args = #[v0, v1, v2] := by cases args; simp_all
  obtain ⟨rfl, rfl⟩ := trodVars_none hV
  have k0 := h0
  have lt0 : ∀ x ∈ p0, x.block < W.heap.size := by obtain ⟨m, hm⟩ := k0; exact DataW.trod_lt m _ _ _ hm
  have k1 := h1
  have lt1 : ∀ x ∈ p1, x.block < W.heap.size := by obtain ⟨m, hm⟩ := k1; exact DataW.trod_lt m _ _ _ hm
  have k2 := h2
  have lt2 : ∀ x ∈ p2, x.block < W.heap.size := by obtain ⟨m, hm⟩ := k2; exact DataW.trod_lt m _ _ _ hm
  obtain ⟨cs0, rfl, i0⟩ := open_leaves 9 [.i64, .i64, .i64, .i64, .i64, .i64, .i64, .i64, .i64, .i64, .i64, .i64] (by kernel_rfl) (by kernel_rfl) (hval 0 26 v0 rfl rfl) h0
  obtain ⟨a0_0, c0_0, rfl, w0_0, i0_0⟩ := i0
  obtain ⟨a0_1, c0_1, rfl, w0_1, i0_1⟩ := i0_0
  obtain ⟨a0_2, c0_2, rfl, w0_2, i0_2⟩ := i0_1
  obtain ⟨a0_3, c0_3, rfl, w0_3, i0_3⟩ := i0_2
  obtain ⟨a0_4, c0_4, rfl, w0_4, i0_4⟩ := i0_3
  obtain ⟨a0_5, c0_5, rfl, w0_5, i0_5⟩ := i0_4
  obtain ⟨a0_6, c0_6, rfl, w0_6, i0_6⟩ := i0_5
  obtain ⟨a0_7, c0_7, rfl, w0_7, i0_7⟩ := i0_6
  obtain ⟨a0_8, c0_8, rfl, w0_8, i0_8⟩ := i0_7
  obtain ⟨a0_9, c0_9, rfl, w0_9, i0_9⟩ := i0_8
  obtain ⟨a0_10, c0_10, rfl, w0_10, i0_10⟩ := i0_9
  obtain ⟨a0_11, c0_11, rfl, w0_11, i0_11⟩ := i0_10
  obtain rfl : c0_11 = [] := i0_11
  obtain ⟨a1, rfl, -, -, w1⟩ := open_int Try.underlying3 (hval 1 3 v1 rfl rfl) h1
  obtain ⟨cs2, rfl, i2⟩ := open_leaves 9 [.i64, .i64, .i64] (by kernel_rfl) (by kernel_rfl) (hval 2 24 v2 rfl rfl) h2
  obtain ⟨a2_0, c2_0, rfl, w2_0, i2_0⟩ := i2
  obtain ⟨a2_1, c2_1, rfl, w2_1, i2_1⟩ := i2_0
  obtain ⟨a2_2, c2_2, rfl, w2_2, i2_2⟩ := i2_1
  obtain rfl : c2_2 = [] := i2_2
  clear hA0 hval0
  refine (moves8 ⟨a0_0, a0_1, a0_2⟩ ⟨a0_3, a0_4, a0_5⟩ ⟨a0_6, a0_7, a0_8⟩ ⟨a0_9, a0_10, a0_11⟩ ⟨a2_0, a2_1, a2_2⟩ a1 W).mono fun e W' ⟨he, bel⟩ => ?_
  subst he
  exact ⟨_, rfl, _, _, _, [], _, [], hW', trodAll_mk1 (shut_bool Try.underlying4 _), (trodAll_cons_mk (Below.trod laidOut (by kernel_rfl) (of_decide_eq_true (by kernel_rfl)) k0 bel lt0) (trodAll_cons_mk (Below.trod laidOut (by kernel_rfl) (of_decide_eq_true (by kernel_rfl)) k1 bel lt1) (trodAll_cons_mk (Below.trod laidOut (by kernel_rfl) (of_decide_eq_true (by kernel_rfl)) k2 bel lt2) trodAll_mk0))), rfl, bel.frame _, fun h => by cases h⟩

theorem over : Rows.geometryMovesRow.holds Try.pinned (OpenSpec.ofChange Rows.geometryMovesSpec) :=
  OpenClaim.holds_of_wide 8 Try.f8 rfl rfl rfl rfl rfl rfl rfl ⟨rfl, rfl, rfl, rfl, rfl⟩ rfl rfl rfl rfl rfl (by kernel_rfl) Try.func8 (by kernel_rfl)
    (of_decide_eq_true (by kernel_rfl)) (by unfold Func.isWrapper; first | (rw [if_pos (by decide +kernel)]; kernel_rfl) | (rw [if_neg (by decide +kernel)]; exact ⟨rfl, rfl⟩))
    (fun os started H enc _ => lifted os started H enc)
theorem proved : Rows.GeometryMovesSaid := over
end geometryMovesRow
end Go.Proofs.Ytdflamblbhpngaa
