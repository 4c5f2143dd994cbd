/- The walk through TauMonotone where the horizontal test is not passed, and the vertical one passed. -/
import Derived.Test.YtbonniladhablaaTaM
import Derived.Lib.MinMax
import Derived.Test.YtbonniladhablaaKO
import Derived.WalkKit
import Derived.ProofKit
import Derived.OpenShut
import Derived.ShutString
import Derived.ChangeOld
import Derived.Below
import Derived.Lib.SmallJoins
namespace Go.Proofs.Ytbonniladhablaa
open Go.RowKit
attribute [local go_sem ↓] Go.wp_at_zero Go.wp_at_succ
attribute [local go_sem] wrap_lit
set_option maxRecDepth 100000 in
set_option maxHeartbeats 4000000 in
theorem mono4_2 (R V N a r T Ne H Vv b0 b1 b2 b3 : Int) (B C : Bool) (nr : Int) (w : World)
    (c1 : ∀ w, Calls Try.prog 11 #[.agg #[.int .i64 R, .int .i64 V, .int .i64 N], .agg #[.int .i64 T, .int .i64 Ne, .int .i64 H, .int .i64 Vv]] w fun e' w' => e' = .returned (.tuple #[.bool false, .int .i64 0]) ∧ Below w.heap.size w w')
    (c3 : ∀ w, Calls Try.prog 11 #[.agg #[.int .i64 (max 0 (R - b0)), .int .i64 (max (-16384) (V - b1)), .int .i64 N], .agg #[.int .i64 T, .int .i64 Ne, .int .i64 H, .int .i64 Vv]] w fun e' w' => e' = .returned (.tuple #[.bool B, .int .i64 0]) ∧ Below w.heap.size w w')
    (c4 : ∀ w, Calls Try.prog 11 #[.agg #[.int .i64 R, .int .i64 V, .int .i64 N], .agg #[.int .i64 (min 120 (T + b2 % 9)), .int .i64 (min 1024 (Ne + b3 % 9)), .int .i64 H, .int .i64 Vv]] w fun e' w' => e' = .returned (.tuple #[.bool C, .int .i64 0]) ∧ Below w.heap.size w w')
    (c5 : ∀ w, Calls Try.prog 13 #[.int .i64 a, .int .i64 r, .agg #[.int .i64 T, .int .i64 Ne, .int .i64 H, .int .i64 Vv]] w fun e' w' => e' = .returned (.tuple #[.bool true, .int .i64 0]) ∧ Below w.heap.size w w')
    (c6 : ∀ w, Calls Try.prog 13 #[.int .i64 nr, .int .i64 r, .agg #[.int .i64 T, .int .i64 Ne, .int .i64 H, .int .i64 Vv]] w fun e' w' => e' = .returned (.tuple #[.bool true, .int .i64 0]) ∧ Below w.heap.size w w')
    (c7 : ∀ w, Calls Try.prog 13 #[.int .i64 a, .int .i64 r, .agg #[.int .i64 (min 120 (T + b2 % 9)), .int .i64 (min 1024 (Ne + b3 % 9)), .int .i64 (min 10000 (H + b1)), .int .i64 (min 120 (Vv + b3 % 9))]] w fun e' w' => e' = .returned (.tuple #[.bool true, .int .i64 0]) ∧ Below w.heap.size w w')
    (hnr : nr = nearA a b0)
    (hx : okX R V N) (hA : okA a r) (hl : okL T Ne H Vv) (hb0 : 0 ≤ b0 ∧ b0 ≤ 65535) (hb1 : 0 ≤ b1 ∧ b1 ≤ 65535) (hb2 : 0 ≤ b2 ∧ b2 ≤ 65535) (hb3 : 0 ≤ b3 ∧ b3 ≤ 65535) : Calls Try.prog 4 #[.agg #[.int .i64 R, .int .i64 V, .int .i64 N, .int .i64 a, .int .i64 r], .agg #[.int .i64 T, .int .i64 Ne, .int .i64 H, .int .i64 Vv], .agg #[.int .u16 b0, .int .u16 b1, .int .u16 b2, .int .u16 b3]] w fun e w' => e = .returned (.bool true) ∧ Below w.heap.size w w' := by
  have t1 := Lib.hid c1
  have t3 := Lib.hid c3
  have t4 := Lib.hid c4
  have t5 := Lib.hid c5
  have t6 := Lib.hid c6
  have t7 := Lib.hid c7
  have tN := Lib.hid hnr
  clear c1 c3 c4 c5 c6 c7 hnr
  obtain ⟨x1, x2, x3, x4, x5, x6⟩ := hx
  obtain ⟨l1, l2, l3, l4, l5, l6, l7, l8⟩ := hl
  obtain ⟨g1, g2, g3, g4⟩ := hA
  obtain ⟨y1, y2⟩ := hb0
  obtain ⟨y3, y4⟩ := hb1
  obtain ⟨y5, y6⟩ := hb2
  obtain ⟨y7, y8⟩ := hb3
  go_enter Try.func4, Try.ntmps4
  go_wp2_with fail
  refine (t1.out _).mono ?_
  rintro e w1 ⟨rfl, hb1⟩
  have hc1 := (bcell hb1).1
  have hf1 := (bcell hb1).2
  have hs1 := hb1.size
  try simp at hs1
  have hz1_0 : w.heap.size < w1.heap.size := by omega
  have hz1_1 : w.heap.size + 1 < w1.heap.size := by omega
  have hz1_2 : w.heap.size + 2 < w1.heap.size := by omega
  have B1 : Below w.heap.size w w1 := ((((Below.refl _ _).alloc (Nat.le_refl _) _).alloc (by first | omega | (simp; omega) | simp) _).alloc (by first | omega | (simp; omega) | simp) _).trans (hb1.mono (by first | omega | (simp; omega) | simp))
  go_wp2_with fail
  refine (awake15 _).mono ?_
  rintro e w2 ⟨rfl, hb2⟩
  have hc2 := (bcell hb2).1
  have hf2 := (bcell hb2).2
  have hs2 := hb2.size
  try simp at hs2
  have hz2_0 : w.heap.size < w2.heap.size := by omega
  have hz2_1 : w.heap.size + 1 < w2.heap.size := by omega
  have hz2_2 : w.heap.size + 2 < w2.heap.size := by omega
  have B2 : Below w.heap.size w w2 := (B1).trans (hb2.mono (by first | omega | (simp; omega) | simp))
  go_wp2_with fail
  refine (t3.out _).mono ?_
  rintro e w3 ⟨rfl, hb3⟩
  have hc3 := (bcell hb3).1
  have hf3 := (bcell hb3).2
  have hs3 := hb3.size
  try simp at hs3
  have hz3_0 : w.heap.size < w3.heap.size := by omega
  have hz3_1 : w.heap.size + 1 < w3.heap.size := by omega
  have hz3_2 : w.heap.size + 2 < w3.heap.size := by omega
  have hz3_3 : w2.heap.size < w3.heap.size := by omega
  have B3 : Below w.heap.size w w3 := (B2.alloc (by first | omega | (simp; omega) | simp) _).trans (hb3.mono (by first | omega | (simp; omega) | simp))
  go_wp2_with fail
  obtain ⟨W, hW⟩ : ∃ W, W = w3.alloc (Obj.cells #[Value.int IntKind.i64 T, Value.int IntKind.i64 Ne, Value.int IntKind.i64 H, Value.int IntKind.i64 Vv] 27) := ⟨_, rfl⟩
  have hBW : Below w3.heap.size w3 W := by rw [hW]; exact (Below.refl _ _).alloc (Nat.le_refl _) _
  have k_0_0 : W.cell? ⟨w.heap.size, 0, none⟩ = some (.int .i64 R) := by rw [hW]; go_simp
  have k_0_1 : W.cell? ⟨w.heap.size, 1, none⟩ = some (.int .i64 V) := by rw [hW]; go_simp
  have k_0_2 : W.cell? ⟨w.heap.size, 2, none⟩ = some (.int .i64 N) := by rw [hW]; go_simp
  have k_0_3 : W.cell? ⟨w.heap.size, 3, none⟩ = some (.int .i64 a) := by rw [hW]; go_simp
  have k_0_4 : W.cell? ⟨w.heap.size, 4, none⟩ = some (.int .i64 r) := by rw [hW]; go_simp
  have k_1_0 : W.cell? ⟨w.heap.size + 1, 0, none⟩ = some (.int .i64 T) := by rw [hW]; go_simp
  have k_1_1 : W.cell? ⟨w.heap.size + 1, 1, none⟩ = some (.int .i64 Ne) := by rw [hW]; go_simp
  have k_1_2 : W.cell? ⟨w.heap.size + 1, 2, none⟩ = some (.int .i64 H) := by rw [hW]; go_simp
  have k_1_3 : W.cell? ⟨w.heap.size + 1, 3, none⟩ = some (.int .i64 Vv) := by rw [hW]; go_simp
  have k_2_0 : W.cell? ⟨w.heap.size + 1 + 1, 0, none⟩ = some (.int .u16 b0) := by rw [hW]; go_simp
  have k_2_1 : W.cell? ⟨w.heap.size + 1 + 1, 1, none⟩ = some (.int .u16 b1) := by rw [hW]; go_simp
  have k_2_2 : W.cell? ⟨w.heap.size + 1 + 1, 2, none⟩ = some (.int .u16 b2) := by rw [hW]; go_simp
  have k_2_3 : W.cell? ⟨w.heap.size + 1 + 1, 3, none⟩ = some (.int .u16 b3) := by rw [hW]; go_simp
  have k_3_0 : W.cell? ⟨w3.heap.size, 0, none⟩ = some (.int .i64 T) := by rw [hW]; go_simp
  have k_3_1 : W.cell? ⟨w3.heap.size, 1, none⟩ = some (.int .i64 Ne) := by rw [hW]; go_simp
  have k_3_2 : W.cell? ⟨w3.heap.size, 2, none⟩ = some (.int .i64 H) := by rw [hW]; go_simp
  have k_3_3 : W.cell? ⟨w3.heap.size, 3, none⟩ = some (.int .i64 Vv) := by rw [hW]; go_simp
  have kf : ∀ i, W.frozen? ⟨w3.heap.size, i, none⟩ = false := fun i => by rw [hW]; go_simp
  rw [← hW]
  have HW := Lib.hid hW; clear hW
  have kf0 := kf 0
  have kf1 := kf 1
  have kf2 := kf 2
  have kf3 := kf 3
  clear hc1 hc2 hc3 hf1 hf2 hf3 kf
  have BW : Below w.heap.size w W := B3.trans (hBW.mono (by omega))
  have hsW : w3.heap.size + 1 ≤ W.heap.size := by rw [HW.out]; simp
  go_region
  go_wp2_with fail
  refine (t4.out _).mono ?_
  rintro e w4 ⟨rfl, hb4⟩
  have hc4 := (bcell hb4).1
  have hf4 := (bcell hb4).2
  have hs4 := hb4.size
  try simp at hs4
  have hz4_0 : w.heap.size < w4.heap.size := by omega
  have hz4_1 : w.heap.size + 1 < w4.heap.size := by omega
  have hz4_2 : w.heap.size + 2 < w4.heap.size := by omega
  have hz4_3 : w2.heap.size < w4.heap.size := by omega
  have hz4_4 : w3.heap.size < w4.heap.size := by omega
  have B4 : Below w.heap.size w w4 := (((BW.setCell (by first | omega | (simp; omega) | simp) _).setCell (by first | omega | (simp; omega) | simp) _).drew).trans (hb4.mono (by first | omega | (simp; omega) | simp))
  have m4_0_0 : w4.cell? ⟨w.heap.size, 0, none⟩ = some (.int .i64 R) := (hc4 _ _ (by first | omega | (simp; omega))).trans (by go_simp)
  have m4_0_1 : w4.cell? ⟨w.heap.size, 1, none⟩ = some (.int .i64 V) := (hc4 _ _ (by first | omega | (simp; omega))).trans (by go_simp)
  have m4_0_2 : w4.cell? ⟨w.heap.size, 2, none⟩ = some (.int .i64 N) := (hc4 _ _ (by first | omega | (simp; omega))).trans (by go_simp)
  have m4_0_3 : w4.cell? ⟨w.heap.size, 3, none⟩ = some (.int .i64 a) := (hc4 _ _ (by first | omega | (simp; omega))).trans (by go_simp)
  have m4_0_4 : w4.cell? ⟨w.heap.size, 4, none⟩ = some (.int .i64 r) := (hc4 _ _ (by first | omega | (simp; omega))).trans (by go_simp)
  have m4_1_0 : w4.cell? ⟨w.heap.size + 1, 0, none⟩ = some (.int .i64 T) := (hc4 _ _ (by first | omega | (simp; omega))).trans (by go_simp)
  have m4_1_1 : w4.cell? ⟨w.heap.size + 1, 1, none⟩ = some (.int .i64 Ne) := (hc4 _ _ (by first | omega | (simp; omega))).trans (by go_simp)
  have m4_1_2 : w4.cell? ⟨w.heap.size + 1, 2, none⟩ = some (.int .i64 H) := (hc4 _ _ (by first | omega | (simp; omega))).trans (by go_simp)
  have m4_1_3 : w4.cell? ⟨w.heap.size + 1, 3, none⟩ = some (.int .i64 Vv) := (hc4 _ _ (by first | omega | (simp; omega))).trans (by go_simp)
  have m4_2_0 : w4.cell? ⟨w.heap.size + 1 + 1, 0, none⟩ = some (.int .u16 b0) := (hc4 _ _ (by first | omega | (simp; omega))).trans (by go_simp)
  have m4_2_1 : w4.cell? ⟨w.heap.size + 1 + 1, 1, none⟩ = some (.int .u16 b1) := (hc4 _ _ (by first | omega | (simp; omega))).trans (by go_simp)
  have m4_2_2 : w4.cell? ⟨w.heap.size + 1 + 1, 2, none⟩ = some (.int .u16 b2) := (hc4 _ _ (by first | omega | (simp; omega))).trans (by go_simp)
  have m4_2_3 : w4.cell? ⟨w.heap.size + 1 + 1, 3, none⟩ = some (.int .u16 b3) := (hc4 _ _ (by first | omega | (simp; omega))).trans (by go_simp)
  have m4_3_0 : w4.cell? ⟨w3.heap.size, 0, none⟩ = some (.int .i64 (min 120 (T + b2 % 9))) := (hc4 _ _ (by first | omega | (simp; omega))).trans (by go_simp)
  have m4_3_1 : w4.cell? ⟨w3.heap.size, 1, none⟩ = some (.int .i64 (min 1024 (Ne + b3 % 9))) := (hc4 _ _ (by first | omega | (simp; omega))).trans (by go_simp)
  have m4_3_2 : w4.cell? ⟨w3.heap.size, 2, none⟩ = some (.int .i64 H) := (hc4 _ _ (by first | omega | (simp; omega))).trans (by go_simp)
  have m4_3_3 : w4.cell? ⟨w3.heap.size, 3, none⟩ = some (.int .i64 Vv) := (hc4 _ _ (by first | omega | (simp; omega))).trans (by go_simp)
  have mf4_0 : w4.frozen? ⟨w3.heap.size, 0, none⟩ = false := (hf4 _ _ (by first | omega | (simp; omega))).trans (by go_simp)
  have mf4_1 : w4.frozen? ⟨w3.heap.size, 1, none⟩ = false := (hf4 _ _ (by first | omega | (simp; omega))).trans (by go_simp)
  have mf4_2 : w4.frozen? ⟨w3.heap.size, 2, none⟩ = false := (hf4 _ _ (by first | omega | (simp; omega))).trans (by go_simp)
  have mf4_3 : w4.frozen? ⟨w3.heap.size, 3, none⟩ = false := (hf4 _ _ (by first | omega | (simp; omega))).trans (by go_simp)
  clear hc4 hf4 k_0_0 k_0_1 k_0_2 k_0_3 k_0_4 k_1_0 k_1_1 k_1_2 k_1_3 k_2_0 k_2_1 k_2_2 k_2_3 k_3_0 k_3_1 k_3_2 k_3_3 kf0 kf1 kf2 kf3
  go_wp2_with fail
  refine (t5.out _).mono ?_
  rintro e w5 ⟨rfl, hb5⟩
  have hc5 := (bcell hb5).1
  have hf5 := (bcell hb5).2
  have hs5 := hb5.size
  try simp at hs5
  have hz5_0 : w.heap.size < w5.heap.size := by omega
  have hz5_1 : w.heap.size + 1 < w5.heap.size := by omega
  have hz5_2 : w.heap.size + 2 < w5.heap.size := by omega
  have hz5_3 : w2.heap.size < w5.heap.size := by omega
  have hz5_4 : w3.heap.size < w5.heap.size := by omega
  have B5 : Below w.heap.size w w5 := (B4).trans (hb5.mono (by first | omega | (simp; omega) | simp))
  have m5_0_0 : w5.cell? ⟨w.heap.size, 0, none⟩ = some (.int .i64 R) := (hc5 _ _ (by first | omega | (simp; omega))).trans (by go_simp)
  have m5_0_1 : w5.cell? ⟨w.heap.size, 1, none⟩ = some (.int .i64 V) := (hc5 _ _ (by first | omega | (simp; omega))).trans (by go_simp)
  have m5_0_2 : w5.cell? ⟨w.heap.size, 2, none⟩ = some (.int .i64 N) := (hc5 _ _ (by first | omega | (simp; omega))).trans (by go_simp)
  have m5_0_3 : w5.cell? ⟨w.heap.size, 3, none⟩ = some (.int .i64 a) := (hc5 _ _ (by first | omega | (simp; omega))).trans (by go_simp)
  have m5_0_4 : w5.cell? ⟨w.heap.size, 4, none⟩ = some (.int .i64 r) := (hc5 _ _ (by first | omega | (simp; omega))).trans (by go_simp)
  have m5_1_0 : w5.cell? ⟨w.heap.size + 1, 0, none⟩ = some (.int .i64 T) := (hc5 _ _ (by first | omega | (simp; omega))).trans (by go_simp)
  have m5_1_1 : w5.cell? ⟨w.heap.size + 1, 1, none⟩ = some (.int .i64 Ne) := (hc5 _ _ (by first | omega | (simp; omega))).trans (by go_simp)
  have m5_1_2 : w5.cell? ⟨w.heap.size + 1, 2, none⟩ = some (.int .i64 H) := (hc5 _ _ (by first | omega | (simp; omega))).trans (by go_simp)
  have m5_1_3 : w5.cell? ⟨w.heap.size + 1, 3, none⟩ = some (.int .i64 Vv) := (hc5 _ _ (by first | omega | (simp; omega))).trans (by go_simp)
  have m5_2_0 : w5.cell? ⟨w.heap.size + 1 + 1, 0, none⟩ = some (.int .u16 b0) := (hc5 _ _ (by first | omega | (simp; omega))).trans (by go_simp)
  have m5_2_1 : w5.cell? ⟨w.heap.size + 1 + 1, 1, none⟩ = some (.int .u16 b1) := (hc5 _ _ (by first | omega | (simp; omega))).trans (by go_simp)
  have m5_2_2 : w5.cell? ⟨w.heap.size + 1 + 1, 2, none⟩ = some (.int .u16 b2) := (hc5 _ _ (by first | omega | (simp; omega))).trans (by go_simp)
  have m5_2_3 : w5.cell? ⟨w.heap.size + 1 + 1, 3, none⟩ = some (.int .u16 b3) := (hc5 _ _ (by first | omega | (simp; omega))).trans (by go_simp)
  have m5_3_0 : w5.cell? ⟨w3.heap.size, 0, none⟩ = some (.int .i64 (min 120 (T + b2 % 9))) := (hc5 _ _ (by first | omega | (simp; omega))).trans (by go_simp)
  have m5_3_1 : w5.cell? ⟨w3.heap.size, 1, none⟩ = some (.int .i64 (min 1024 (Ne + b3 % 9))) := (hc5 _ _ (by first | omega | (simp; omega))).trans (by go_simp)
  have m5_3_2 : w5.cell? ⟨w3.heap.size, 2, none⟩ = some (.int .i64 H) := (hc5 _ _ (by first | omega | (simp; omega))).trans (by go_simp)
  have m5_3_3 : w5.cell? ⟨w3.heap.size, 3, none⟩ = some (.int .i64 Vv) := (hc5 _ _ (by first | omega | (simp; omega))).trans (by go_simp)
  have mf5_0 : w5.frozen? ⟨w3.heap.size, 0, none⟩ = false := (hf5 _ _ (by first | omega | (simp; omega))).trans (by go_simp)
  have mf5_1 : w5.frozen? ⟨w3.heap.size, 1, none⟩ = false := (hf5 _ _ (by first | omega | (simp; omega))).trans (by go_simp)
  have mf5_2 : w5.frozen? ⟨w3.heap.size, 2, none⟩ = false := (hf5 _ _ (by first | omega | (simp; omega))).trans (by go_simp)
  have mf5_3 : w5.frozen? ⟨w3.heap.size, 3, none⟩ = false := (hf5 _ _ (by first | omega | (simp; omega))).trans (by go_simp)
  clear hc5 hf5 m4_0_0 m4_0_1 m4_0_2 m4_0_3 m4_0_4 m4_1_0 m4_1_1 m4_1_2 m4_1_3 m4_2_0 m4_2_1 m4_2_2 m4_2_3 m4_3_0 m4_3_1 m4_3_2 m4_3_3 mf4_0 mf4_1 mf4_2 mf4_3
  by_cases ha : a < 0
  all_goals
    have hn := tN.out
    unfold nearA at hn
    first | rw [if_pos ha] at hn | rw [if_neg ha] at hn
    have tN' := Lib.hid hn; clear hn
    go_wp2_with fail
    rw [← tN'.out]
    refine (t6.out _).mono ?_
    rintro e w6 ⟨rfl, hb6⟩
    have hc6 := (bcell hb6).1
    have hf6 := (bcell hb6).2
    have hs6 := hb6.size
    try simp at hs6
    have hz6_0 : w.heap.size < w6.heap.size := by omega
    have hz6_1 : w.heap.size + 1 < w6.heap.size := by omega
    have hz6_2 : w.heap.size + 2 < w6.heap.size := by omega
    have hz6_3 : w2.heap.size < w6.heap.size := by omega
    have hz6_4 : w3.heap.size < w6.heap.size := by omega
    have B6 : Below w.heap.size w w6 := (B5).trans (hb6.mono (by first | omega | (simp; omega) | simp))
    have m6_0_0 : w6.cell? ⟨w.heap.size, 0, none⟩ = some (.int .i64 R) := (hc6 _ _ (by first | omega | (simp; omega))).trans (by go_simp)
    have m6_0_1 : w6.cell? ⟨w.heap.size, 1, none⟩ = some (.int .i64 V) := (hc6 _ _ (by first | omega | (simp; omega))).trans (by go_simp)
    have m6_0_2 : w6.cell? ⟨w.heap.size, 2, none⟩ = some (.int .i64 N) := (hc6 _ _ (by first | omega | (simp; omega))).trans (by go_simp)
    have m6_0_3 : w6.cell? ⟨w.heap.size, 3, none⟩ = some (.int .i64 a) := (hc6 _ _ (by first | omega | (simp; omega))).trans (by go_simp)
    have m6_0_4 : w6.cell? ⟨w.heap.size, 4, none⟩ = some (.int .i64 r) := (hc6 _ _ (by first | omega | (simp; omega))).trans (by go_simp)
    have m6_1_0 : w6.cell? ⟨w.heap.size + 1, 0, none⟩ = some (.int .i64 T) := (hc6 _ _ (by first | omega | (simp; omega))).trans (by go_simp)
    have m6_1_1 : w6.cell? ⟨w.heap.size + 1, 1, none⟩ = some (.int .i64 Ne) := (hc6 _ _ (by first | omega | (simp; omega))).trans (by go_simp)
    have m6_1_2 : w6.cell? ⟨w.heap.size + 1, 2, none⟩ = some (.int .i64 H) := (hc6 _ _ (by first | omega | (simp; omega))).trans (by go_simp)
    have m6_1_3 : w6.cell? ⟨w.heap.size + 1, 3, none⟩ = some (.int .i64 Vv) := (hc6 _ _ (by first | omega | (simp; omega))).trans (by go_simp)
    have m6_2_0 : w6.cell? ⟨w.heap.size + 1 + 1, 0, none⟩ = some (.int .u16 b0) := (hc6 _ _ (by first | omega | (simp; omega))).trans (by go_simp)
    have m6_2_1 : w6.cell? ⟨w.heap.size + 1 + 1, 1, none⟩ = some (.int .u16 b1) := (hc6 _ _ (by first | omega | (simp; omega))).trans (by go_simp)
    have m6_2_2 : w6.cell? ⟨w.heap.size + 1 + 1, 2, none⟩ = some (.int .u16 b2) := (hc6 _ _ (by first | omega | (simp; omega))).trans (by go_simp)
    have m6_2_3 : w6.cell? ⟨w.heap.size + 1 + 1, 3, none⟩ = some (.int .u16 b3) := (hc6 _ _ (by first | omega | (simp; omega))).trans (by go_simp)
    have m6_3_0 : w6.cell? ⟨w3.heap.size, 0, none⟩ = some (.int .i64 (min 120 (T + b2 % 9))) := (hc6 _ _ (by first | omega | (simp; omega))).trans (by go_simp)
    have m6_3_1 : w6.cell? ⟨w3.heap.size, 1, none⟩ = some (.int .i64 (min 1024 (Ne + b3 % 9))) := (hc6 _ _ (by first | omega | (simp; omega))).trans (by go_simp)
    have m6_3_2 : w6.cell? ⟨w3.heap.size, 2, none⟩ = some (.int .i64 H) := (hc6 _ _ (by first | omega | (simp; omega))).trans (by go_simp)
    have m6_3_3 : w6.cell? ⟨w3.heap.size, 3, none⟩ = some (.int .i64 Vv) := (hc6 _ _ (by first | omega | (simp; omega))).trans (by go_simp)
    have mf6_0 : w6.frozen? ⟨w3.heap.size, 0, none⟩ = false := (hf6 _ _ (by first | omega | (simp; omega))).trans (by go_simp)
    have mf6_1 : w6.frozen? ⟨w3.heap.size, 1, none⟩ = false := (hf6 _ _ (by first | omega | (simp; omega))).trans (by go_simp)
    have mf6_2 : w6.frozen? ⟨w3.heap.size, 2, none⟩ = false := (hf6 _ _ (by first | omega | (simp; omega))).trans (by go_simp)
    have mf6_3 : w6.frozen? ⟨w3.heap.size, 3, none⟩ = false := (hf6 _ _ (by first | omega | (simp; omega))).trans (by go_simp)
    clear hc6 hf6 m5_0_0 m5_0_1 m5_0_2 m5_0_3 m5_0_4 m5_1_0 m5_1_1 m5_1_2 m5_1_3 m5_2_0 m5_2_1 m5_2_2 m5_2_3 m5_3_0 m5_3_1 m5_3_2 m5_3_3 mf5_0 mf5_1 mf5_2 mf5_3
    go_wp2_with fail
    go_region
    go_wp2_with fail
    refine (t7.out _).mono ?_
    rintro e w7 ⟨rfl, hb7⟩
    have hc7 := (bcell hb7).1
    have hf7 := (bcell hb7).2
    have hs7 := hb7.size
    try simp at hs7
    have hz7_0 : w.heap.size < w7.heap.size := by omega
    have hz7_1 : w.heap.size + 1 < w7.heap.size := by omega
    have hz7_2 : w.heap.size + 2 < w7.heap.size := by omega
    have hz7_3 : w2.heap.size < w7.heap.size := by omega
    have hz7_4 : w3.heap.size < w7.heap.size := by omega
    have B7 : Below w.heap.size w w7 := (((B6.setCell (by first | omega | (simp; omega) | simp) _).setCell (by first | omega | (simp; omega) | simp) _).drew).trans (hb7.mono (by first | omega | (simp; omega) | simp))
    clear hc7 hf7 hs7 tN tN' m6_0_0 m6_0_1 m6_0_2 m6_0_3 m6_0_4 m6_1_0 m6_1_1 m6_1_2 m6_1_3 m6_2_0 m6_2_1 m6_2_2 m6_2_3 m6_3_0 m6_3_1 m6_3_2 m6_3_3 mf6_0 mf6_1 mf6_2 mf6_3 hz1_0 hz1_1 hz1_2 hz2_0 hz2_1 hz2_2 hz3_0 hz3_1 hz3_2 hz3_3 hz4_0 hz4_1 hz4_2 hz4_3 hz4_4 hz5_0 hz5_1 hz5_2 hz5_3 hz5_4 hz6_0 hz6_1 hz6_2 hz6_3 hz6_4 hz7_0 hz7_1 hz7_2 hz7_3 hz7_4 x1 x2 x3 x4 x5 x6 l1 l2 l3 l4 l5 l6 l7 l8 g1 g2 g3 g4 y1 y2 y3 y4 y5 y6 y7 y8 hs1 hs2 hs3 hs4 hs5 hs6 t1 t3 t4 t5 t6 t7
    go_wp2_with fail
    go_ret
    exact ⟨rfl, B7⟩
end Go.Proofs.Ytbonniladhablaa
