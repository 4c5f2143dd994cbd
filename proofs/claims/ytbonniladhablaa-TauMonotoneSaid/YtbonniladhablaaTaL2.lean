/- TauMonotone returns true for every input: the tests of package tau stay passed for smaller ranges and changes, for altitudes nearer to 0, and for greater bounds. -/
import Derived.Test.YtbonniladhablaaTaM
import Derived.Lib.MinMax
import Derived.Test.YtbonniladhablaaKO
import Derived.WalkKit
import Derived.ProofKit
import Derived.OpenShut
import Derived.ShutString
import Derived.ChangeOld
import Derived.Below
import Derived.Lib.SmallJoins
import Derived.Test.YtbonniladhablaaTaM1
import Derived.Test.YtbonniladhablaaTaM2
import Derived.Test.YtbonniladhablaaTaM3
import Derived.Test.YtbonniladhablaaTaM4
import Derived.Test.YtbonniladhablaaTaM5
namespace Go.Proofs.Ytbonniladhablaa
open Go.RowKit
attribute [local go_sem ↓] Go.wp_at_zero Go.wp_at_succ
attribute [local go_sem] wrap_lit

set_option maxRecDepth 100000 in
set_option maxHeartbeats 4000000 in
theorem monoE (R V N a r T Ne H Vv b0 b1 b2 b3 : Int) (w : World) (h : ¬ (okX R V N ∧ okL T Ne H Vv)) : Calls Try.prog 4 #[.agg #[.int .i64 R, .int .i64 V, .int .i64 N, .int .i64 a, .int .i64 r], .agg #[.int .i64 T, .int .i64 Ne, .int .i64 H, .int .i64 Vv], .agg #[.int .u16 b0, .int .u16 b1, .int .u16 b2, .int .u16 b3]] w fun e w' => e = .returned (.bool true) ∧ Below w.heap.size w w' := by
  have t1 := Lib.hid (horiz11' R V N T Ne H Vv (b := false) (e := 1) (by unfold hoB; rw [if_neg h]) (by unfold hoE; rw [if_neg h]))
  clear h
  go_enter Try.func4, Try.ntmps4
  go_wp2_with fail
  refine (t1.out _).mono ?_
  rintro e w1 ⟨rfl, hb1⟩
  have hc1 := (bcell hb1).1
  have hf1 := (bcell hb1).2
  have hs1 := hb1.size
  try simp at hs1
  have B1 : Below w.heap.size w w1 := ((((Below.refl _ _).alloc (Nat.le_refl _) _).alloc (by first | omega | (simp; omega) | simp) _).alloc (by first | omega | (simp; omega) | simp) _).trans (hb1.mono (by first | omega | (simp; omega) | simp))
  go_wp2_with fail
  refine (awake15 _).mono ?_
  rintro e w2 ⟨rfl, hb2⟩
  have hc2 := (bcell hb2).1
  have hf2 := (bcell hb2).2
  have hs2 := hb2.size
  try simp at hs2
  have B2 : Below w.heap.size w w2 := (B1).trans (hb2.mono (by first | omega | (simp; omega) | simp))
  go_wp2_with fail
  go_ret
  exact ⟨rfl, B2⟩

set_option maxRecDepth 100000 in
set_option maxHeartbeats 4000000 in
theorem monoV0 (R V N a r T Ne H Vv b0 b1 b2 b3 : Int) (B C : Bool) (w : World)
    (c1 : ∀ w, Calls Try.prog 11 #[.agg #[.int .i64 R, .int .i64 V, .int .i64 N], .agg #[.int .i64 T, .int .i64 Ne, .int .i64 H, .int .i64 Vv]] w fun e' w' => e' = .returned (.tuple #[.bool false, .int .i64 0]) ∧ Below w.heap.size w w')
    (c3 : ∀ w, Calls Try.prog 11 #[.agg #[.int .i64 (max 0 (R - b0)), .int .i64 (max (-16384) (V - b1)), .int .i64 N], .agg #[.int .i64 T, .int .i64 Ne, .int .i64 H, .int .i64 Vv]] w fun e' w' => e' = .returned (.tuple #[.bool B, .int .i64 0]) ∧ Below w.heap.size w w')
    (c4 : ∀ w, Calls Try.prog 11 #[.agg #[.int .i64 R, .int .i64 V, .int .i64 N], .agg #[.int .i64 (min 120 (T + b2 % 9)), .int .i64 (min 1024 (Ne + b3 % 9)), .int .i64 H, .int .i64 Vv]] w fun e' w' => e' = .returned (.tuple #[.bool C, .int .i64 0]) ∧ Below w.heap.size w w')
    (c5 : ∀ w, Calls Try.prog 13 #[.int .i64 a, .int .i64 r, .agg #[.int .i64 T, .int .i64 Ne, .int .i64 H, .int .i64 Vv]] w fun e' w' => e' = .returned (.tuple #[.bool false, .int .i64 1]) ∧ Below w.heap.size w w')
    (hx : okX R V N) (hl : okL T Ne H Vv) (hb0 : 0 ≤ b0 ∧ b0 ≤ 65535) (hb1 : 0 ≤ b1 ∧ b1 ≤ 65535) (hb2 : 0 ≤ b2 ∧ b2 ≤ 65535) (hb3 : 0 ≤ b3 ∧ b3 ≤ 65535) : Calls Try.prog 4 #[.agg #[.int .i64 R, .int .i64 V, .int .i64 N, .int .i64 a, .int .i64 r], .agg #[.int .i64 T, .int .i64 Ne, .int .i64 H, .int .i64 Vv], .agg #[.int .u16 b0, .int .u16 b1, .int .u16 b2, .int .u16 b3]] w fun e w' => e = .returned (.bool true) ∧ Below w.heap.size w w' := by
  have t1 := Lib.hid c1
  have t3 := Lib.hid c3
  have t4 := Lib.hid c4
  have t5 := Lib.hid c5
  clear c1 c3 c4 c5
  obtain ⟨x1, x2, x3, x4, x5, x6⟩ := hx
  obtain ⟨l1, l2, l3, l4, l5, l6, l7, l8⟩ := hl
  obtain ⟨y1, y2⟩ := hb0
  obtain ⟨y3, y4⟩ := hb1
  obtain ⟨y5, y6⟩ := hb2
  obtain ⟨y7, y8⟩ := hb3
  go_enter Try.func4, Try.ntmps4
  go_wp2_with fail
  refine (t1.out _).mono ?_
  rintro e w1 ⟨rfl, hb1⟩
  have hc1 := (bcell hb1).1
  have hf1 := (bcell hb1).2
  have hs1 := hb1.size
  try simp at hs1
  have hz1_0 : w.heap.size < w1.heap.size := by omega
  have hz1_1 : w.heap.size + 1 < w1.heap.size := by omega
  have hz1_2 : w.heap.size + 2 < w1.heap.size := by omega
  have B1 : Below w.heap.size w w1 := ((((Below.refl _ _).alloc (Nat.le_refl _) _).alloc (by first | omega | (simp; omega) | simp) _).alloc (by first | omega | (simp; omega) | simp) _).trans (hb1.mono (by first | omega | (simp; omega) | simp))
  go_wp2_with fail
  refine (awake15 _).mono ?_
  rintro e w2 ⟨rfl, hb2⟩
  have hc2 := (bcell hb2).1
  have hf2 := (bcell hb2).2
  have hs2 := hb2.size
  try simp at hs2
  have hz2_0 : w.heap.size < w2.heap.size := by omega
  have hz2_1 : w.heap.size + 1 < w2.heap.size := by omega
  have hz2_2 : w.heap.size + 2 < w2.heap.size := by omega
  have B2 : Below w.heap.size w w2 := (B1).trans (hb2.mono (by first | omega | (simp; omega) | simp))
  go_wp2_with fail
  refine (t3.out _).mono ?_
  rintro e w3 ⟨rfl, hb3⟩
  have hc3 := (bcell hb3).1
  have hf3 := (bcell hb3).2
  have hs3 := hb3.size
  try simp at hs3
  have hz3_0 : w.heap.size < w3.heap.size := by omega
  have hz3_1 : w.heap.size + 1 < w3.heap.size := by omega
  have hz3_2 : w.heap.size + 2 < w3.heap.size := by omega
  have hz3_3 : w2.heap.size < w3.heap.size := by omega
  have B3 : Below w.heap.size w w3 := (B2.alloc (by first | omega | (simp; omega) | simp) _).trans (hb3.mono (by first | omega | (simp; omega) | simp))
  go_wp2_with fail
  obtain ⟨W, hW⟩ : ∃ W, W = w3.alloc (Obj.cells #[Value.int IntKind.i64 T, Value.int IntKind.i64 Ne, Value.int IntKind.i64 H, Value.int IntKind.i64 Vv] 27) := ⟨_, rfl⟩
  have hBW : Below w3.heap.size w3 W := by rw [hW]; exact (Below.refl _ _).alloc (Nat.le_refl _) _
  have k_0_0 : W.cell? ⟨w.heap.size, 0, none⟩ = some (.int .i64 R) := by rw [hW]; go_simp
  have k_0_1 : W.cell? ⟨w.heap.size, 1, none⟩ = some (.int .i64 V) := by rw [hW]; go_simp
  have k_0_2 : W.cell? ⟨w.heap.size, 2, none⟩ = some (.int .i64 N) := by rw [hW]; go_simp
  have k_0_3 : W.cell? ⟨w.heap.size, 3, none⟩ = some (.int .i64 a) := by rw [hW]; go_simp
  have k_0_4 : W.cell? ⟨w.heap.size, 4, none⟩ = some (.int .i64 r) := by rw [hW]; go_simp
  have k_1_0 : W.cell? ⟨w.heap.size + 1, 0, none⟩ = some (.int .i64 T) := by rw [hW]; go_simp
  have k_1_1 : W.cell? ⟨w.heap.size + 1, 1, none⟩ = some (.int .i64 Ne) := by rw [hW]; go_simp
  have k_1_2 : W.cell? ⟨w.heap.size + 1, 2, none⟩ = some (.int .i64 H) := by rw [hW]; go_simp
  have k_1_3 : W.cell? ⟨w.heap.size + 1, 3, none⟩ = some (.int .i64 Vv) := by rw [hW]; go_simp
  have k_2_0 : W.cell? ⟨w.heap.size + 1 + 1, 0, none⟩ = some (.int .u16 b0) := by rw [hW]; go_simp
  have k_2_1 : W.cell? ⟨w.heap.size + 1 + 1, 1, none⟩ = some (.int .u16 b1) := by rw [hW]; go_simp
  have k_2_2 : W.cell? ⟨w.heap.size + 1 + 1, 2, none⟩ = some (.int .u16 b2) := by rw [hW]; go_simp
  have k_2_3 : W.cell? ⟨w.heap.size + 1 + 1, 3, none⟩ = some (.int .u16 b3) := by rw [hW]; go_simp
  have k_3_0 : W.cell? ⟨w3.heap.size, 0, none⟩ = some (.int .i64 T) := by rw [hW]; go_simp
  have k_3_1 : W.cell? ⟨w3.heap.size, 1, none⟩ = some (.int .i64 Ne) := by rw [hW]; go_simp
  have k_3_2 : W.cell? ⟨w3.heap.size, 2, none⟩ = some (.int .i64 H) := by rw [hW]; go_simp
  have k_3_3 : W.cell? ⟨w3.heap.size, 3, none⟩ = some (.int .i64 Vv) := by rw [hW]; go_simp
  have kf : ∀ i, W.frozen? ⟨w3.heap.size, i, none⟩ = false := fun i => by rw [hW]; go_simp
  rw [← hW]
  have HW := Lib.hid hW; clear hW
  have kf0 := kf 0
  have kf1 := kf 1
  have kf2 := kf 2
  have kf3 := kf 3
  clear hc1 hc2 hc3 hf1 hf2 hf3 kf
  have BW : Below w.heap.size w W := B3.trans (hBW.mono (by omega))
  have hsW : w3.heap.size + 1 ≤ W.heap.size := by rw [HW.out]; simp
  go_region
  go_wp2_with fail
  refine (t4.out _).mono ?_
  rintro e w4 ⟨rfl, hb4⟩
  have hc4 := (bcell hb4).1
  have hf4 := (bcell hb4).2
  have hs4 := hb4.size
  try simp at hs4
  have hz4_0 : w.heap.size < w4.heap.size := by omega
  have hz4_1 : w.heap.size + 1 < w4.heap.size := by omega
  have hz4_2 : w.heap.size + 2 < w4.heap.size := by omega
  have hz4_3 : w2.heap.size < w4.heap.size := by omega
  have hz4_4 : w3.heap.size < w4.heap.size := by omega
  have B4 : Below w.heap.size w w4 := (((BW.setCell (by first | omega | (simp; omega) | simp) _).setCell (by first | omega | (simp; omega) | simp) _).drew).trans (hb4.mono (by first | omega | (simp; omega) | simp))
  have m4_0_0 : w4.cell? ⟨w.heap.size, 0, none⟩ = some (.int .i64 R) := (hc4 _ _ (by first | omega | (simp; omega))).trans (by go_simp)
  have m4_0_1 : w4.cell? ⟨w.heap.size, 1, none⟩ = some (.int .i64 V) := (hc4 _ _ (by first | omega | (simp; omega))).trans (by go_simp)
  have m4_0_2 : w4.cell? ⟨w.heap.size, 2, none⟩ = some (.int .i64 N) := (hc4 _ _ (by first | omega | (simp; omega))).trans (by go_simp)
  have m4_0_3 : w4.cell? ⟨w.heap.size, 3, none⟩ = some (.int .i64 a) := (hc4 _ _ (by first | omega | (simp; omega))).trans (by go_simp)
  have m4_0_4 : w4.cell? ⟨w.heap.size, 4, none⟩ = some (.int .i64 r) := (hc4 _ _ (by first | omega | (simp; omega))).trans (by go_simp)
  have m4_1_0 : w4.cell? ⟨w.heap.size + 1, 0, none⟩ = some (.int .i64 T) := (hc4 _ _ (by first | omega | (simp; omega))).trans (by go_simp)
  have m4_1_1 : w4.cell? ⟨w.heap.size + 1, 1, none⟩ = some (.int .i64 Ne) := (hc4 _ _ (by first | omega | (simp; omega))).trans (by go_simp)
  have m4_1_2 : w4.cell? ⟨w.heap.size + 1, 2, none⟩ = some (.int .i64 H) := (hc4 _ _ (by first | omega | (simp; omega))).trans (by go_simp)
  have m4_1_3 : w4.cell? ⟨w.heap.size + 1, 3, none⟩ = some (.int .i64 Vv) := (hc4 _ _ (by first | omega | (simp; omega))).trans (by go_simp)
  have m4_2_0 : w4.cell? ⟨w.heap.size + 1 + 1, 0, none⟩ = some (.int .u16 b0) := (hc4 _ _ (by first | omega | (simp; omega))).trans (by go_simp)
  have m4_2_1 : w4.cell? ⟨w.heap.size + 1 + 1, 1, none⟩ = some (.int .u16 b1) := (hc4 _ _ (by first | omega | (simp; omega))).trans (by go_simp)
  have m4_2_2 : w4.cell? ⟨w.heap.size + 1 + 1, 2, none⟩ = some (.int .u16 b2) := (hc4 _ _ (by first | omega | (simp; omega))).trans (by go_simp)
  have m4_2_3 : w4.cell? ⟨w.heap.size + 1 + 1, 3, none⟩ = some (.int .u16 b3) := (hc4 _ _ (by first | omega | (simp; omega))).trans (by go_simp)
  have m4_3_0 : w4.cell? ⟨w3.heap.size, 0, none⟩ = some (.int .i64 (min 120 (T + b2 % 9))) := (hc4 _ _ (by first | omega | (simp; omega))).trans (by go_simp)
  have m4_3_1 : w4.cell? ⟨w3.heap.size, 1, none⟩ = some (.int .i64 (min 1024 (Ne + b3 % 9))) := (hc4 _ _ (by first | omega | (simp; omega))).trans (by go_simp)
  have m4_3_2 : w4.cell? ⟨w3.heap.size, 2, none⟩ = some (.int .i64 H) := (hc4 _ _ (by first | omega | (simp; omega))).trans (by go_simp)
  have m4_3_3 : w4.cell? ⟨w3.heap.size, 3, none⟩ = some (.int .i64 Vv) := (hc4 _ _ (by first | omega | (simp; omega))).trans (by go_simp)
  have mf4_0 : w4.frozen? ⟨w3.heap.size, 0, none⟩ = false := (hf4 _ _ (by first | omega | (simp; omega))).trans (by go_simp)
  have mf4_1 : w4.frozen? ⟨w3.heap.size, 1, none⟩ = false := (hf4 _ _ (by first | omega | (simp; omega))).trans (by go_simp)
  have mf4_2 : w4.frozen? ⟨w3.heap.size, 2, none⟩ = false := (hf4 _ _ (by first | omega | (simp; omega))).trans (by go_simp)
  have mf4_3 : w4.frozen? ⟨w3.heap.size, 3, none⟩ = false := (hf4 _ _ (by first | omega | (simp; omega))).trans (by go_simp)
  clear hc4 hf4 k_0_0 k_0_1 k_0_2 k_0_3 k_0_4 k_1_0 k_1_1 k_1_2 k_1_3 k_2_0 k_2_1 k_2_2 k_2_3 k_3_0 k_3_1 k_3_2 k_3_3 kf0 kf1 kf2 kf3
  go_wp2_with fail
  refine (t5.out _).mono ?_
  rintro e w5 ⟨rfl, hb5⟩
  have hc5 := (bcell hb5).1
  have hf5 := (bcell hb5).2
  have hs5 := hb5.size
  try simp at hs5
  have hz5_0 : w.heap.size < w5.heap.size := by omega
  have hz5_1 : w.heap.size + 1 < w5.heap.size := by omega
  have hz5_2 : w.heap.size + 2 < w5.heap.size := by omega
  have hz5_3 : w2.heap.size < w5.heap.size := by omega
  have hz5_4 : w3.heap.size < w5.heap.size := by omega
  have B5 : Below w.heap.size w w5 := (B4).trans (hb5.mono (by first | omega | (simp; omega) | simp))
  have m5_0_0 : w5.cell? ⟨w.heap.size, 0, none⟩ = some (.int .i64 R) := (hc5 _ _ (by first | omega | (simp; omega))).trans (by go_simp)
  have m5_0_1 : w5.cell? ⟨w.heap.size, 1, none⟩ = some (.int .i64 V) := (hc5 _ _ (by first | omega | (simp; omega))).trans (by go_simp)
  have m5_0_2 : w5.cell? ⟨w.heap.size, 2, none⟩ = some (.int .i64 N) := (hc5 _ _ (by first | omega | (simp; omega))).trans (by go_simp)
  have m5_0_3 : w5.cell? ⟨w.heap.size, 3, none⟩ = some (.int .i64 a) := (hc5 _ _ (by first | omega | (simp; omega))).trans (by go_simp)
  have m5_0_4 : w5.cell? ⟨w.heap.size, 4, none⟩ = some (.int .i64 r) := (hc5 _ _ (by first | omega | (simp; omega))).trans (by go_simp)
  have m5_1_0 : w5.cell? ⟨w.heap.size + 1, 0, none⟩ = some (.int .i64 T) := (hc5 _ _ (by first | omega | (simp; omega))).trans (by go_simp)
  have m5_1_1 : w5.cell? ⟨w.heap.size + 1, 1, none⟩ = some (.int .i64 Ne) := (hc5 _ _ (by first | omega | (simp; omega))).trans (by go_simp)
  have m5_1_2 : w5.cell? ⟨w.heap.size + 1, 2, none⟩ = some (.int .i64 H) := (hc5 _ _ (by first | omega | (simp; omega))).trans (by go_simp)
  have m5_1_3 : w5.cell? ⟨w.heap.size + 1, 3, none⟩ = some (.int .i64 Vv) := (hc5 _ _ (by first | omega | (simp; omega))).trans (by go_simp)
  have m5_2_0 : w5.cell? ⟨w.heap.size + 1 + 1, 0, none⟩ = some (.int .u16 b0) := (hc5 _ _ (by first | omega | (simp; omega))).trans (by go_simp)
  have m5_2_1 : w5.cell? ⟨w.heap.size + 1 + 1, 1, none⟩ = some (.int .u16 b1) := (hc5 _ _ (by first | omega | (simp; omega))).trans (by go_simp)
  have m5_2_2 : w5.cell? ⟨w.heap.size + 1 + 1, 2, none⟩ = some (.int .u16 b2) := (hc5 _ _ (by first | omega | (simp; omega))).trans (by go_simp)
  have m5_2_3 : w5.cell? ⟨w.heap.size + 1 + 1, 3, none⟩ = some (.int .u16 b3) := (hc5 _ _ (by first | omega | (simp; omega))).trans (by go_simp)
  have m5_3_0 : w5.cell? ⟨w3.heap.size, 0, none⟩ = some (.int .i64 (min 120 (T + b2 % 9))) := (hc5 _ _ (by first | omega | (simp; omega))).trans (by go_simp)
  have m5_3_1 : w5.cell? ⟨w3.heap.size, 1, none⟩ = some (.int .i64 (min 1024 (Ne + b3 % 9))) := (hc5 _ _ (by first | omega | (simp; omega))).trans (by go_simp)
  have m5_3_2 : w5.cell? ⟨w3.heap.size, 2, none⟩ = some (.int .i64 H) := (hc5 _ _ (by first | omega | (simp; omega))).trans (by go_simp)
  have m5_3_3 : w5.cell? ⟨w3.heap.size, 3, none⟩ = some (.int .i64 Vv) := (hc5 _ _ (by first | omega | (simp; omega))).trans (by go_simp)
  have mf5_0 : w5.frozen? ⟨w3.heap.size, 0, none⟩ = false := (hf5 _ _ (by first | omega | (simp; omega))).trans (by go_simp)
  have mf5_1 : w5.frozen? ⟨w3.heap.size, 1, none⟩ = false := (hf5 _ _ (by first | omega | (simp; omega))).trans (by go_simp)
  have mf5_2 : w5.frozen? ⟨w3.heap.size, 2, none⟩ = false := (hf5 _ _ (by first | omega | (simp; omega))).trans (by go_simp)
  have mf5_3 : w5.frozen? ⟨w3.heap.size, 3, none⟩ = false := (hf5 _ _ (by first | omega | (simp; omega))).trans (by go_simp)
  clear hc5 hf5 m4_0_0 m4_0_1 m4_0_2 m4_0_3 m4_0_4 m4_1_0 m4_1_1 m4_1_2 m4_1_3 m4_2_0 m4_2_1 m4_2_2 m4_2_3 m4_3_0 m4_3_1 m4_3_2 m4_3_3 mf4_0 mf4_1 mf4_2 mf4_3
  go_wp2_with fail
  go_ret
  exact ⟨rfl, B5⟩

set_option maxRecDepth 100000 in
set_option maxHeartbeats 4000000 in
theorem monoV1 (R V N a r T Ne H Vv b0 b1 b2 b3 : Int)  (w : World)
    (c1 : ∀ w, Calls Try.prog 11 #[.agg #[.int .i64 R, .int .i64 V, .int .i64 N], .agg #[.int .i64 T, .int .i64 Ne, .int .i64 H, .int .i64 Vv]] w fun e' w' => e' = .returned (.tuple #[.bool true, .int .i64 0]) ∧ Below w.heap.size w w')
    (c3 : ∀ w, Calls Try.prog 11 #[.agg #[.int .i64 (max 0 (R - b0)), .int .i64 (max (-16384) (V - b1)), .int .i64 N], .agg #[.int .i64 T, .int .i64 Ne, .int .i64 H, .int .i64 Vv]] w fun e' w' => e' = .returned (.tuple #[.bool true, .int .i64 0]) ∧ Below w.heap.size w w')
    (c4 : ∀ w, Calls Try.prog 11 #[.agg #[.int .i64 R, .int .i64 V, .int .i64 N], .agg #[.int .i64 (min 120 (T + b2 % 9)), .int .i64 (min 1024 (Ne + b3 % 9)), .int .i64 H, .int .i64 Vv]] w fun e' w' => e' = .returned (.tuple #[.bool true, .int .i64 0]) ∧ Below w.heap.size w w')
    (c5 : ∀ w, Calls Try.prog 13 #[.int .i64 a, .int .i64 r, .agg #[.int .i64 T, .int .i64 Ne, .int .i64 H, .int .i64 Vv]] w fun e' w' => e' = .returned (.tuple #[.bool false, .int .i64 1]) ∧ Below w.heap.size w w')
    (hx : okX R V N) (hl : okL T Ne H Vv) (hb0 : 0 ≤ b0 ∧ b0 ≤ 65535) (hb1 : 0 ≤ b1 ∧ b1 ≤ 65535) (hb2 : 0 ≤ b2 ∧ b2 ≤ 65535) (hb3 : 0 ≤ b3 ∧ b3 ≤ 65535) : Calls Try.prog 4 #[.agg #[.int .i64 R, .int .i64 V, .int .i64 N, .int .i64 a, .int .i64 r], .agg #[.int .i64 T, .int .i64 Ne, .int .i64 H, .int .i64 Vv], .agg #[.int .u16 b0, .int .u16 b1, .int .u16 b2, .int .u16 b3]] w fun e w' => e = .returned (.bool true) ∧ Below w.heap.size w w' := by
  have t1 := Lib.hid c1
  have t3 := Lib.hid c3
  have t4 := Lib.hid c4
  have t5 := Lib.hid c5
  clear c1 c3 c4 c5
  obtain ⟨x1, x2, x3, x4, x5, x6⟩ := hx
  obtain ⟨l1, l2, l3, l4, l5, l6, l7, l8⟩ := hl
  obtain ⟨y1, y2⟩ := hb0
  obtain ⟨y3, y4⟩ := hb1
  obtain ⟨y5, y6⟩ := hb2
  obtain ⟨y7, y8⟩ := hb3
  go_enter Try.func4, Try.ntmps4
  go_wp2_with fail
  refine (t1.out _).mono ?_
  rintro e w1 ⟨rfl, hb1⟩
  have hc1 := (bcell hb1).1
  have hf1 := (bcell hb1).2
  have hs1 := hb1.size
  try simp at hs1
  have hz1_0 : w.heap.size < w1.heap.size := by omega
  have hz1_1 : w.heap.size + 1 < w1.heap.size := by omega
  have hz1_2 : w.heap.size + 2 < w1.heap.size := by omega
  have B1 : Below w.heap.size w w1 := ((((Below.refl _ _).alloc (Nat.le_refl _) _).alloc (by first | omega | (simp; omega) | simp) _).alloc (by first | omega | (simp; omega) | simp) _).trans (hb1.mono (by first | omega | (simp; omega) | simp))
  go_wp2_with fail
  refine (awake15 _).mono ?_
  rintro e w2 ⟨rfl, hb2⟩
  have hc2 := (bcell hb2).1
  have hf2 := (bcell hb2).2
  have hs2 := hb2.size
  try simp at hs2
  have hz2_0 : w.heap.size < w2.heap.size := by omega
  have hz2_1 : w.heap.size + 1 < w2.heap.size := by omega
  have hz2_2 : w.heap.size + 2 < w2.heap.size := by omega
  have B2 : Below w.heap.size w w2 := (B1).trans (hb2.mono (by first | omega | (simp; omega) | simp))
  go_wp2_with fail
  refine (t3.out _).mono ?_
  rintro e w3 ⟨rfl, hb3⟩
  have hc3 := (bcell hb3).1
  have hf3 := (bcell hb3).2
  have hs3 := hb3.size
  try simp at hs3
  have hz3_0 : w.heap.size < w3.heap.size := by omega
  have hz3_1 : w.heap.size + 1 < w3.heap.size := by omega
  have hz3_2 : w.heap.size + 2 < w3.heap.size := by omega
  have hz3_3 : w2.heap.size < w3.heap.size := by omega
  have B3 : Below w.heap.size w w3 := (B2.alloc (by first | omega | (simp; omega) | simp) _).trans (hb3.mono (by first | omega | (simp; omega) | simp))
  go_wp2_with fail
  obtain ⟨W, hW⟩ : ∃ W, W = w3.alloc (Obj.cells #[Value.int IntKind.i64 T, Value.int IntKind.i64 Ne, Value.int IntKind.i64 H, Value.int IntKind.i64 Vv] 27) := ⟨_, rfl⟩
  have hBW : Below w3.heap.size w3 W := by rw [hW]; exact (Below.refl _ _).alloc (Nat.le_refl _) _
  have k_0_0 : W.cell? ⟨w.heap.size, 0, none⟩ = some (.int .i64 R) := by rw [hW]; go_simp
  have k_0_1 : W.cell? ⟨w.heap.size, 1, none⟩ = some (.int .i64 V) := by rw [hW]; go_simp
  have k_0_2 : W.cell? ⟨w.heap.size, 2, none⟩ = some (.int .i64 N) := by rw [hW]; go_simp
  have k_0_3 : W.cell? ⟨w.heap.size, 3, none⟩ = some (.int .i64 a) := by rw [hW]; go_simp
  have k_0_4 : W.cell? ⟨w.heap.size, 4, none⟩ = some (.int .i64 r) := by rw [hW]; go_simp
  have k_1_0 : W.cell? ⟨w.heap.size + 1, 0, none⟩ = some (.int .i64 T) := by rw [hW]; go_simp
  have k_1_1 : W.cell? ⟨w.heap.size + 1, 1, none⟩ = some (.int .i64 Ne) := by rw [hW]; go_simp
  have k_1_2 : W.cell? ⟨w.heap.size + 1, 2, none⟩ = some (.int .i64 H) := by rw [hW]; go_simp
  have k_1_3 : W.cell? ⟨w.heap.size + 1, 3, none⟩ = some (.int .i64 Vv) := by rw [hW]; go_simp
  have k_2_0 : W.cell? ⟨w.heap.size + 1 + 1, 0, none⟩ = some (.int .u16 b0) := by rw [hW]; go_simp
  have k_2_1 : W.cell? ⟨w.heap.size + 1 + 1, 1, none⟩ = some (.int .u16 b1) := by rw [hW]; go_simp
  have k_2_2 : W.cell? ⟨w.heap.size + 1 + 1, 2, none⟩ = some (.int .u16 b2) := by rw [hW]; go_simp
  have k_2_3 : W.cell? ⟨w.heap.size + 1 + 1, 3, none⟩ = some (.int .u16 b3) := by rw [hW]; go_simp
  have k_3_0 : W.cell? ⟨w3.heap.size, 0, none⟩ = some (.int .i64 T) := by rw [hW]; go_simp
  have k_3_1 : W.cell? ⟨w3.heap.size, 1, none⟩ = some (.int .i64 Ne) := by rw [hW]; go_simp
  have k_3_2 : W.cell? ⟨w3.heap.size, 2, none⟩ = some (.int .i64 H) := by rw [hW]; go_simp
  have k_3_3 : W.cell? ⟨w3.heap.size, 3, none⟩ = some (.int .i64 Vv) := by rw [hW]; go_simp
  have kf : ∀ i, W.frozen? ⟨w3.heap.size, i, none⟩ = false := fun i => by rw [hW]; go_simp
  rw [← hW]
  have HW := Lib.hid hW; clear hW
  have kf0 := kf 0
  have kf1 := kf 1
  have kf2 := kf 2
  have kf3 := kf 3
  clear hc1 hc2 hc3 hf1 hf2 hf3 kf
  have BW : Below w.heap.size w W := B3.trans (hBW.mono (by omega))
  have hsW : w3.heap.size + 1 ≤ W.heap.size := by rw [HW.out]; simp
  go_region
  go_wp2_with fail
  refine (t4.out _).mono ?_
  rintro e w4 ⟨rfl, hb4⟩
  have hc4 := (bcell hb4).1
  have hf4 := (bcell hb4).2
  have hs4 := hb4.size
  try simp at hs4
  have hz4_0 : w.heap.size < w4.heap.size := by omega
  have hz4_1 : w.heap.size + 1 < w4.heap.size := by omega
  have hz4_2 : w.heap.size + 2 < w4.heap.size := by omega
  have hz4_3 : w2.heap.size < w4.heap.size := by omega
  have hz4_4 : w3.heap.size < w4.heap.size := by omega
  have B4 : Below w.heap.size w w4 := (((BW.setCell (by first | omega | (simp; omega) | simp) _).setCell (by first | omega | (simp; omega) | simp) _).drew).trans (hb4.mono (by first | omega | (simp; omega) | simp))
  have m4_0_0 : w4.cell? ⟨w.heap.size, 0, none⟩ = some (.int .i64 R) := (hc4 _ _ (by first | omega | (simp; omega))).trans (by go_simp)
  have m4_0_1 : w4.cell? ⟨w.heap.size, 1, none⟩ = some (.int .i64 V) := (hc4 _ _ (by first | omega | (simp; omega))).trans (by go_simp)
  have m4_0_2 : w4.cell? ⟨w.heap.size, 2, none⟩ = some (.int .i64 N) := (hc4 _ _ (by first | omega | (simp; omega))).trans (by go_simp)
  have m4_0_3 : w4.cell? ⟨w.heap.size, 3, none⟩ = some (.int .i64 a) := (hc4 _ _ (by first | omega | (simp; omega))).trans (by go_simp)
  have m4_0_4 : w4.cell? ⟨w.heap.size, 4, none⟩ = some (.int .i64 r) := (hc4 _ _ (by first | omega | (simp; omega))).trans (by go_simp)
  have m4_1_0 : w4.cell? ⟨w.heap.size + 1, 0, none⟩ = some (.int .i64 T) := (hc4 _ _ (by first | omega | (simp; omega))).trans (by go_simp)
  have m4_1_1 : w4.cell? ⟨w.heap.size + 1, 1, none⟩ = some (.int .i64 Ne) := (hc4 _ _ (by first | omega | (simp; omega))).trans (by go_simp)
  have m4_1_2 : w4.cell? ⟨w.heap.size + 1, 2, none⟩ = some (.int .i64 H) := (hc4 _ _ (by first | omega | (simp; omega))).trans (by go_simp)
  have m4_1_3 : w4.cell? ⟨w.heap.size + 1, 3, none⟩ = some (.int .i64 Vv) := (hc4 _ _ (by first | omega | (simp; omega))).trans (by go_simp)
  have m4_2_0 : w4.cell? ⟨w.heap.size + 1 + 1, 0, none⟩ = some (.int .u16 b0) := (hc4 _ _ (by first | omega | (simp; omega))).trans (by go_simp)
  have m4_2_1 : w4.cell? ⟨w.heap.size + 1 + 1, 1, none⟩ = some (.int .u16 b1) := (hc4 _ _ (by first | omega | (simp; omega))).trans (by go_simp)
  have m4_2_2 : w4.cell? ⟨w.heap.size + 1 + 1, 2, none⟩ = some (.int .u16 b2) := (hc4 _ _ (by first | omega | (simp; omega))).trans (by go_simp)
  have m4_2_3 : w4.cell? ⟨w.heap.size + 1 + 1, 3, none⟩ = some (.int .u16 b3) := (hc4 _ _ (by first | omega | (simp; omega))).trans (by go_simp)
  have m4_3_0 : w4.cell? ⟨w3.heap.size, 0, none⟩ = some (.int .i64 (min 120 (T + b2 % 9))) := (hc4 _ _ (by first | omega | (simp; omega))).trans (by go_simp)
  have m4_3_1 : w4.cell? ⟨w3.heap.size, 1, none⟩ = some (.int .i64 (min 1024 (Ne + b3 % 9))) := (hc4 _ _ (by first | omega | (simp; omega))).trans (by go_simp)
  have m4_3_2 : w4.cell? ⟨w3.heap.size, 2, none⟩ = some (.int .i64 H) := (hc4 _ _ (by first | omega | (simp; omega))).trans (by go_simp)
  have m4_3_3 : w4.cell? ⟨w3.heap.size, 3, none⟩ = some (.int .i64 Vv) := (hc4 _ _ (by first | omega | (simp; omega))).trans (by go_simp)
  have mf4_0 : w4.frozen? ⟨w3.heap.size, 0, none⟩ = false := (hf4 _ _ (by first | omega | (simp; omega))).trans (by go_simp)
  have mf4_1 : w4.frozen? ⟨w3.heap.size, 1, none⟩ = false := (hf4 _ _ (by first | omega | (simp; omega))).trans (by go_simp)
  have mf4_2 : w4.frozen? ⟨w3.heap.size, 2, none⟩ = false := (hf4 _ _ (by first | omega | (simp; omega))).trans (by go_simp)
  have mf4_3 : w4.frozen? ⟨w3.heap.size, 3, none⟩ = false := (hf4 _ _ (by first | omega | (simp; omega))).trans (by go_simp)
  clear hc4 hf4 k_0_0 k_0_1 k_0_2 k_0_3 k_0_4 k_1_0 k_1_1 k_1_2 k_1_3 k_2_0 k_2_1 k_2_2 k_2_3 k_3_0 k_3_1 k_3_2 k_3_3 kf0 kf1 kf2 kf3
  go_wp2_with fail
  refine (t5.out _).mono ?_
  rintro e w5 ⟨rfl, hb5⟩
  have hc5 := (bcell hb5).1
  have hf5 := (bcell hb5).2
  have hs5 := hb5.size
  try simp at hs5
  have hz5_0 : w.heap.size < w5.heap.size := by omega
  have hz5_1 : w.heap.size + 1 < w5.heap.size := by omega
  have hz5_2 : w.heap.size + 2 < w5.heap.size := by omega
  have hz5_3 : w2.heap.size < w5.heap.size := by omega
  have hz5_4 : w3.heap.size < w5.heap.size := by omega
  have B5 : Below w.heap.size w w5 := (B4).trans (hb5.mono (by first | omega | (simp; omega) | simp))
  have m5_0_0 : w5.cell? ⟨w.heap.size, 0, none⟩ = some (.int .i64 R) := (hc5 _ _ (by first | omega | (simp; omega))).trans (by go_simp)
  have m5_0_1 : w5.cell? ⟨w.heap.size, 1, none⟩ = some (.int .i64 V) := (hc5 _ _ (by first | omega | (simp; omega))).trans (by go_simp)
  have m5_0_2 : w5.cell? ⟨w.heap.size, 2, none⟩ = some (.int .i64 N) := (hc5 _ _ (by first | omega | (simp; omega))).trans (by go_simp)
  have m5_0_3 : w5.cell? ⟨w.heap.size, 3, none⟩ = some (.int .i64 a) := (hc5 _ _ (by first | omega | (simp; omega))).trans (by go_simp)
  have m5_0_4 : w5.cell? ⟨w.heap.size, 4, none⟩ = some (.int .i64 r) := (hc5 _ _ (by first | omega | (simp; omega))).trans (by go_simp)
  have m5_1_0 : w5.cell? ⟨w.heap.size + 1, 0, none⟩ = some (.int .i64 T) := (hc5 _ _ (by first | omega | (simp; omega))).trans (by go_simp)
  have m5_1_1 : w5.cell? ⟨w.heap.size + 1, 1, none⟩ = some (.int .i64 Ne) := (hc5 _ _ (by first | omega | (simp; omega))).trans (by go_simp)
  have m5_1_2 : w5.cell? ⟨w.heap.size + 1, 2, none⟩ = some (.int .i64 H) := (hc5 _ _ (by first | omega | (simp; omega))).trans (by go_simp)
  have m5_1_3 : w5.cell? ⟨w.heap.size + 1, 3, none⟩ = some (.int .i64 Vv) := (hc5 _ _ (by first | omega | (simp; omega))).trans (by go_simp)
  have m5_2_0 : w5.cell? ⟨w.heap.size + 1 + 1, 0, none⟩ = some (.int .u16 b0) := (hc5 _ _ (by first | omega | (simp; omega))).trans (by go_simp)
  have m5_2_1 : w5.cell? ⟨w.heap.size + 1 + 1, 1, none⟩ = some (.int .u16 b1) := (hc5 _ _ (by first | omega | (simp; omega))).trans (by go_simp)
  have m5_2_2 : w5.cell? ⟨w.heap.size + 1 + 1, 2, none⟩ = some (.int .u16 b2) := (hc5 _ _ (by first | omega | (simp; omega))).trans (by go_simp)
  have m5_2_3 : w5.cell? ⟨w.heap.size + 1 + 1, 3, none⟩ = some (.int .u16 b3) := (hc5 _ _ (by first | omega | (simp; omega))).trans (by go_simp)
  have m5_3_0 : w5.cell? ⟨w3.heap.size, 0, none⟩ = some (.int .i64 (min 120 (T + b2 % 9))) := (hc5 _ _ (by first | omega | (simp; omega))).trans (by go_simp)
  have m5_3_1 : w5.cell? ⟨w3.heap.size, 1, none⟩ = some (.int .i64 (min 1024 (Ne + b3 % 9))) := (hc5 _ _ (by first | omega | (simp; omega))).trans (by go_simp)
  have m5_3_2 : w5.cell? ⟨w3.heap.size, 2, none⟩ = some (.int .i64 H) := (hc5 _ _ (by first | omega | (simp; omega))).trans (by go_simp)
  have m5_3_3 : w5.cell? ⟨w3.heap.size, 3, none⟩ = some (.int .i64 Vv) := (hc5 _ _ (by first | omega | (simp; omega))).trans (by go_simp)
  have mf5_0 : w5.frozen? ⟨w3.heap.size, 0, none⟩ = false := (hf5 _ _ (by first | omega | (simp; omega))).trans (by go_simp)
  have mf5_1 : w5.frozen? ⟨w3.heap.size, 1, none⟩ = false := (hf5 _ _ (by first | omega | (simp; omega))).trans (by go_simp)
  have mf5_2 : w5.frozen? ⟨w3.heap.size, 2, none⟩ = false := (hf5 _ _ (by first | omega | (simp; omega))).trans (by go_simp)
  have mf5_3 : w5.frozen? ⟨w3.heap.size, 3, none⟩ = false := (hf5 _ _ (by first | omega | (simp; omega))).trans (by go_simp)
  clear hc5 hf5 m4_0_0 m4_0_1 m4_0_2 m4_0_3 m4_0_4 m4_1_0 m4_1_1 m4_1_2 m4_1_3 m4_2_0 m4_2_1 m4_2_2 m4_2_3 m4_3_0 m4_3_1 m4_3_2 m4_3_3 mf4_0 mf4_1 mf4_2 mf4_3
  go_wp2_with fail
  go_ret
  exact ⟨rfl, B5⟩

theorem monotone_ (R V N a r T Ne H Vv b0 b1 b2 b3 : Int) (w : World) (hb0 : 0 ≤ b0 ∧ b0 ≤ 65535) (hb1 : 0 ≤ b1 ∧ b1 ≤ 65535) (hb2 : 0 ≤ b2 ∧ b2 ≤ 65535) (hb3 : 0 ≤ b3 ∧ b3 ≤ 65535) : Calls Try.prog 4 #[.agg #[.int .i64 R, .int .i64 V, .int .i64 N, .int .i64 a, .int .i64 r], .agg #[.int .i64 T, .int .i64 Ne, .int .i64 H, .int .i64 Vv], .agg #[.int .u16 b0, .int .u16 b1, .int .u16 b2, .int .u16 b3]] w fun e w' => e = .returned (.bool true) ∧ Below w.heap.size w w' := by
  by_cases h : okX R V N ∧ okL T Ne H Vv
  · obtain ⟨hx, hl⟩ := h
    have hx' := okX_dn hx hb0.1 hb1.1
    have hl' := okL_up (a := b2 % 9) (b := b3 % 9) (c := 0) (d := 0) hl (by omega) (by omega) (by omega) (by omega)
    have hl'' := okL_up (a := b2 % 9) (b := b3 % 9) (c := b1) (d := b3 % 9) hl (by omega) (by omega) (by omega) (by omega)
    have q1 : min 10000 (H + 0) = H := by have := hl.2.2.2.2.2.2; omega
    have q2 : min 120 (Vv + 0) = Vv := by have := hl.2.2.2; omega
    rw [q1, q2] at hl'
    have c1 := horiz11' R V N T Ne H Vv (b := hz R V T Ne) (e := 0) (by unfold hoB; rw [if_pos ⟨hx, hl⟩]) (by unfold hoE; rw [if_pos ⟨hx, hl⟩])
    have c3 := horiz11' (max 0 (R - b0)) (max (-16384) (V - b1)) N T Ne H Vv (b := hz (max 0 (R - b0)) (max (-16384) (V - b1)) T Ne) (e := 0) (by unfold hoB; rw [if_pos ⟨hx', hl⟩]) (by unfold hoE; rw [if_pos ⟨hx', hl⟩])
    have c4 := horiz11' R V N (min 120 (T + b2 % 9)) (min 1024 (Ne + b3 % 9)) H Vv (b := hz R V (min 120 (T + b2 % 9)) (min 1024 (Ne + b3 % 9))) (e := 0) (by unfold hoB; rw [if_pos ⟨hx, hl'⟩]) (by unfold hoE; rw [if_pos ⟨hx, hl'⟩])
    have hAB : hz R V T Ne = true → hz (max 0 (R - b0)) (max (-16384) (V - b1)) T Ne = true ∧ hz R V (min 120 (T + b2 % 9)) (min 1024 (Ne + b3 % 9)) = true := fun g =>
      ⟨hz_dn R V T Ne _ _ hl.1 hl.2.2.2.2.1 (by omega) (by have := hx.1; omega) (by have := hx.2.2.1; omega) g, hz_up R V T Ne _ _ hx.1 hl.2.2.2.2.1 (by have := hl.2.1; omega) (by have := hl.2.2.2.2.2.1; omega) g⟩
    by_cases hA : okA a r
    · have hn := okA_near a r b0 hA hb0.1
      have c5 := vert13' a r T Ne H Vv (b := vt a r H Vv) (e := 0) (by unfold veB; rw [if_pos ⟨hA, hl⟩]) (by unfold veE; rw [if_pos ⟨hA, hl⟩])
      have c6 := vert13' (nearA a b0) r T Ne H Vv (b := vt (nearA a b0) r H Vv) (e := 0) (by unfold veB; rw [if_pos ⟨hn, hl⟩]) (by unfold veE; rw [if_pos ⟨hn, hl⟩])
      have c7 := vert13' a r (min 120 (T + b2 % 9)) (min 1024 (Ne + b3 % 9)) (min 10000 (H + b1)) (min 120 (Vv + b3 % 9)) (b := vt a r (min 10000 (H + b1)) (min 120 (Vv + b3 % 9))) (e := 0) (by unfold veB; rw [if_pos ⟨hA, hl''⟩]) (by unfold veE; rw [if_pos ⟨hA, hl''⟩])
      have hDO : vt a r H Vv = true → vt (nearA a b0) r H Vv = true ∧ vt a r (min 10000 (H + b1)) (min 120 (Vv + b3 % 9)) = true := fun g =>
        ⟨vt_dn a r H Vv b0 hl.2.2.2.2.2.2.1 hb0.1 g, vt_up a r H Vv _ _ (by have := hl.2.2.2.2.2.2.2; omega) (by have := hl.2.2.2.1; omega) g⟩
      cases hzA : hz R V T Ne
      · rw [hzA] at c1
        cases hvD : vt a r H Vv
        · rw [hvD] at c5
          exact mono4_1 R V N a r T Ne H Vv b0 b1 b2 b3 _ _ _ _ _ w c1 c3 c4 c5 c6 c7 rfl hx hA hl hb0 hb1 hb2 hb3
        · obtain ⟨p1, p2⟩ := hDO hvD
          rw [hvD] at c5; rw [p1] at c6; rw [p2] at c7
          exact mono4_2 R V N a r T Ne H Vv b0 b1 b2 b3 _ _ _ w c1 c3 c4 c5 c6 c7 rfl hx hA hl hb0 hb1 hb2 hb3
      · obtain ⟨p1, p2⟩ := hAB hzA
        rw [hzA] at c1; rw [p1] at c3; rw [p2] at c4
        cases hvD : vt a r H Vv
        · rw [hvD] at c5
          exact mono4_3 R V N a r T Ne H Vv b0 b1 b2 b3 _ _ _ w c1 c3 c4 c5 c6 c7 rfl hx hA hl hb0 hb1 hb2 hb3
        · obtain ⟨p1, p2⟩ := hDO hvD
          rw [hvD] at c5; rw [p1] at c6; rw [p2] at c7
          by_cases ha : a < 0
          · exact mono4_4 R V N a r T Ne H Vv b0 b1 b2 b3 _ w c1 c3 c4 c5 c6 c7 rfl ha hx hA hl hb0 hb1 hb2 hb3
          · exact mono4_5 R V N a r T Ne H Vv b0 b1 b2 b3 _ w c1 c3 c4 c5 c6 c7 rfl ha hx hA hl hb0 hb1 hb2 hb3
    · have c5 := vert13' a r T Ne H Vv (b := false) (e := 1) (by unfold veB; rw [if_neg (fun g => hA g.1)]) (by unfold veE; rw [if_neg (fun g => hA g.1)])
      cases hzA : hz R V T Ne
      · rw [hzA] at c1
        exact monoV0 R V N a r T Ne H Vv b0 b1 b2 b3 _ _ w c1 c3 c4 c5 hx hl hb0 hb1 hb2 hb3
      · obtain ⟨p1, p2⟩ := hAB hzA
        rw [hzA] at c1; rw [p1] at c3; rw [p2] at c4
        exact monoV1 R V N a r T Ne H Vv b0 b1 b2 b3 w c1 c3 c4 c5 hx hl hb0 hb1 hb2 hb3
  · exact monoE R V N a r T Ne H Vv b0 b1 b2 b3 w h

namespace tauMonotoneRow
open Go.ChangeShapes Go.WideShapes Go.ChangeAt Go.RowKit
open Go.ChangeMaps (open_string shut_string)
set_option linter.unusedVariables false
theorem own : ownKnob Try.prog.godebug = none := by kernel_rfl
theorem laidOut : laidOutB Try.prog = true := by kernel_rfl
set_option maxRecDepth 100000 in
theorem lifted (os : Os) (started : os.Started) (H : Type) (enc : TypeId × Value → H) :
    ReturnsInHanded {} Try.checked os 4 .any (Rows.tauMonotoneSpec.pre6 enc Try.prog Try.f4 Rows.tauMonotoneRow.domain false) (Rows.tauMonotoneSpec.post enc Try.prog Try.f4 false true false false) := by
  refine returnsInHanded_of_change (C := Try.checked) own started (by kernel_rfl) Try.func4
    (ChangeSpec.witness6 (enc := enc) (C := Try.checked) false ⟨#[], #[.agg #[.int .i64 0, .int .i64 0, .int .i64 0, .int .i64 0, .int .i64 0], .agg #[.int .i64 0, .int .i64 0, .int .i64 0, .int .i64 0], .agg #[.int .u16 0, .int .u16 0, .int .u16 0, .int .u16 0]], []⟩ 8 (by kernel_rfl) (by kernel_rfl) (by kernel_rfl) (by kernel_rfl)) ?_
  intro W base args ds gs before hval0 hW hcnd _hsz
  have hval : ∀ (j : Nat) t v, Try.f4.params[j]? = some t → args[j]? = some v → Value.okWide Try.prog W .any base t v := hval0
  have hW' := hW
  obtain ⟨p, q, hA0, hV, rfl, hfz, hnd⟩ := hW
  have hA : DataW.TrodAll enc Try.prog W 0 (fun _ => true) true Try.f4.params.toList args.toList ds p := hA0
  rw [Try.params4] at hA hval
  obtain ⟨v0, vs0, d0, ds0, p0, q0, hargs, rfl, rfl, h0, r0⟩ := trodAll_cons hA
  obtain ⟨v1, vs1, d1, ds1, p1, q1, rfl, rfl, rfl, h1, r1⟩ := trodAll_cons r0
  obtain ⟨v2, vs2, d2, ds2, p2, q2, rfl, rfl, rfl, h2, r2⟩ := trodAll_cons r1
  obtain ⟨rfl, rfl, rfl⟩ := trodAll_nil r2
  obtain rfl : args = #[v0, v1, v2] := by cases args; simp_all
  obtain ⟨rfl, rfl⟩ := trodVars_none hV
  have k0 := h0
  have lt0 : ∀ x ∈ p0, x.block < W.heap.size := by obtain ⟨m, hm⟩ := k0; exact DataW.trod_lt m _ _ _ hm
  have k1 := h1
  have lt1 : ∀ x ∈ p1, x.block < W.heap.size := by obtain ⟨m, hm⟩ := k1; exact DataW.trod_lt m _ _ _ hm
  have k2 := h2
  have lt2 : ∀ x ∈ p2, x.block < W.heap.size := by obtain ⟨m, hm⟩ := k2; exact DataW.trod_lt m _ _ _ hm
  obtain ⟨cs0, rfl, i0⟩ := open_leaves 9 [.i64, .i64, .i64, .i64, .i64] (by kernel_rfl) (by kernel_rfl) (hval 0 25 v0 rfl rfl) h0
  obtain ⟨a0_0, c0_0, rfl, w0_0, i0_0⟩ := i0
  obtain ⟨a0_1, c0_1, rfl, w0_1, i0_1⟩ := i0_0
  obtain ⟨a0_2, c0_2, rfl, w0_2, i0_2⟩ := i0_1
  obtain ⟨a0_3, c0_3, rfl, w0_3, i0_3⟩ := i0_2
  obtain ⟨a0_4, c0_4, rfl, w0_4, i0_4⟩ := i0_3
  obtain rfl : c0_4 = [] := i0_4
  obtain ⟨cs1, rfl, i1⟩ := open_leaves 9 [.i64, .i64, .i64, .i64] (by kernel_rfl) (by kernel_rfl) (hval 1 27 v1 rfl rfl) h1
  obtain ⟨a1_0, c1_0, rfl, w1_0, i1_0⟩ := i1
  obtain ⟨a1_1, c1_1, rfl, w1_1, i1_1⟩ := i1_0
  obtain ⟨a1_2, c1_2, rfl, w1_2, i1_2⟩ := i1_1
  obtain ⟨a1_3, c1_3, rfl, w1_3, i1_3⟩ := i1_2
  obtain rfl : c1_3 = [] := i1_3
  obtain ⟨cs2, rfl, i2⟩ := open_leaves 9 [.u16, .u16, .u16, .u16] (by kernel_rfl) (by kernel_rfl) (hval 2 37 v2 rfl rfl) h2
  obtain ⟨a2_0, c2_0, rfl, w2_0, i2_0⟩ := i2
  obtain ⟨a2_1, c2_1, rfl, w2_1, i2_1⟩ := i2_0
  obtain ⟨a2_2, c2_2, rfl, w2_2, i2_2⟩ := i2_1
  obtain ⟨a2_3, c2_3, rfl, w2_3, i2_3⟩ := i2_2
  obtain rfl : c2_3 = [] := i2_3
  clear hA0 hval0
  refine (monotone_ a0_0 a0_1 a0_2 a0_3 a0_4 a1_0 a1_1 a1_2 a1_3 a2_0 a2_1 a2_2 a2_3 W (bounds_u16 w2_0) (bounds_u16 w2_1) (bounds_u16 w2_2) (bounds_u16 w2_3)).mono fun e W' ⟨he, bel⟩ => ?_
  subst he
  exact ⟨_, rfl, _, _, _, [], _, [], hW', trodAll_mk1 (shut_bool Try.underlying4 _), (trodAll_cons_mk (Below.trod laidOut (by kernel_rfl) (of_decide_eq_true (by kernel_rfl)) k0 bel lt0) (trodAll_cons_mk (Below.trod laidOut (by kernel_rfl) (of_decide_eq_true (by kernel_rfl)) k1 bel lt1) (trodAll_cons_mk (Below.trod laidOut (by kernel_rfl) (of_decide_eq_true (by kernel_rfl)) k2 bel lt2) trodAll_mk0))), rfl, bel.frame _, fun h => by cases h⟩

theorem over : Rows.tauMonotoneRow.holds Try.pinned (OpenSpec.ofChange Rows.tauMonotoneSpec) :=
  OpenClaim.holds_of_wide 4 Try.f4 rfl rfl rfl rfl rfl rfl rfl ⟨rfl, rfl, rfl, rfl, rfl⟩ rfl rfl rfl rfl rfl (by kernel_rfl) Try.func4 (by kernel_rfl)
    (of_decide_eq_true (by kernel_rfl)) (by unfold Func.isWrapper; first | (rw [if_pos (by decide +kernel)]; kernel_rfl) | (rw [if_neg (by decide +kernel)]; exact ⟨rfl, rfl⟩))
    (fun os started H enc _ => lifted os started H enc)
theorem proved : Rows.TauMonotoneSaid := over
end tauMonotoneRow
end Go.Proofs.Ytbonniladhablaa
