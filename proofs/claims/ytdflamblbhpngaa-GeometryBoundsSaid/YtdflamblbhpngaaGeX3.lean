/- GeometryBounds returns true for every input. -/
import Derived.Test.YtdflamblbhpngaaRows
import Derived.WalkKit
import Derived.WalkLawsBesides
import Derived.WalkSpells
import Derived.ProofKit
import Derived.Below
import Derived.Outline
import Derived.Lib.Hide
import Derived.Deep.RegionWith
import Derived.Deep.RegionHeld3
import Derived.Deep.DrawnRows
import Derived.StillTailTactics
import Derived.BigQuiet
import Derived.Deep.QuietTactic
import Derived.Deep.LoopGhost
import Derived.IntWalk
import Derived.Test.YtdflamblbhpngaaGeW
import Derived.Test.YtdflamblbhpngaaKO
import Derived.WalkKit
import Derived.ProofKit
import Derived.OpenShut
import Derived.ShutString
import Derived.ChangeOld
import Derived.Below
import Derived.Lib.SmallJoins
namespace Go.Proofs.Ytdflamblbhpngaa
open Go.RowKit
attribute [local go_sem ↓] Go.wp_at_zero Go.wp_at_succ
attribute [local go_sem] wrap_lit

set_option maxRecDepth 100000 in
set_option maxHeartbeats 4000000 in
theorem boundsE (p q v u : V3) (d t a b : Int) (w : World) (T0 : Hid (∀ w, Calls Try.prog 16 #[.agg #[.int .i64 p.x, .int .i64 p.y, .int .i64 p.z], .agg #[.int .i64 q.x, .int .i64 q.y, .int .i64 q.z], .agg #[.int .i64 v.x, .int .i64 v.y, .int .i64 v.z], .agg #[.int .i64 u.x, .int .i64 u.y, .int .i64 u.z], .int .i64 d, .int .i64 t] w fun e w' => e = .returned (.tuple #[.bool false, .int .i64 1]) ∧ Below w.heap.size w w')) : Calls Try.prog 4 #[.agg #[.int .i64 p.x, .int .i64 p.y, .int .i64 p.z, .int .i64 q.x, .int .i64 q.y, .int .i64 q.z, .int .i64 v.x, .int .i64 v.y, .int .i64 v.z, .int .i64 u.x, .int .i64 u.y, .int .i64 u.z], .int .i64 d, .int .i64 t, .agg #[.int .u8 a, .int .u8 b]] w fun e w' => e = .returned (.bool true) ∧ Below w.heap.size w w' := by
  go_enter Try.func4, Try.ntmps4
  go_wp2_with fail
  refine (T0.out _).mono ?_
  rintro e w1 ⟨rfl, hb1⟩
  have hc1 := (bcell hb1).1
  have hf1 := (bcell hb1).2
  have hs1 := hb1.size
  try simp at hs1
  have hz1_0 : w.heap.size < w1.heap.size := by omega
  have hz1_1 : w.heap.size + 1 < w1.heap.size := by omega
  have B1 : Below w.heap.size w w1 := (((Below.refl _ _).alloc (Nat.le_refl _) _).alloc (by first | omega | (simp; omega) | simp) _).trans (hb1.mono (by first | omega | (simp; omega) | simp))
  go_wp2_with fail
  refine (awake18 _).mono ?_
  rintro e w2 ⟨rfl, hb2⟩
  have hc2 := (bcell hb2).1
  have hf2 := (bcell hb2).2
  have hs2 := hb2.size
  try simp at hs2
  have hz2_0 : w.heap.size < w2.heap.size := by omega
  have hz2_1 : w.heap.size + 1 < w2.heap.size := by omega
  have B2 : Below w.heap.size w w2 := (B1).trans (hb2.mono (by first | omega | (simp; omega) | simp))
  go_wp2_with fail
  go_ret
  exact ⟨rfl, B2⟩

set_option maxRecDepth 100000 in
set_option maxHeartbeats 4000000 in
theorem boundsF (p q v u : V3) (d t a b n m M : Int) (b1 b2 : Bool) (e1 e2 : Int) (w : World) (ha : 0 ≤ a ∧ a ≤ 255) (hb : 0 ≤ b ∧ b ≤ 255) (hd : 0 ≤ d ∧ d ≤ 32768) (ht : 0 ≤ t ∧ t ≤ 3600)
    (T0 : Hid (∀ w, Calls Try.prog 16 #[.agg #[.int .i64 p.x, .int .i64 p.y, .int .i64 p.z], .agg #[.int .i64 q.x, .int .i64 q.y, .int .i64 q.z], .agg #[.int .i64 v.x, .int .i64 v.y, .int .i64 v.z], .agg #[.int .i64 u.x, .int .i64 u.y, .int .i64 u.z], .int .i64 d, .int .i64 t] w fun e w' => e = .returned (.tuple #[.bool false, .int .i64 0]) ∧ Below w.heap.size w w')) (T1 : Hid (∀ w, Calls Try.prog 16 #[.agg #[.int .i64 p.x, .int .i64 p.y, .int .i64 p.z], .agg #[.int .i64 q.x, .int .i64 q.y, .int .i64 q.z], .agg #[.int .i64 v.x, .int .i64 v.y, .int .i64 v.z], .agg #[.int .i64 u.x, .int .i64 u.y, .int .i64 u.z], .int .i64 (d + a), .int .i64 t] w fun e w' => e = .returned (.tuple #[.bool b1, .int .i64 e1]) ∧ Below w.heap.size w w')) (T2 : Hid (∀ w, Calls Try.prog 16 #[.agg #[.int .i64 p.x, .int .i64 p.y, .int .i64 p.z], .agg #[.int .i64 q.x, .int .i64 q.y, .int .i64 q.z], .agg #[.int .i64 v.x, .int .i64 v.y, .int .i64 v.z], .agg #[.int .i64 u.x, .int .i64 u.y, .int .i64 u.z], .int .i64 d, .int .i64 (t + b)] w fun e w' => e = .returned (.tuple #[.bool b2, .int .i64 e2]) ∧ Below w.heap.size w w'))
    (he1 : e1 = 0 ∨ e1 = 1) (he2 : e2 = 0 ∨ e2 = 1) 
    (T3 : Hid (∀ w, Calls Try.prog 12 #[.agg #[.int .i64 p.x, .int .i64 p.y, .int .i64 p.z], .agg #[.int .i64 q.x, .int .i64 q.y, .int .i64 q.z], .agg #[.int .i64 v.x, .int .i64 v.y, .int .i64 v.z], .agg #[.int .i64 u.x, .int .i64 u.y, .int .i64 u.z]] w fun e w' => e = .returned (.tuple #[.int .i64 n, .int .i64 m, .int .i64 0]) ∧ Below w.heap.size w w'))
    (T4 : Hid (∀ w, Calls Try.prog 14 #[.agg #[.int .i64 p.x, .int .i64 p.y, .int .i64 p.z], .agg #[.int .i64 q.x, .int .i64 q.y, .int .i64 q.z], .agg #[.int .i64 v.x, .int .i64 v.y, .int .i64 v.z], .agg #[.int .i64 u.x, .int .i64 u.y, .int .i64 u.z]] w fun e w' => e = .returned (.tuple #[.int .i64 M, .int .i64 0]) ∧ Below w.heap.size w w'))
    (hn : 0 ≤ n ∧ n ≤ 10000000000000) (hm : 1 ≤ m ∧ m ≤ 10000000000000) (hM : 0 ≤ M ∧ M < 32768)
    (T5 : n ≤ 3600 * m → Hid (∀ w, Calls Try.prog 19 #[.agg #[.int .i64 p.x, .int .i64 p.y, .int .i64 p.z, .int .i64 q.x, .int .i64 q.y, .int .i64 q.z, .int .i64 v.x, .int .i64 v.y, .int .i64 v.z, .int .i64 u.x, .int .i64 u.y, .int .i64 u.z], .int .i64 (M + 1), .int .i64 ((n + m - 1) / m), .bool true] w fun e w' => e = .returned (.bool true) ∧ Below w.heap.size w w'))
    (T6 : n ≤ 3600 * m → Hid (∀ w, Calls Try.prog 19 #[.agg #[.int .i64 p.x, .int .i64 p.y, .int .i64 p.z, .int .i64 q.x, .int .i64 q.y, .int .i64 q.z, .int .i64 v.x, .int .i64 v.y, .int .i64 v.z, .int .i64 u.x, .int .i64 u.y, .int .i64 u.z], .int .i64 M, .int .i64 3600, .bool false] w fun e w' => e = .returned (.bool true) ∧ Below w.heap.size w w')) : Calls Try.prog 4 #[.agg #[.int .i64 p.x, .int .i64 p.y, .int .i64 p.z, .int .i64 q.x, .int .i64 q.y, .int .i64 q.z, .int .i64 v.x, .int .i64 v.y, .int .i64 v.z, .int .i64 u.x, .int .i64 u.y, .int .i64 u.z], .int .i64 d, .int .i64 t, .agg #[.int .u8 a, .int .u8 b]] w fun e w' => e = .returned (.bool true) ∧ Below w.heap.size w w' := by
  obtain ⟨a0, a1⟩ := ha
  obtain ⟨b0, b1'⟩ := hb
  obtain ⟨d0, d1⟩ := hd
  obtain ⟨t0, t1⟩ := ht
  obtain ⟨n0, n1⟩ := hn
  obtain ⟨m0, m1⟩ := hm
  obtain ⟨M0, M1⟩ := hM
  have q0 : (n + m - 1).tdiv m = (n + m - 1) / m := Int.tdiv_eq_ediv_of_nonneg (by omega)
  have q2 : 0 ≤ (n + m - 1) / m := Int.ediv_nonneg (by omega) (by omega)
  have q3 : (n + m - 1) / m ≤ n + m - 1 := Int.ediv_le_self _ (by omega)
  have q1 : IntKind.i64.wrap ((n + m - 1) / m) = (n + m - 1) / m := IntWalk.i64_in _ (by omega)
  have q4 : (m == 0) = false := by simp; omega
  have q5 : ¬ m = 0 := by omega
  have q6 : ¬ m < 1 := by omega
  go_enter Try.func4, Try.ntmps4
  go_wp2_with fail
  refine (T0.out _).mono ?_
  rintro e w1 ⟨rfl, hb1⟩
  have hc1 := (bcell hb1).1
  have hf1 := (bcell hb1).2
  have hs1 := hb1.size
  try simp at hs1
  have hz1_0 : w.heap.size < w1.heap.size := by omega
  have hz1_1 : w.heap.size + 1 < w1.heap.size := by omega
  have B1 : Below w.heap.size w w1 := (((Below.refl _ _).alloc (Nat.le_refl _) _).alloc (by first | omega | (simp; omega) | simp) _).trans (hb1.mono (by first | omega | (simp; omega) | simp))
  go_wp2_with fail
  refine (awake18 _).mono ?_
  rintro e w2 ⟨rfl, hb2⟩
  have hc2 := (bcell hb2).1
  have hf2 := (bcell hb2).2
  have hs2 := hb2.size
  try simp at hs2
  have hz2_0 : w.heap.size < w2.heap.size := by omega
  have hz2_1 : w.heap.size + 1 < w2.heap.size := by omega
  have B2 : Below w.heap.size w w2 := (B1).trans (hb2.mono (by first | omega | (simp; omega) | simp))
  go_wp2_with fail
  refine (T1.out _).mono ?_
  rintro e w3 ⟨rfl, hb3⟩
  have hc3 := (bcell hb3).1
  have hf3 := (bcell hb3).2
  have hs3 := hb3.size
  try simp at hs3
  have hz3_0 : w.heap.size < w3.heap.size := by omega
  have hz3_1 : w.heap.size + 1 < w3.heap.size := by omega
  have B3 : Below w.heap.size w w3 := (B2).trans (hb3.mono (by first | omega | (simp; omega) | simp))
  go_wp2_with fail
  refine (T2.out _).mono ?_
  rintro e w4 ⟨rfl, hb4⟩
  have hc4 := (bcell hb4).1
  have hf4 := (bcell hb4).2
  have hs4 := hb4.size
  try simp at hs4
  have hz4_0 : w.heap.size < w4.heap.size := by omega
  have hz4_1 : w.heap.size + 1 < w4.heap.size := by omega
  have B4 : Below w.heap.size w w4 := (B3).trans (hb4.mono (by first | omega | (simp; omega) | simp))
  rcases he1 with rfl | rfl <;> rcases he2 with rfl | rfl
  all_goals
    go_wp2_with fail
    refine (T3.out _).mono ?_
    rintro e w5 ⟨rfl, hb5⟩
    have hc5 := (bcell hb5).1
    have hf5 := (bcell hb5).2
    have hs5 := hb5.size
    try simp at hs5
    have hz5_0 : w.heap.size < w5.heap.size := by omega
    have hz5_1 : w.heap.size + 1 < w5.heap.size := by omega
    have B5 : Below w.heap.size w w5 := (B4).trans (hb5.mono (by first | omega | (simp; omega) | simp))
    go_wp2_with fail
    refine (T4.out _).mono ?_
    rintro e w6 ⟨rfl, hb6⟩
    have hc6 := (bcell hb6).1
    have hf6 := (bcell hb6).2
    have hs6 := hb6.size
    try simp at hs6
    have hz6_0 : w.heap.size < w6.heap.size := by omega
    have hz6_1 : w.heap.size + 1 < w6.heap.size := by omega
    have B6 : Below w.heap.size w w6 := (B5).trans (hb6.mono (by first | omega | (simp; omega) | simp))
    by_cases hc : 3600 * m < n
    · go_wp2_with fail
      go_ret
      exact ⟨rfl, B6⟩
    · have hc' : n ≤ 3600 * m := by omega
      have U5 := T5 hc'
      have U6 := T6 hc'
      clear T5 T6 hc
      go_wp2_with fail
      refine (U5.out _).mono ?_
      rintro e w7 ⟨rfl, hb7⟩
      have hc7 := (bcell hb7).1
      have hf7 := (bcell hb7).2
      have hs7 := hb7.size
      try simp at hs7
      have hz7_0 : w.heap.size < w7.heap.size := by omega
      have hz7_1 : w.heap.size + 1 < w7.heap.size := by omega
      have B7 : Below w.heap.size w w7 := (B6).trans (hb7.mono (by first | omega | (simp; omega) | simp))
      go_wp2_with fail
      refine (U6.out _).mono ?_
      rintro e w8 ⟨rfl, hb8⟩
      have hc8 := (bcell hb8).1
      have hf8 := (bcell hb8).2
      have hs8 := hb8.size
      try simp at hs8
      have hz8_0 : w.heap.size < w8.heap.size := by omega
      have hz8_1 : w.heap.size + 1 < w8.heap.size := by omega
      have B8 : Below w.heap.size w w8 := (B7).trans (hb8.mono (by first | omega | (simp; omega) | simp))
      go_wp2_with fail
      go_ret
      exact ⟨rfl, B8⟩

set_option maxRecDepth 100000 in
set_option maxHeartbeats 4000000 in
theorem boundsT (p q v u : V3) (d t a b n m M : Int) (b1 b2 : Bool) (e1 e2 : Int) (w : World) (ha : 0 ≤ a ∧ a ≤ 255) (hb : 0 ≤ b ∧ b ≤ 255) (hd : 0 ≤ d ∧ d ≤ 32768) (ht : 0 ≤ t ∧ t ≤ 3600)
    (T0 : Hid (∀ w, Calls Try.prog 16 #[.agg #[.int .i64 p.x, .int .i64 p.y, .int .i64 p.z], .agg #[.int .i64 q.x, .int .i64 q.y, .int .i64 q.z], .agg #[.int .i64 v.x, .int .i64 v.y, .int .i64 v.z], .agg #[.int .i64 u.x, .int .i64 u.y, .int .i64 u.z], .int .i64 d, .int .i64 t] w fun e w' => e = .returned (.tuple #[.bool true, .int .i64 0]) ∧ Below w.heap.size w w')) (T1 : Hid (∀ w, Calls Try.prog 16 #[.agg #[.int .i64 p.x, .int .i64 p.y, .int .i64 p.z], .agg #[.int .i64 q.x, .int .i64 q.y, .int .i64 q.z], .agg #[.int .i64 v.x, .int .i64 v.y, .int .i64 v.z], .agg #[.int .i64 u.x, .int .i64 u.y, .int .i64 u.z], .int .i64 (d + a), .int .i64 t] w fun e w' => e = .returned (.tuple #[.bool b1, .int .i64 e1]) ∧ Below w.heap.size w w')) (T2 : Hid (∀ w, Calls Try.prog 16 #[.agg #[.int .i64 p.x, .int .i64 p.y, .int .i64 p.z], .agg #[.int .i64 q.x, .int .i64 q.y, .int .i64 q.z], .agg #[.int .i64 v.x, .int .i64 v.y, .int .i64 v.z], .agg #[.int .i64 u.x, .int .i64 u.y, .int .i64 u.z], .int .i64 d, .int .i64 (t + b)] w fun e w' => e = .returned (.tuple #[.bool b2, .int .i64 e2]) ∧ Below w.heap.size w w'))
    (he1 : e1 = 0 ∨ e1 = 1) (he2 : e2 = 0 ∨ e2 = 1) (L1 : e1 = 0 → b1 = true) (L2 : e2 = 0 → b2 = true)
    (T3 : Hid (∀ w, Calls Try.prog 12 #[.agg #[.int .i64 p.x, .int .i64 p.y, .int .i64 p.z], .agg #[.int .i64 q.x, .int .i64 q.y, .int .i64 q.z], .agg #[.int .i64 v.x, .int .i64 v.y, .int .i64 v.z], .agg #[.int .i64 u.x, .int .i64 u.y, .int .i64 u.z]] w fun e w' => e = .returned (.tuple #[.int .i64 n, .int .i64 m, .int .i64 0]) ∧ Below w.heap.size w w'))
    (T4 : Hid (∀ w, Calls Try.prog 14 #[.agg #[.int .i64 p.x, .int .i64 p.y, .int .i64 p.z], .agg #[.int .i64 q.x, .int .i64 q.y, .int .i64 q.z], .agg #[.int .i64 v.x, .int .i64 v.y, .int .i64 v.z], .agg #[.int .i64 u.x, .int .i64 u.y, .int .i64 u.z]] w fun e w' => e = .returned (.tuple #[.int .i64 M, .int .i64 0]) ∧ Below w.heap.size w w'))
    (hn : 0 ≤ n ∧ n ≤ 10000000000000) (hm : 1 ≤ m ∧ m ≤ 10000000000000) (hM : 0 ≤ M ∧ M < 32768)
    (T5 : n ≤ 3600 * m → Hid (∀ w, Calls Try.prog 19 #[.agg #[.int .i64 p.x, .int .i64 p.y, .int .i64 p.z, .int .i64 q.x, .int .i64 q.y, .int .i64 q.z, .int .i64 v.x, .int .i64 v.y, .int .i64 v.z, .int .i64 u.x, .int .i64 u.y, .int .i64 u.z], .int .i64 (M + 1), .int .i64 ((n + m - 1) / m), .bool true] w fun e w' => e = .returned (.bool true) ∧ Below w.heap.size w w'))
    (T6 : n ≤ 3600 * m → Hid (∀ w, Calls Try.prog 19 #[.agg #[.int .i64 p.x, .int .i64 p.y, .int .i64 p.z, .int .i64 q.x, .int .i64 q.y, .int .i64 q.z, .int .i64 v.x, .int .i64 v.y, .int .i64 v.z, .int .i64 u.x, .int .i64 u.y, .int .i64 u.z], .int .i64 M, .int .i64 3600, .bool false] w fun e w' => e = .returned (.bool true) ∧ Below w.heap.size w w')) : Calls Try.prog 4 #[.agg #[.int .i64 p.x, .int .i64 p.y, .int .i64 p.z, .int .i64 q.x, .int .i64 q.y, .int .i64 q.z, .int .i64 v.x, .int .i64 v.y, .int .i64 v.z, .int .i64 u.x, .int .i64 u.y, .int .i64 u.z], .int .i64 d, .int .i64 t, .agg #[.int .u8 a, .int .u8 b]] w fun e w' => e = .returned (.bool true) ∧ Below w.heap.size w w' := by
  obtain ⟨a0, a1⟩ := ha
  obtain ⟨b0, b1'⟩ := hb
  obtain ⟨d0, d1⟩ := hd
  obtain ⟨t0, t1⟩ := ht
  obtain ⟨n0, n1⟩ := hn
  obtain ⟨m0, m1⟩ := hm
  obtain ⟨M0, M1⟩ := hM
  have q0 : (n + m - 1).tdiv m = (n + m - 1) / m := Int.tdiv_eq_ediv_of_nonneg (by omega)
  have q2 : 0 ≤ (n + m - 1) / m := Int.ediv_nonneg (by omega) (by omega)
  have q3 : (n + m - 1) / m ≤ n + m - 1 := Int.ediv_le_self _ (by omega)
  have q1 : IntKind.i64.wrap ((n + m - 1) / m) = (n + m - 1) / m := IntWalk.i64_in _ (by omega)
  have q4 : (m == 0) = false := by simp; omega
  have q5 : ¬ m = 0 := by omega
  have q6 : ¬ m < 1 := by omega
  go_enter Try.func4, Try.ntmps4
  go_wp2_with fail
  refine (T0.out _).mono ?_
  rintro e w1 ⟨rfl, hb1⟩
  have hc1 := (bcell hb1).1
  have hf1 := (bcell hb1).2
  have hs1 := hb1.size
  try simp at hs1
  have hz1_0 : w.heap.size < w1.heap.size := by omega
  have hz1_1 : w.heap.size + 1 < w1.heap.size := by omega
  have B1 : Below w.heap.size w w1 := (((Below.refl _ _).alloc (Nat.le_refl _) _).alloc (by first | omega | (simp; omega) | simp) _).trans (hb1.mono (by first | omega | (simp; omega) | simp))
  go_wp2_with fail
  refine (awake18 _).mono ?_
  rintro e w2 ⟨rfl, hb2⟩
  have hc2 := (bcell hb2).1
  have hf2 := (bcell hb2).2
  have hs2 := hb2.size
  try simp at hs2
  have hz2_0 : w.heap.size < w2.heap.size := by omega
  have hz2_1 : w.heap.size + 1 < w2.heap.size := by omega
  have B2 : Below w.heap.size w w2 := (B1).trans (hb2.mono (by first | omega | (simp; omega) | simp))
  go_wp2_with fail
  refine (T1.out _).mono ?_
  rintro e w3 ⟨rfl, hb3⟩
  have hc3 := (bcell hb3).1
  have hf3 := (bcell hb3).2
  have hs3 := hb3.size
  try simp at hs3
  have hz3_0 : w.heap.size < w3.heap.size := by omega
  have hz3_1 : w.heap.size + 1 < w3.heap.size := by omega
  have B3 : Below w.heap.size w w3 := (B2).trans (hb3.mono (by first | omega | (simp; omega) | simp))
  go_wp2_with fail
  refine (T2.out _).mono ?_
  rintro e w4 ⟨rfl, hb4⟩
  have hc4 := (bcell hb4).1
  have hf4 := (bcell hb4).2
  have hs4 := hb4.size
  try simp at hs4
  have hz4_0 : w.heap.size < w4.heap.size := by omega
  have hz4_1 : w.heap.size + 1 < w4.heap.size := by omega
  have B4 : Below w.heap.size w w4 := (B3).trans (hb4.mono (by first | omega | (simp; omega) | simp))
  have z1 : e1 = 1 ∨ e1 = 0 ∧ b1 = true := by rcases he1 with h | h; exact .inr ⟨h, L1 h⟩; exact .inl h
  have z2 : e2 = 1 ∨ e2 = 0 ∧ b2 = true := by rcases he2 with h | h; exact .inr ⟨h, L2 h⟩; exact .inl h
  clear L1 L2 he1 he2
  rcases z1 with rfl | ⟨rfl, rfl⟩ <;> rcases z2 with rfl | ⟨rfl, rfl⟩
  all_goals
    go_wp2_with fail
    refine (T3.out _).mono ?_
    rintro e w5 ⟨rfl, hb5⟩
    have hc5 := (bcell hb5).1
    have hf5 := (bcell hb5).2
    have hs5 := hb5.size
    try simp at hs5
    have hz5_0 : w.heap.size < w5.heap.size := by omega
    have hz5_1 : w.heap.size + 1 < w5.heap.size := by omega
    have B5 : Below w.heap.size w w5 := (B4).trans (hb5.mono (by first | omega | (simp; omega) | simp))
    go_wp2_with fail
    refine (T4.out _).mono ?_
    rintro e w6 ⟨rfl, hb6⟩
    have hc6 := (bcell hb6).1
    have hf6 := (bcell hb6).2
    have hs6 := hb6.size
    try simp at hs6
    have hz6_0 : w.heap.size < w6.heap.size := by omega
    have hz6_1 : w.heap.size + 1 < w6.heap.size := by omega
    have B6 : Below w.heap.size w w6 := (B5).trans (hb6.mono (by first | omega | (simp; omega) | simp))
    by_cases hc : 3600 * m < n
    · go_wp2_with fail
      go_ret
      exact ⟨rfl, B6⟩
    · have hc' : n ≤ 3600 * m := by omega
      have U5 := T5 hc'
      have U6 := T6 hc'
      clear T5 T6 hc
      go_wp2_with fail
      refine (U5.out _).mono ?_
      rintro e w7 ⟨rfl, hb7⟩
      have hc7 := (bcell hb7).1
      have hf7 := (bcell hb7).2
      have hs7 := hb7.size
      try simp at hs7
      have hz7_0 : w.heap.size < w7.heap.size := by omega
      have hz7_1 : w.heap.size + 1 < w7.heap.size := by omega
      have B7 : Below w.heap.size w w7 := (B6).trans (hb7.mono (by first | omega | (simp; omega) | simp))
      go_wp2_with fail
      refine (U6.out _).mono ?_
      rintro e w8 ⟨rfl, hb8⟩
      have hc8 := (bcell hb8).1
      have hf8 := (bcell hb8).2
      have hs8 := hb8.size
      try simp at hs8
      have hz8_0 : w.heap.size < w8.heap.size := by omega
      have hz8_1 : w.heap.size + 1 < w8.heap.size := by omega
      have B8 : Below w.heap.size w w8 := (B7).trans (hb8.mono (by first | omega | (simp; omega) | simp))
      go_wp2_with fail
      go_ret
      exact ⟨rfl, B8⟩

theorem bounds4 (p q v u : V3) (d t a b : Int) (wa : (Lit.int .u8 a).wf = true) (wb : (Lit.int .u8 b).wf = true) (w : World) : Calls Try.prog 4 #[.agg #[.int .i64 p.x, .int .i64 p.y, .int .i64 p.z, .int .i64 q.x, .int .i64 q.y, .int .i64 q.z, .int .i64 v.x, .int .i64 v.y, .int .i64 v.z, .int .i64 u.x, .int .i64 u.y, .int .i64 u.z], .int .i64 d, .int .i64 t, .agg #[.int .u8 a, .int .u8 b]] w fun e w' => e = .returned (.bool true) ∧ Below w.heap.size w w' := by
  have ha : 0 ≤ a ∧ a ≤ 255 := by simpa [Lit.wf, IntKind.min, IntKind.max, IntKind.signed, IntKind.bits] using wa
  have hb : 0 ≤ b ∧ b ≤ 255 := by simpa [Lit.wf, IntKind.min, IntKind.max, IntKind.signed, IntKind.bits] using wb
  have T0 := fun w => within16 p q v u d t w
  rcases wiE_01 p q v u d t with he | he
  · obtain ⟨hG, hW⟩ := wiE_ok.1 he
    have T1 := Lib.hid (fun w => within16 p q v u (d + a) t w)
    have T2 := Lib.hid (fun w => within16 p q v u d (t + b) w)
    have x1 := wiE_01 p q v u (d + a) t
    have x2 := wiE_01 p q v u d (t + b)
    have L1 := fun h h' => wiB_d p q v u d t a ha.1 he h h'
    have L2 := fun h h' => wiB_t p q v u d t b hb.1 he h h'
    have hE : erG p q v u = 0 := by unfold erG; rw [if_pos hG]
    have T3 := fun w => closest12 p q v u w
    have T4 := fun w => miss14 p q v u w
    rw [hE] at T3 T4
    rw [he] at T0
    obtain ⟨n0, m0⟩ := co_pos p q v u hG
    obtain ⟨n1, m1⟩ := co_top p q v u hG
    have hM := missG_bd p q v u
    have T5 := fun (h : coN p q v u ≤ 3600 * coD p q v u) => (show Hid (∀ w, Calls Try.prog 19 #[.agg #[.int .i64 p.x, .int .i64 p.y, .int .i64 p.z, .int .i64 q.x, .int .i64 q.y, .int .i64 q.z, .int .i64 v.x, .int .i64 v.y, .int .i64 v.z, .int .i64 u.x, .int .i64 u.y, .int .i64 u.z], .int .i64 (missG p q v u + 1), .int .i64 ((coN p q v u + coD p q v u - 1) / coD p q v u), .bool true] w fun e w' => e = .returned (.bool true) ∧ Below w.heap.size w w') from Lib.hid (fun w => by
      obtain ⟨k1, k2, k3, k4⟩ := bound_hit p q v u hG h
      have H := win19 p q v u (missG p q v u + 1) ((coN p q v u + coD p q v u - 1) / coD p q v u) true w
      rw [k1, k2] at H
      exact H))
    have T6 := fun (h : coN p q v u ≤ 3600 * coD p q v u) => (show Hid (∀ w, Calls Try.prog 19 #[.agg #[.int .i64 p.x, .int .i64 p.y, .int .i64 p.z, .int .i64 q.x, .int .i64 q.y, .int .i64 q.z, .int .i64 v.x, .int .i64 v.y, .int .i64 v.z, .int .i64 u.x, .int .i64 u.y, .int .i64 u.z], .int .i64 (missG p q v u), .int .i64 3600, .bool false] w fun e w' => e = .returned (.bool true) ∧ Below w.heap.size w w') from Lib.hid (fun w => by
      obtain ⟨k1, k2, k3, k4⟩ := bound_hit p q v u hG h
      have H := win19 p q v u (missG p q v u) 3600 false w
      rw [k3, k4] at H
      exact H))
    cases hr : wiB p q v u d t
    · rw [hr] at T0
      exact boundsF p q v u d t a b _ _ _ _ _ _ _ w ha hb ⟨hW.1, hW.2.1⟩ hW.2.2 (Lib.hid T0) T1 T2 x1 x2 (Lib.hid T3) (Lib.hid T4) ⟨n0, n1⟩ ⟨m0, m1⟩ hM T5 T6
    · rw [hr] at T0
      exact boundsT p q v u d t a b _ _ _ _ _ _ _ w ha hb ⟨hW.1, hW.2.1⟩ hW.2.2 (Lib.hid T0) T1 T2 x1 x2 (fun h => L1 h hr) (fun h => L2 h hr) (Lib.hid T3) (Lib.hid T4) ⟨n0, n1⟩ ⟨m0, m1⟩ hM T5 T6
  · rw [he, wiB_bad he] at T0
    exact boundsE p q v u d t a b w (Lib.hid T0)

namespace geometryBoundsRow
open Go.ChangeShapes Go.WideShapes Go.ChangeAt Go.RowKit
open Go.ChangeMaps (open_string shut_string)
set_option linter.unusedVariables false
theorem own : ownKnob Try.prog.godebug = none := by kernel_rfl
theorem laidOut : laidOutB Try.prog = true := by kernel_rfl
set_option maxRecDepth 100000 in
theorem lifted (os : Os) (started : os.Started) (H : Type) (enc : TypeId × Value → H) :
    ReturnsInHanded {} Try.checked os 4 .any (Rows.geometryBoundsSpec.pre6 enc Try.prog Try.f4 Rows.geometryBoundsRow.domain false) (Rows.geometryBoundsSpec.post enc Try.prog Try.f4 false true false false) := by
  refine returnsInHanded_of_change (C := Try.checked) own started (by kernel_rfl) Try.func4
    (ChangeSpec.witness6 (enc := enc) (C := Try.checked) false ⟨#[], #[.agg #[.int .i64 0, .int .i64 0, .int .i64 0, .int .i64 0, .int .i64 0, .int .i64 0, .int .i64 0, .int .i64 0, .int .i64 0, .int .i64 0, .int .i64 0, .int .i64 0], .int .i64 0, .int .i64 0, .agg #[.int .u8 0, .int .u8 0]], []⟩ 8 (by kernel_rfl) (by kernel_rfl) (by kernel_rfl) (by kernel_rfl)) ?_
  intro W base args ds gs before hval0 hW hcnd _hsz
  have hval : ∀ (j : Nat) t v, Try.f4.params[j]? = some t → args[j]? = some v → Value.okWide Try.prog W .any base t v := hval0
  have hW' := hW
  obtain ⟨p, q, hA0, hV, rfl, hfz, hnd⟩ := hW
  have hA : DataW.TrodAll enc Try.prog W 0 (fun _ => true) true Try.f4.params.toList args.toList ds p := hA0
  rw [Try.params4] at hA hval
  obtain ⟨v0, vs0, d0, ds0, p0, q0, hargs, rfl, rfl, h0, r0⟩ := trodAll_cons hA
  obtain ⟨v1, vs1, d1, ds1, p1, q1, rfl, rfl, rfl, h1, r1⟩ := trodAll_cons r0
  obtain ⟨v2, vs2, d2, ds2, p2, q2, rfl, rfl, rfl, h2, r2⟩ := trodAll_cons r1
  obtain ⟨v3, vs3, d3, ds3, p3, q3, rfl, rfl, rfl, h3, r3⟩ := trodAll_cons r2
  obtain ⟨rfl, rfl, rfl⟩ := trodAll_nil r3
  obtain rfl : args = #[v0, v1, v2, v3] := by cases args; simp_all
  obtain ⟨rfl, rfl⟩ := trodVars_none hV
  have k0 := h0
  have lt0 : ∀ x ∈ p0, x.block < W.heap.size := by obtain ⟨m, hm⟩ := k0; exact DataW.trod_lt m _ _ _ hm
  have k1 := h1
  have lt1 : ∀ x ∈ p1, x.block < W.heap.size := by obtain ⟨m, hm⟩ := k1; exact DataW.trod_lt m _ _ _ hm
  have k2 := h2
  have lt2 : ∀ x ∈ p2, x.block < W.heap.size := by obtain ⟨m, hm⟩ := k2; exact DataW.trod_lt m _ _ _ hm
  have k3 := h3
  have lt3 : ∀ x ∈ p3, x.block < W.heap.size := by obtain ⟨m, hm⟩ := k3; exact DataW.trod_lt m _ _ _ hm
  obtain ⟨cs0, rfl, i0⟩ := open_leaves 9 [.i64, .i64, .i64, .i64, .i64, .i64, .i64, .i64, .i64, .i64, .i64, .i64] (by kernel_rfl) (by kernel_rfl) (hval 0 26 v0 rfl rfl) h0
  obtain ⟨a0_0, c0_0, rfl, w0_0, i0_0⟩ := i0
  obtain ⟨a0_1, c0_1, rfl, w0_1, i0_1⟩ := i0_0
  obtain ⟨a0_2, c0_2, rfl, w0_2, i0_2⟩ := i0_1
  obtain ⟨a0_3, c0_3, rfl, w0_3, i0_3⟩ := i0_2
  obtain ⟨a0_4, c0_4, rfl, w0_4, i0_4⟩ := i0_3
  obtain ⟨a0_5, c0_5, rfl, w0_5, i0_5⟩ := i0_4
  obtain ⟨a0_6, c0_6, rfl, w0_6, i0_6⟩ := i0_5
  obtain ⟨a0_7, c0_7, rfl, w0_7, i0_7⟩ := i0_6
  obtain ⟨a0_8, c0_8, rfl, w0_8, i0_8⟩ := i0_7
  obtain ⟨a0_9, c0_9, rfl, w0_9, i0_9⟩ := i0_8
  obtain ⟨a0_10, c0_10, rfl, w0_10, i0_10⟩ := i0_9
  obtain ⟨a0_11, c0_11, rfl, w0_11, i0_11⟩ := i0_10
  obtain rfl : c0_11 = [] := i0_11
  obtain ⟨a1, rfl, -, -, w1⟩ := open_int Try.underlying3 (hval 1 3 v1 rfl rfl) h1
  obtain ⟨a2, rfl, -, -, w2⟩ := open_int Try.underlying3 (hval 2 3 v2 rfl rfl) h2
  obtain ⟨cs3, rfl, i3⟩ := open_leaves 9 [.u8, .u8] (by kernel_rfl) (by kernel_rfl) (hval 3 36 v3 rfl rfl) h3
  obtain ⟨a3_0, c3_0, rfl, w3_0, i3_0⟩ := i3
  obtain ⟨a3_1, c3_1, rfl, w3_1, i3_1⟩ := i3_0
  obtain rfl : c3_1 = [] := i3_1
  clear hA0 hval0
  refine (bounds4 ⟨a0_0, a0_1, a0_2⟩ ⟨a0_3, a0_4, a0_5⟩ ⟨a0_6, a0_7, a0_8⟩ ⟨a0_9, a0_10, a0_11⟩ a1 a2 a3_0 a3_1 w3_0 w3_1 W).mono fun e W' ⟨he, bel⟩ => ?_
  subst he
  exact ⟨_, rfl, _, _, _, [], _, [], hW', trodAll_mk1 (shut_bool Try.underlying4 _), (trodAll_cons_mk (Below.trod laidOut (by kernel_rfl) (of_decide_eq_true (by kernel_rfl)) k0 bel lt0) (trodAll_cons_mk (Below.trod laidOut (by kernel_rfl) (of_decide_eq_true (by kernel_rfl)) k1 bel lt1) (trodAll_cons_mk (Below.trod laidOut (by kernel_rfl) (of_decide_eq_true (by kernel_rfl)) k2 bel lt2) (trodAll_cons_mk (Below.trod laidOut (by kernel_rfl) (of_decide_eq_true (by kernel_rfl)) k3 bel lt3) trodAll_mk0)))), rfl, bel.frame _, fun h => by cases h⟩

theorem over : Rows.geometryBoundsRow.holds Try.pinned (OpenSpec.ofChange Rows.geometryBoundsSpec) :=
  OpenClaim.holds_of_wide 4 Try.f4 rfl rfl rfl rfl rfl rfl rfl ⟨rfl, rfl, rfl, rfl, rfl⟩ rfl rfl rfl rfl rfl (by kernel_rfl) Try.func4 (by kernel_rfl)
    (of_decide_eq_true (by kernel_rfl)) (by unfold Func.isWrapper; first | (rw [if_pos (by decide +kernel)]; kernel_rfl) | (rw [if_neg (by decide +kernel)]; exact ⟨rfl, rfl⟩))
    (fun os started H enc _ => lifted os started H enc)
theorem proved : Rows.GeometryBoundsSaid := over
end geometryBoundsRow
end Go.Proofs.Ytdflamblbhpngaa
