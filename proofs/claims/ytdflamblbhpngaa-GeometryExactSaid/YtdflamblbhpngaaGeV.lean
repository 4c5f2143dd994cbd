/- Laws of chapter 16: within, example, awake. -/
import Derived.Test.YtdflamblbhpngaaRows
import Derived.WalkKit
import Derived.WalkLawsBesides
import Derived.WalkSpells
import Derived.ProofKit
import Derived.Below
import Derived.Outline
import Derived.Lib.Hide
import Derived.Deep.RegionWith
import Derived.Deep.RegionHeld3
import Derived.Deep.DrawnRows
import Derived.StillTailTactics
import Derived.BigQuiet
import Derived.Deep.QuietTactic
import Derived.Deep.LoopGhost
import Derived.IntWalk
import Derived.Test.YtdflamblbhpngaaGeU
namespace Go.Proofs.Ytdflamblbhpngaa
open Go.RowKit
attribute [local go_sem ↓] Go.wp_at_zero Go.wp_at_succ
attribute [local go_sem] wrap_lit

theorem wiE_01 (p q v u : V3) (d t : Int) : wiE p q v u d t = 0 ∨ wiE p q v u d t = 1 := by unfold wiE; split <;> simp
set_option maxHeartbeats 2000000 in
theorem win19 (p q v u : V3) (d t : Int) (b : Bool) (w : World) : Calls Try.prog 19 #[.agg #[.int .i64 p.x, .int .i64 p.y, .int .i64 p.z, .int .i64 q.x, .int .i64 q.y, .int .i64 q.z, .int .i64 v.x, .int .i64 v.y, .int .i64 v.z, .int .i64 u.x, .int .i64 u.y, .int .i64 u.z], .int .i64 d, .int .i64 t, .bool b] w fun e w' => e = .returned (.bool (wiB p q v u d t == b && wiE p q v u d t == 0)) ∧ Below w.heap.size w w' := by
  have T := Lib.hid (within16 p q v u d t)
  rcases wiE_01 p q v u d t with he | he <;> rw [he] at T ⊢ <;> clear he
  all_goals
    generalize wiB p q v u d t = r at T ⊢
    cases r <;> cases b
    all_goals
      go_enter Try.func19, Try.ntmps19
      go_wp2_with fail
      refine (T.out _).mono ?_
      rintro e w1 ⟨rfl, hb1⟩
      go_wp2_with fail
      go_ret
      exact ⟨rfl, ((Below.refl _ _).alloc (Nat.le_refl _) _).trans (hb1.mono (by first | omega | (simp; omega) | simp))⟩

theorem exa44 (w : World) : Calls Try.prog 44 #[] w fun e w' => e = .returned (.agg #[.int .i64 0, .int .i64 0, .int .i64 0, .int .i64 10, .int .i64 3, .int .i64 0, .int .i64 2, .int .i64 0, .int .i64 0, .int .i64 0, .int .i64 0, .int .i64 0]) ∧ Below w.heap.size w w' := by
  go_enter Try.func44, Try.ntmps44
  go_wp2_with fail
  refine bodyPost_ret (v := .agg #[.int .i64 0, .int .i64 0, .int .i64 0, .int .i64 10, .int .i64 3, .int .i64 0, .int .i64 2, .int .i64 0, .int .i64 0, .int .i64 0, .int .i64 0, .int .i64 0]) ?_ rfl ⟨rfl, (Below.refl _ _).alloc (Nat.le_refl _) _⟩
  have hr : Try.f44.results = #[.cell 0 26] := rfl
  simp only [results, hr]
  go_simp

theorem slR_eq (n m : Int) (h0 : 0 < m) (h1 : m + 1 < 32768) (a : 9025 * m * m ≤ n) (b : n < 9025 * (m + 1) * (m + 1)) : slR n = m := by
  have x := (slR_iff n m h0 (by omega)).2 a
  rcases Int.lt_or_le m (slR n) with g | g
  · have := (slR_iff n (m + 1) (by omega) h1).1 (by omega)
    omega
  · omega
theorem missR_eq (pp pv vv m : Int) (hv : 0 ≤ vv) (h0 : 0 < m) (h1 : m + 1 < 32768) (a : nearB pp pv vv m = false) (b : nearB pp pv vv (m + 1) = true) : missR pp pv vv = m := by
  have x := (missR_iff pp pv vv m hv h0 (by omega)).2 a
  rcases Int.lt_or_le m (missR pp pv vv) with g | g
  · have := (missR_iff pp pv vv (m + 1) hv (by omega) h1).1 (by omega)
    rw [this] at b; cases b
  · omega
theorem vS1 : s2G (⟨0, 0, 0⟩ : V3) (⟨3, 4, 0⟩ : V3) = 225625 := by decide
theorem vE1 : erS (⟨0, 0, 0⟩ : V3) (⟨3, 4, 0⟩ : V3) = 0 := by decide
theorem vL1 : slG (⟨0, 0, 0⟩ : V3) (⟨3, 4, 0⟩ : V3) = 5 := by unfold slG; rw [vS1]; exact slR_eq _ _ (by decide) (by decide) (by decide) (by decide)
theorem vS2 : s2G (⟨0, 0, 0⟩ : V3) (⟨3, 4, 95⟩ : V3) = 234650 := by decide
theorem vE2 : erS (⟨0, 0, 0⟩ : V3) (⟨3, 4, 95⟩ : V3) = 0 := by decide
theorem vL2 : slG (⟨0, 0, 0⟩ : V3) (⟨3, 4, 95⟩ : V3) = 5 := by unfold slG; rw [vS2]; exact slR_eq _ _ (by decide) (by decide) (by decide) (by decide)
theorem vC : clG (⟨0, 0, 0⟩ : V3) (⟨10, 3, 0⟩ : V3) (⟨2, 0, 0⟩ : V3) (⟨0, 0, 0⟩ : V3) = 1 := by decide
theorem vE : erG (⟨0, 0, 0⟩ : V3) (⟨10, 3, 0⟩ : V3) (⟨2, 0, 0⟩ : V3) (⟨0, 0, 0⟩ : V3) = 0 := by decide
theorem vN : coN (⟨0, 0, 0⟩ : V3) (⟨10, 3, 0⟩ : V3) (⟨2, 0, 0⟩ : V3) (⟨0, 0, 0⟩ : V3) = 5 := by decide
theorem vD : coD (⟨0, 0, 0⟩ : V3) (⟨10, 3, 0⟩ : V3) (⟨2, 0, 0⟩ : V3) (⟨0, 0, 0⟩ : V3) = 1 := by decide
theorem vM : missG (⟨0, 0, 0⟩ : V3) (⟨10, 3, 0⟩ : V3) (⟨2, 0, 0⟩ : V3) (⟨0, 0, 0⟩ : V3) = 3 := by
  have h : okG (⟨0, 0, 0⟩ : V3) (⟨10, 3, 0⟩ : V3) (⟨2, 0, 0⟩ : V3) (⟨0, 0, 0⟩ : V3) := by decide
  unfold missG
  rw [if_pos h]
  exact missR_eq _ _ _ _ (by decide) (by decide) (by decide) (by decide) (by decide)
theorem vW1 : wiB (⟨0, 0, 0⟩ : V3) (⟨10, 3, 0⟩ : V3) (⟨2, 0, 0⟩ : V3) (⟨0, 0, 0⟩ : V3) 3 3600 = false := by decide
theorem vW2 : wiB (⟨0, 0, 0⟩ : V3) (⟨10, 3, 0⟩ : V3) (⟨2, 0, 0⟩ : V3) (⟨0, 0, 0⟩ : V3) 4 3 = false := by decide
theorem vW3 : wiB (⟨0, 0, 0⟩ : V3) (⟨10, 3, 0⟩ : V3) (⟨2, 0, 0⟩ : V3) (⟨0, 0, 0⟩ : V3) 4 4 = true := by decide
theorem vX1 : wiE (⟨0, 0, 0⟩ : V3) (⟨10, 3, 0⟩ : V3) (⟨2, 0, 0⟩ : V3) (⟨0, 0, 0⟩ : V3) 3 3600 = 0 := by decide
theorem vX2 : wiE (⟨0, 0, 0⟩ : V3) (⟨10, 3, 0⟩ : V3) (⟨2, 0, 0⟩ : V3) (⟨0, 0, 0⟩ : V3) 4 3 = 0 := by decide
theorem vX3 : wiE (⟨0, 0, 0⟩ : V3) (⟨10, 3, 0⟩ : V3) (⟨2, 0, 0⟩ : V3) (⟨0, 0, 0⟩ : V3) 4 4 = 0 := by decide
theorem aw1 (w : World) : Calls Try.prog 25 #[.agg #[.int .i64 0, .int .i64 0, .int .i64 0], .agg #[.int .i64 3, .int .i64 4, .int .i64 0]] w fun e w' => e = .returned (.tuple #[.int .i64 225625, .int .i64 0]) ∧ Below w.heap.size w w' := by
  have H := slant25 (⟨0, 0, 0⟩ : V3) (⟨3, 4, 0⟩ : V3) w
  rw [vS1, vE1] at H
  exact H
theorem aw2 (w : World) : Calls Try.prog 27 #[.agg #[.int .i64 0, .int .i64 0, .int .i64 0], .agg #[.int .i64 3, .int .i64 4, .int .i64 0]] w fun e w' => e = .returned (.tuple #[.int .i64 5, .int .i64 0]) ∧ Below w.heap.size w w' := by
  have H := slant27 (⟨0, 0, 0⟩ : V3) (⟨3, 4, 0⟩ : V3) w
  rw [vL1, vE1] at H
  exact H
theorem aw3 (w : World) : Calls Try.prog 25 #[.agg #[.int .i64 0, .int .i64 0, .int .i64 0], .agg #[.int .i64 3, .int .i64 4, .int .i64 95]] w fun e w' => e = .returned (.tuple #[.int .i64 234650, .int .i64 0]) ∧ Below w.heap.size w w' := by
  have H := slant25 (⟨0, 0, 0⟩ : V3) (⟨3, 4, 95⟩ : V3) w
  rw [vS2, vE2] at H
  exact H
theorem aw4 (w : World) : Calls Try.prog 27 #[.agg #[.int .i64 0, .int .i64 0, .int .i64 0], .agg #[.int .i64 3, .int .i64 4, .int .i64 95]] w fun e w' => e = .returned (.tuple #[.int .i64 5, .int .i64 0]) ∧ Below w.heap.size w w' := by
  have H := slant27 (⟨0, 0, 0⟩ : V3) (⟨3, 4, 95⟩ : V3) w
  rw [vL2, vE2] at H
  exact H
theorem aw5 (w : World) : Calls Try.prog 10 #[.agg #[.int .i64 0, .int .i64 0, .int .i64 0], .agg #[.int .i64 10, .int .i64 3, .int .i64 0], .agg #[.int .i64 2, .int .i64 0, .int .i64 0], .agg #[.int .i64 0, .int .i64 0, .int .i64 0]] w fun e w' => e = .returned (.tuple #[.int .i64 1, .int .i64 0]) ∧ Below w.heap.size w w' := by
  have H := clos10 (⟨0, 0, 0⟩ : V3) (⟨10, 3, 0⟩ : V3) (⟨2, 0, 0⟩ : V3) (⟨0, 0, 0⟩ : V3) w
  rw [vC, vE] at H
  exact H
theorem aw6 (w : World) : Calls Try.prog 12 #[.agg #[.int .i64 0, .int .i64 0, .int .i64 0], .agg #[.int .i64 10, .int .i64 3, .int .i64 0], .agg #[.int .i64 2, .int .i64 0, .int .i64 0], .agg #[.int .i64 0, .int .i64 0, .int .i64 0]] w fun e w' => e = .returned (.tuple #[.int .i64 5, .int .i64 1, .int .i64 0]) ∧ Below w.heap.size w w' := by
  have H := closest12 (⟨0, 0, 0⟩ : V3) (⟨10, 3, 0⟩ : V3) (⟨2, 0, 0⟩ : V3) (⟨0, 0, 0⟩ : V3) w
  rw [vN, vD, vE] at H
  exact H
theorem aw7 (w : World) : Calls Try.prog 14 #[.agg #[.int .i64 0, .int .i64 0, .int .i64 0], .agg #[.int .i64 10, .int .i64 3, .int .i64 0], .agg #[.int .i64 2, .int .i64 0, .int .i64 0], .agg #[.int .i64 0, .int .i64 0, .int .i64 0]] w fun e w' => e = .returned (.tuple #[.int .i64 3, .int .i64 0]) ∧ Below w.heap.size w w' := by
  have H := miss14 (⟨0, 0, 0⟩ : V3) (⟨10, 3, 0⟩ : V3) (⟨2, 0, 0⟩ : V3) (⟨0, 0, 0⟩ : V3) w
  rw [vM, vE] at H
  exact H
theorem aw8 (w : World) : Calls Try.prog 19 #[.agg #[.int .i64 0, .int .i64 0, .int .i64 0, .int .i64 10, .int .i64 3, .int .i64 0, .int .i64 2, .int .i64 0, .int .i64 0, .int .i64 0, .int .i64 0, .int .i64 0], .int .i64 3, .int .i64 3600, .bool false] w fun e w' => e = .returned (.bool true) ∧ Below w.heap.size w w' := by
  have H := win19 (⟨0, 0, 0⟩ : V3) (⟨10, 3, 0⟩ : V3) (⟨2, 0, 0⟩ : V3) (⟨0, 0, 0⟩ : V3) 3 3600 false w
  rw [vW1, vX1] at H
  exact H
theorem aw9 (w : World) : Calls Try.prog 19 #[.agg #[.int .i64 0, .int .i64 0, .int .i64 0, .int .i64 10, .int .i64 3, .int .i64 0, .int .i64 2, .int .i64 0, .int .i64 0, .int .i64 0, .int .i64 0, .int .i64 0], .int .i64 4, .int .i64 3, .bool false] w fun e w' => e = .returned (.bool true) ∧ Below w.heap.size w w' := by
  have H := win19 (⟨0, 0, 0⟩ : V3) (⟨10, 3, 0⟩ : V3) (⟨2, 0, 0⟩ : V3) (⟨0, 0, 0⟩ : V3) 4 3 false w
  rw [vW2, vX2] at H
  exact H
theorem aw10 (w : World) : Calls Try.prog 19 #[.agg #[.int .i64 0, .int .i64 0, .int .i64 0, .int .i64 10, .int .i64 3, .int .i64 0, .int .i64 2, .int .i64 0, .int .i64 0, .int .i64 0, .int .i64 0, .int .i64 0], .int .i64 4, .int .i64 4, .bool true] w fun e w' => e = .returned (.bool true) ∧ Below w.heap.size w w' := by
  have H := win19 (⟨0, 0, 0⟩ : V3) (⟨10, 3, 0⟩ : V3) (⟨2, 0, 0⟩ : V3) (⟨0, 0, 0⟩ : V3) 4 4 true w
  rw [vW3, vX3] at H
  exact H

set_option maxRecDepth 100000 in
set_option maxHeartbeats 4000000 in
theorem awake18 (w : World) : Calls Try.prog 18 #[] w fun e w' => e = .returned (.bool true) ∧ Below w.heap.size w w' := by
  go_enter Try.func18, Try.ntmps18
  go_wp2_with fail
  refine (exa44 _).mono ?_
  rintro e w1 ⟨rfl, hb1⟩
  have hs1 := hb1.size
  go_wp2_with fail
  refine (aw1 _).mono ?_
  rintro e w2 ⟨rfl, hb2⟩
  have hc2 := (bcell hb2).1
  have hf2 := (bcell hb2).2
  have hs2 := hb2.size
  try simp at hs2
  have hz2_0 : w1.heap.size < w2.heap.size := by omega
  have B2 : Below w.heap.size w w2 := ((hb1.alloc hs1 _)).trans (hb2.mono (by first | omega | (simp; omega) | simp))
  go_wp2_with fail
  refine (aw2 _).mono ?_
  rintro e w3 ⟨rfl, hb3⟩
  have hc3 := (bcell hb3).1
  have hf3 := (bcell hb3).2
  have hs3 := hb3.size
  try simp at hs3
  have hz3_0 : w1.heap.size < w3.heap.size := by omega
  have B3 : Below w.heap.size w w3 := (B2).trans (hb3.mono (by first | omega | (simp; omega) | simp))
  go_wp2_with fail
  refine (aw3 _).mono ?_
  rintro e w4 ⟨rfl, hb4⟩
  have hc4 := (bcell hb4).1
  have hf4 := (bcell hb4).2
  have hs4 := hb4.size
  try simp at hs4
  have hz4_0 : w1.heap.size < w4.heap.size := by omega
  have B4 : Below w.heap.size w w4 := (B3).trans (hb4.mono (by first | omega | (simp; omega) | simp))
  go_wp2_with fail
  refine (aw4 _).mono ?_
  rintro e w5 ⟨rfl, hb5⟩
  have hc5 := (bcell hb5).1
  have hf5 := (bcell hb5).2
  have hs5 := hb5.size
  try simp at hs5
  have hz5_0 : w1.heap.size < w5.heap.size := by omega
  have B5 : Below w.heap.size w w5 := (B4).trans (hb5.mono (by first | omega | (simp; omega) | simp))
  go_wp2_with fail
  refine (aw5 _).mono ?_
  rintro e w6 ⟨rfl, hb6⟩
  have hc6 := (bcell hb6).1
  have hf6 := (bcell hb6).2
  have hs6 := hb6.size
  try simp at hs6
  have hz6_0 : w1.heap.size < w6.heap.size := by omega
  have B6 : Below w.heap.size w w6 := (B5).trans (hb6.mono (by first | omega | (simp; omega) | simp))
  go_wp2_with fail
  refine (aw6 _).mono ?_
  rintro e w7 ⟨rfl, hb7⟩
  have hc7 := (bcell hb7).1
  have hf7 := (bcell hb7).2
  have hs7 := hb7.size
  try simp at hs7
  have hz7_0 : w1.heap.size < w7.heap.size := by omega
  have B7 : Below w.heap.size w w7 := (B6).trans (hb7.mono (by first | omega | (simp; omega) | simp))
  go_wp2_with fail
  refine (aw7 _).mono ?_
  rintro e w8 ⟨rfl, hb8⟩
  have hc8 := (bcell hb8).1
  have hf8 := (bcell hb8).2
  have hs8 := hb8.size
  try simp at hs8
  have hz8_0 : w1.heap.size < w8.heap.size := by omega
  have B8 : Below w.heap.size w w8 := (B7).trans (hb8.mono (by first | omega | (simp; omega) | simp))
  go_wp2_with fail
  refine (aw8 _).mono ?_
  rintro e w9 ⟨rfl, hb9⟩
  have hc9 := (bcell hb9).1
  have hf9 := (bcell hb9).2
  have hs9 := hb9.size
  try simp at hs9
  have hz9_0 : w1.heap.size < w9.heap.size := by omega
  have B9 : Below w.heap.size w w9 := (B8).trans (hb9.mono (by first | omega | (simp; omega) | simp))
  go_wp2_with fail
  refine (aw9 _).mono ?_
  rintro e w10 ⟨rfl, hb10⟩
  have hc10 := (bcell hb10).1
  have hf10 := (bcell hb10).2
  have hs10 := hb10.size
  try simp at hs10
  have hz10_0 : w1.heap.size < w10.heap.size := by omega
  have B10 : Below w.heap.size w w10 := (B9).trans (hb10.mono (by first | omega | (simp; omega) | simp))
  go_wp2_with fail
  refine (aw10 _).mono ?_
  rintro e w11 ⟨rfl, hb11⟩
  have hc11 := (bcell hb11).1
  have hf11 := (bcell hb11).2
  have hs11 := hb11.size
  try simp at hs11
  have hz11_0 : w1.heap.size < w11.heap.size := by omega
  have B11 : Below w.heap.size w w11 := (B10).trans (hb11.mono (by first | omega | (simp; omega) | simp))
  go_wp2_with fail
  go_ret
  exact ⟨rfl, B11⟩
end Go.Proofs.Ytdflamblbhpngaa
