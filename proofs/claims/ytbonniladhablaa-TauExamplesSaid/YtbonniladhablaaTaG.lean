/- Hold of package tau and of its reference; timed and awake. -/
import Derived.Test.YtbonniladhablaaRows
import Derived.WalkKit
import Derived.WalkLawsBesides
import Derived.WalkSpells
import Derived.ProofKit
import Derived.Below
import Derived.Outline
import Derived.Lib.Hide
import Derived.Deep.RegionWith
import Derived.Deep.RegionHeld3
import Derived.Deep.DrawnRows
import Derived.StillTailTactics
import Derived.BigQuiet
import Derived.Deep.QuietTactic
import Derived.Deep.LoopGhost
import Derived.IntWalk
import Derived.Test.YtbonniladhablaaTaF
namespace Go.Proofs.Ytbonniladhablaa
open Go.RowKit
attribute [local go_sem ↓] Go.wp_at_zero Go.wp_at_succ
attribute [local go_sem] wrap_lit

theorem hold16 (k a n h : Int) (w : World) : Calls Try.prog 16 #[.agg #[.int .u8 k, .int .i64 a], .int .u8 n, .int .i64 h] w fun e w' => e = .returned (.tuple #[.agg #[.int .u8 (hdR k a n h).1, .int .i64 (hdR k a n h).2.1], .int .i64 (hdR k a n h).2.2]) ∧ Below w.heap.size w w' := by
  unfold hdR
  by_cases h1 : 3 < k ∨ 3 < n
  · rw [if_pos h1]; exact hold16k k a n h w h1
  · rw [if_neg h1]
    by_cases h2 : 0 ≤ a ∧ a ≤ 60 ∧ 0 ≤ h ∧ h ≤ 60
    · rw [if_neg (fun hn => hn h2)]
      by_cases h3 : k ≤ n
      · rw [if_pos (.inl h3)]; exact hold16c k a n h w (by omega) (by omega) h2 h3
      · by_cases h4 : h ≤ a + 1
        · rw [if_pos (.inr h4)]; exact hold16d k a n h w (by omega) (by omega) h2 (by omega) h4
        · rw [if_neg (by omega)]; exact hold16e k a n h w (by omega) (by omega) h2 (by omega) (by omega)
    · rw [if_pos h2]; exact hold16b k a n h w (by omega) (by omega) h2

set_option maxHeartbeats 1000000 in
theorem hold25 (k a n h : Int) (w : World) : Calls Try.prog 25 #[.agg #[.int .u8 k, .int .i64 a], .int .u8 n, .int .i64 h] w fun e w' => e = .returned (.tuple #[.agg #[.int .u8 (hdR k a n h).1, .int .i64 (hdR k a n h).2.1], .int .i64 (hdR k a n h).2.2]) ∧ Below w.heap.size w w' := by
  unfold hdR
  by_cases h1 : 3 < k ∨ 3 < n
  · rw [if_pos h1]
    go_enter Try.func25, Try.ntmps25
    go_wp2_with fail
    all_goals first | omega | exact bodyPost_ret (v := .tuple #[.agg #[.int .u8 0, .int .i64 0], .int .i64 6]) (by simp [results, Try.results25, go_sem]) rfl ⟨rfl, by repeat' (first | exact Below.refl _ _ | assumption | refine Below.drew ?_ | refine below_drewN ?_ _ | refine Below.alloc ?_ ?_ _ | refine Below.setCell ?_ ?_ _ | (simp <;> omega))⟩
  · rw [if_neg h1]
    have g1 : k ≤ 3 := by omega
    have g2 : n ≤ 3 := by omega
    clear h1
    by_cases h2 : 0 ≤ a ∧ a ≤ 60 ∧ 0 ≤ h ∧ h ≤ 60
    · rw [if_neg (fun hn => hn h2)]
      obtain ⟨a1, a2, a3, a4⟩ := h2
      by_cases h3 : k ≤ n
      · rw [if_pos (.inl h3)]
        go_enter Try.func25, Try.ntmps25
        go_wp2_with fail
        exact bodyPost_ret (v := .tuple #[.agg #[.int .u8 n, .int .i64 0], .int .i64 0]) (by simp [results, Try.results25, go_sem]) rfl ⟨rfl, by repeat' (first | exact Below.refl _ _ | assumption | refine Below.drew ?_ | refine below_drewN ?_ _ | refine Below.alloc ?_ ?_ _ | refine Below.setCell ?_ ?_ _ | (simp <;> omega))⟩
      · by_cases h4 : h ≤ a + 1
        · rw [if_pos (.inr h4)]
          have h3' : n < k := by omega
          clear h3
          go_enter Try.func25, Try.ntmps25
          go_wp2_with fail
          exact bodyPost_ret (v := .tuple #[.agg #[.int .u8 n, .int .i64 0], .int .i64 0]) (by simp [results, Try.results25, go_sem]) rfl ⟨rfl, by repeat' (first | exact Below.refl _ _ | assumption | refine Below.drew ?_ | refine below_drewN ?_ _ | refine Below.alloc ?_ ?_ _ | refine Below.setCell ?_ ?_ _ | (simp <;> omega))⟩
        · rw [if_neg (by omega)]
          have h3' : n < k := by omega
          have h4' : a + 1 < h := by omega
          clear h3 h4
          go_enter Try.func25, Try.ntmps25
          go_wp2_with fail
          exact bodyPost_ret (v := .tuple #[.agg #[.int .u8 k, .int .i64 (a + 1)], .int .i64 0]) (by simp [results, Try.results25, go_sem]) rfl ⟨rfl, by repeat' (first | exact Below.refl _ _ | assumption | refine Below.drew ?_ | refine below_drewN ?_ _ | refine Below.alloc ?_ ?_ _ | refine Below.setCell ?_ ?_ _ | (simp <;> omega))⟩
    · rw [if_pos h2]
      go_enter Try.func25, Try.ntmps25
      go_wp2_with fail
      all_goals first | omega | exact bodyPost_ret (v := .tuple #[.agg #[.int .u8 0, .int .i64 0], .int .i64 1]) (by simp [results, Try.results25, go_sem]) rfl ⟨rfl, by repeat' (first | exact Below.refl _ _ | assumption | refine Below.drew ?_ | refine below_drewN ?_ _ | refine Below.alloc ?_ ?_ _ | refine Below.setCell ?_ ?_ _ | (simp <;> omega))⟩

theorem time9' (R V N k : Int) {p q e : Int} (h : tm R V N k = (p, q, e)) (w : World) : Calls Try.prog 9 #[.agg #[.int .i64 R, .int .i64 V, .int .i64 N], .int .i64 k] w fun e' w' => e' = .returned (.tuple #[.int .i64 p, .int .i64 q, .int .i64 e]) ∧ Below w.heap.size w w' := by
  have := time9 R V N k w
  rwa [h] at this
theorem horiz11' (R V N T Ne H Vv : Int) {b : Bool} {e : Int} (h1 : hoB R V N T Ne H Vv = b) (h2 : hoE R V N T Ne H Vv = e) (w : World) : Calls Try.prog 11 #[.agg #[.int .i64 R, .int .i64 V, .int .i64 N], .agg #[.int .i64 T, .int .i64 Ne, .int .i64 H, .int .i64 Vv]] w fun e' w' => e' = .returned (.tuple #[.bool b, .int .i64 e]) ∧ Below w.heap.size w w' := by
  have := horiz11 R V N T Ne H Vv w
  rwa [h1, h2] at this
theorem vert13' (a r T Ne H Vv : Int) {b : Bool} {e : Int} (h1 : veB a r T Ne H Vv = b) (h2 : veE a r T Ne H Vv = e) (w : World) : Calls Try.prog 13 #[.int .i64 a, .int .i64 r, .agg #[.int .i64 T, .int .i64 Ne, .int .i64 H, .int .i64 Vv]] w fun e' w' => e' = .returned (.tuple #[.bool b, .int .i64 e]) ∧ Below w.heap.size w w' := by
  have := vert13 a r T Ne H Vv w
  rwa [h1, h2] at this
theorem hold16' (k a n h : Int) {x y e : Int} (h1 : hdR k a n h = (x, y, e)) (w : World) : Calls Try.prog 16 #[.agg #[.int .u8 k, .int .i64 a], .int .u8 n, .int .i64 h] w fun e' w' => e' = .returned (.tuple #[.agg #[.int .u8 x, .int .i64 y], .int .i64 e]) ∧ Below w.heap.size w w' := by
  have := hold16 k a n h w
  rwa [h1] at this

theorem timed30 (R V N near num den : Int) (h : tm R V N near = (num, den, 0)) (w : World) : Calls Try.prog 30 #[.agg #[.int .i64 R, .int .i64 V, .int .i64 N], .int .i64 near, .int .i64 num, .int .i64 den] w fun e w' => e = .returned (.bool true) ∧ Below w.heap.size w w' := by
  have HT := Lib.hid (time9' R V N near h)
  clear h
  go_enter Try.func30, Try.ntmps30
  go_wp2_with fail
  refine (HT.out _).mono ?_
  rintro e w1 ⟨rfl, hb1⟩
  go_wp2_with fail
  go_ret
  exact ⟨rfl, ((Below.refl _ _).alloc (Nat.le_refl _) _).trans (hb1.mono (by simp))⟩

set_option maxRecDepth 100000 in
set_option maxHeartbeats 2000000 in
theorem awake15 (w : World) : Calls Try.prog 15 #[] w fun e w' => e = .returned (.bool true) ∧ Below w.heap.size w w' := by
  have t1 := Lib.hid (horiz11' 5120 (-256) 3 15 10 0 0 (b := true) (e := 0) (by decide) (by decide))
  have t2 := Lib.hid (horiz11' 5120 (-256) 3 14 10 0 0 (b := false) (e := 0) (by decide) (by decide))
  have t3 := Lib.hid (time9' 5120 0 3 10 (p := 0) (q := 0) (e := 9) (by decide))
  have t4 := Lib.hid (vert13' 1000 (-50) 0 0 600 20 (b := true) (e := 0) (by decide) (by decide))
  have t5 := Lib.hid (vert13' 1000 (-50) 0 0 600 19 (b := false) (e := 0) (by decide) (by decide))
  have t6 := Lib.hid (hold16' 3 0 2 3 (x := 3) (y := 1) (e := 0) (by decide))
  have t7 := Lib.hid (hold16' 3 1 2 3 (x := 3) (y := 2) (e := 0) (by decide))
  have t8 := Lib.hid (hold16' 3 2 2 3 (x := 2) (y := 0) (e := 0) (by decide))
  have t9 := Lib.hid (timed30 5120 (-256) 3 0 20 1 (by decide))
  have t10 := Lib.hid (timed30 5120 (-256) 3 10 15 1 (by decide))
  have t11 := Lib.hid (timed30 5120 0 3 20 0 1 (by decide))
  go_enter Try.func15, Try.ntmps15
  go_wp2_with fail
  refine (t1.out _).mono ?_
  rintro e w1 ⟨rfl, hb1⟩
  have hc1 := (bcell hb1).1
  have hf1 := (bcell hb1).2
  have hs1 := hb1.size
  try simp at hs1
  have hz1_0 : w.heap.size < w1.heap.size := by omega
  have hz1_1 : w.heap.size + 1 < w1.heap.size := by omega
  go_wp2_with fail
  refine (t2.out _).mono ?_
  rintro e w2 ⟨rfl, hb2⟩
  have hc2 := (bcell hb2).1
  have hf2 := (bcell hb2).2
  have hs2 := hb2.size
  try simp at hs2
  have hz2_0 : w.heap.size < w2.heap.size := by omega
  have hz2_1 : w.heap.size + 1 < w2.heap.size := by omega
  go_wp2_with fail
  refine (t3.out _).mono ?_
  rintro e w3 ⟨rfl, hb3⟩
  have hc3 := (bcell hb3).1
  have hf3 := (bcell hb3).2
  have hs3 := hb3.size
  try simp at hs3
  have hz3_0 : w.heap.size < w3.heap.size := by omega
  have hz3_1 : w.heap.size + 1 < w3.heap.size := by omega
  go_wp2_with fail
  refine (t4.out _).mono ?_
  rintro e w4 ⟨rfl, hb4⟩
  have hc4 := (bcell hb4).1
  have hf4 := (bcell hb4).2
  have hs4 := hb4.size
  try simp at hs4
  have hz4_0 : w.heap.size < w4.heap.size := by omega
  have hz4_1 : w.heap.size + 1 < w4.heap.size := by omega
  go_wp2_with fail
  refine (t5.out _).mono ?_
  rintro e w5 ⟨rfl, hb5⟩
  have hc5 := (bcell hb5).1
  have hf5 := (bcell hb5).2
  have hs5 := hb5.size
  try simp at hs5
  have hz5_0 : w.heap.size < w5.heap.size := by omega
  have hz5_1 : w.heap.size + 1 < w5.heap.size := by omega
  go_wp2_with fail
  refine (t6.out _).mono ?_
  rintro e w6 ⟨rfl, hb6⟩
  have hc6 := (bcell hb6).1
  have hf6 := (bcell hb6).2
  have hs6 := hb6.size
  try simp at hs6
  have hz6_0 : w.heap.size < w6.heap.size := by omega
  have hz6_1 : w.heap.size + 1 < w6.heap.size := by omega
  go_wp2_with fail
  refine (t7.out _).mono ?_
  rintro e w7 ⟨rfl, hb7⟩
  have hc7 := (bcell hb7).1
  have hf7 := (bcell hb7).2
  have hs7 := hb7.size
  try simp at hs7
  have hz7_0 : w.heap.size < w7.heap.size := by omega
  have hz7_1 : w.heap.size + 1 < w7.heap.size := by omega
  have hz7_2 : w6.heap.size < w7.heap.size := by omega
  go_wp2_with fail
  refine (t8.out _).mono ?_
  rintro e w8 ⟨rfl, hb8⟩
  have hc8 := (bcell hb8).1
  have hf8 := (bcell hb8).2
  have hs8 := hb8.size
  try simp at hs8
  have hz8_0 : w.heap.size < w8.heap.size := by omega
  have hz8_1 : w.heap.size + 1 < w8.heap.size := by omega
  have hz8_2 : w6.heap.size < w8.heap.size := by omega
  have hz8_3 : w7.heap.size < w8.heap.size := by omega
  go_wp2_with fail
  refine (t9.out _).mono ?_
  rintro e w9 ⟨rfl, hb9⟩
  have hc9 := (bcell hb9).1
  have hf9 := (bcell hb9).2
  have hs9 := hb9.size
  try simp at hs9
  have hz9_0 : w.heap.size < w9.heap.size := by omega
  have hz9_1 : w.heap.size + 1 < w9.heap.size := by omega
  have hz9_2 : w6.heap.size < w9.heap.size := by omega
  have hz9_3 : w7.heap.size < w9.heap.size := by omega
  have hz9_4 : w8.heap.size < w9.heap.size := by omega
  go_wp2_with fail
  refine (t10.out _).mono ?_
  rintro e w10 ⟨rfl, hb10⟩
  have hc10 := (bcell hb10).1
  have hf10 := (bcell hb10).2
  have hs10 := hb10.size
  try simp at hs10
  have hz10_0 : w.heap.size < w10.heap.size := by omega
  have hz10_1 : w.heap.size + 1 < w10.heap.size := by omega
  have hz10_2 : w6.heap.size < w10.heap.size := by omega
  have hz10_3 : w7.heap.size < w10.heap.size := by omega
  have hz10_4 : w8.heap.size < w10.heap.size := by omega
  go_wp2_with fail
  refine (t11.out _).mono ?_
  rintro e w11 ⟨rfl, hb11⟩
  have hc11 := (bcell hb11).1
  have hf11 := (bcell hb11).2
  have hs11 := hb11.size
  try simp at hs11
  have hz11_0 : w.heap.size < w11.heap.size := by omega
  have hz11_1 : w.heap.size + 1 < w11.heap.size := by omega
  have hz11_2 : w6.heap.size < w11.heap.size := by omega
  have hz11_3 : w7.heap.size < w11.heap.size := by omega
  have hz11_4 : w8.heap.size < w11.heap.size := by omega
  go_wp2_with fail
  go_ret
  exact ⟨rfl, by repeat' (first | exact Below.refl _ _ | refine Below.trans ?_ (Below.mono hb11 ?_) | refine Below.trans ?_ (Below.mono hb10 ?_) | refine Below.trans ?_ (Below.mono hb9 ?_) | refine Below.trans ?_ (Below.mono hb8 ?_) | refine Below.trans ?_ (Below.mono hb7 ?_) | refine Below.trans ?_ (Below.mono hb6 ?_) | refine Below.trans ?_ (Below.mono hb5 ?_) | refine Below.trans ?_ (Below.mono hb4 ?_) | refine Below.trans ?_ (Below.mono hb3 ?_) | refine Below.trans ?_ (Below.mono hb2 ?_) | refine Below.trans ?_ (Below.mono hb1 ?_) | refine Below.drew ?_ | refine below_drewN ?_ _ | refine Below.alloc ?_ ?_ _ | refine Below.setCell ?_ ?_ _ | (simp <;> omega) | omega)⟩
end Go.Proofs.Ytbonniladhablaa
