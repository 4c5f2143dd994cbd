/- Close of package ranging and of its reference, for every input; the law's helpers. -/
import Derived.Test.YtephkhaebkajkaaRgB
import Derived.Test.YtephkhaebkajkaaRgC
import Derived.Test.YtephkhaebkajkaaRgC15
import Derived.Test.YtephkhaebkajkaaRgC16
namespace Go.Proofs.Ytephkhaebkajkaa
open Go.RowKit
attribute [local go_sem ↓] Go.wp_at_zero Go.wp_at_succ
attribute [local go_sem] wrap_lit

def okK (R V N k : Int) : Prop := okX R V N ∧ 0 ≤ k ∧ k ≤ 8192
instance (R V N k : Int) : Decidable (okK R V N k) := by unfold okK; infer_instance
def gK (R V k : Int) : Int := ((Nat.gcd (R - 256 * k).toNat (-V).toNat : Nat) : Int)
def cN (R V N k : Int) : Int := if okK R V N k then (if R ≤ 256 * k then 0 else if 0 ≤ V then 0 else (R - 256 * k) / gK R V k) else 0
def cD (R V N k : Int) : Int := if okK R V N k then (if R ≤ 256 * k then 1 else if 0 ≤ V then 0 else -V / gK R V k) else 0
def cE (R V N k : Int) : Int := if okK R V N k then (if R ≤ 256 * k then 0 else if 0 ≤ V then 9 else 0) else 1

theorem clo15 (R V N k : Int) (w : World) : Calls Try.prog 15 #[.agg #[.int .i64 R, .int .i64 V, .int .i64 N], .int .i64 k] w fun e w' => e = .returned (.tuple #[.int .i64 (cN R V N k), .int .i64 (cD R V N k), .int .i64 (cE R V N k)]) ∧ Below w.heap.size w w' := by
  unfold cN cD cE
  by_cases h : okK R V N k
  · simp only [if_pos h]
    obtain ⟨hx, h1, h2⟩ := h
    by_cases hd : R ≤ 256 * k
    · simp only [if_pos hd]; exact clo15s R V N k w hx h1 h2 hd
    · simp only [if_neg hd]
      by_cases hv : 0 ≤ V
      · simp only [if_pos hv]; exact clo15v R V N k w hx h1 h2 (by omega) hv
      · simp only [if_neg hv]
        have := clo15g R V N k w (R - 256 * k).toNat (-V).toNat hx h1 h2 (by omega) (by omega) (by omega) (by omega)
        rw [Int.toNat_of_nonneg (by omega), Int.toNat_of_nonneg (by omega)] at this
        exact this
  · simp only [if_neg h]
    exact clo15n R V N k w h
theorem clo16 (R V N k : Int) (w : World) : Calls Try.prog 16 #[.agg #[.int .i64 R, .int .i64 V, .int .i64 N], .int .i64 k] w fun e w' => e = .returned (.tuple #[.int .i64 (cN R V N k), .int .i64 (cD R V N k), .int .i64 (cE R V N k)]) ∧ Below w.heap.size w w' := by
  unfold cN cD cE
  by_cases h : okK R V N k
  · simp only [if_pos h]
    obtain ⟨hx, h1, h2⟩ := h
    by_cases hd : R ≤ 256 * k
    · simp only [if_pos hd]; exact clo16s R V N k w hx h1 h2 hd
    · simp only [if_neg hd]
      by_cases hv : 0 ≤ V
      · simp only [if_pos hv]; exact clo16v R V N k w hx h1 h2 (by omega) hv
      · simp only [if_neg hv]
        have := clo16g R V N k w (R - 256 * k).toNat (-V).toNat hx h1 h2 (by omega) (by omega) (by omega) (by omega)
        rw [Int.toNat_of_nonneg (by omega), Int.toNat_of_nonneg (by omega)] at this
        exact this
  · simp only [if_neg h]
    exact clo16n R V N k w h

theorem updated25 (R V N r c A B C : Int) (w : World) (h1 : uR R V N r c = A) (h2 : uV R V N r c = B) (h3 : uN R V N r c = C) (h4 : uE R V N r c = 0) : Calls Try.prog 25 #[.agg #[.int .i64 R, .int .i64 V, .int .i64 N], .int .i64 r, .int .i64 c, .agg #[.int .i64 A, .int .i64 B, .int .i64 C]] w fun e w' => e = .returned (.bool true) ∧ Below w.heap.size w w' := by
  have H := upd13 R V N r c
  rw [h1, h2, h3, h4] at H
  clear h1 h2 h3 h4
  have H' := Lib.hid H; clear H
  go_enter Try.func25, Try.ntmps25
  go_wp2_with fail
  refine (H'.out _).mono ?_
  rintro e w1 ⟨rfl, hb1⟩
  have hc1 := (bcell hb1).1
  have hz1 : w.heap.size + 1 < w1.heap.size := by have := hb1.size; simp at this; omega
  have hz2 : w.heap.size < w1.heap.size := by omega
  go_wp2_with fail
  go_ret
  exact ⟨rfl, (((((Below.refl _ _).alloc (Nat.le_refl _) _).alloc (by simp) _).trans (hb1.mono (by simp; omega))).alloc (by omega) _)⟩

theorem closes30 (R V N k A B : Int) (w : World) (h1 : cN R V N k = A) (h2 : cD R V N k = B) (h3 : cE R V N k = 0) : Calls Try.prog 30 #[.agg #[.int .i64 R, .int .i64 V, .int .i64 N], .int .i64 k, .int .i64 A, .int .i64 B] w fun e w' => e = .returned (.bool true) ∧ Below w.heap.size w w' := by
  have H := clo15 R V N k
  rw [h1, h2, h3] at H
  clear h1 h2 h3
  have H' := Lib.hid H; clear H
  go_enter Try.func30, Try.ntmps30
  go_wp2_with fail
  refine (H'.out _).mono ?_
  rintro e w1 ⟨rfl, hb1⟩
  go_wp2_with fail
  go_ret
  exact ⟨rfl, (((Below.refl _ _).alloc (Nat.le_refl _) _).trans (hb1.mono (by simp)))⟩

theorem nw100 : nwR 100 = 25600 ∧ nwN 100 = 1 ∧ nwE 100 = 0 := by decide +kernel
theorem u_1 : uR 25600 0 1 98 1 = 25088 ∧ uV 25600 0 1 98 1 = -512 ∧ uN 25600 0 1 98 1 = 2 ∧ uE 25600 0 1 98 1 = 0 := by decide +kernel
theorem u_2 : uR 25088 (-512) 2 96 1 = 24576 ∧ uV 25088 (-512) 2 96 1 = -512 ∧ uN 25088 (-512) 2 96 1 = 3 ∧ uE 25088 (-512) 2 96 1 = 0 := by decide +kernel
theorem u_3 : uR 25088 (-512) 2 95 1 = 24363 ∧ uV 25088 (-512) 2 95 1 = -640 ∧ uN 25088 (-512) 2 95 1 = 3 ∧ uE 25088 (-512) 2 95 1 = 0 := by decide +kernel
theorem c_1 : cN 24576 (-512) 3 6 = 45 ∧ cD 24576 (-512) 3 6 = 1 ∧ cE 24576 (-512) 3 6 = 0 := by decide +kernel
theorem c_2 : cN 24576 (-512) 3 97 = 0 ∧ cD 24576 (-512) 3 97 = 1 ∧ cE 24576 (-512) 3 97 = 0 := by decide +kernel

set_option maxHeartbeats 1000000 in
theorem awake19 (w : World) : Calls Try.prog 19 #[] w fun e w' => e = .returned (.bool true) ∧ Below w.heap.size w w' := by
  have H := new9 100
  rw [nw100.1, nw100.2.1, nw100.2.2] at H
  have H' := Lib.hid H; clear H
  go_enter Try.func19, Try.ntmps19
  go_wp2_with fail
  refine (H'.out _).mono ?_
  rintro e w1 ⟨rfl, hb1⟩
  have hz1 : w.heap.size ≤ w1.heap.size := hb1.size
  go_wp2_with fail
  refine (updated25 _ _ _ _ _ _ _ _ _ u_1.1 u_1.2.1 u_1.2.2.1 u_1.2.2.2).mono ?_
  rintro e w2 ⟨rfl, hb2⟩
  have hc2 := (bcell hb2).1
  go_wp2_with fail
  refine (updated25 _ _ _ _ _ _ _ _ _ u_2.1 u_2.2.1 u_2.2.2.1 u_2.2.2.2).mono ?_
  rintro e w3 ⟨rfl, hb3⟩
  have hc3 := (bcell hb3).1
  have hz2 : w1.heap.size + 2 < w2.heap.size := by have := hb2.size; simp at this; omega
  have hz2a : w1.heap.size + 1 < w2.heap.size := by omega
  have hz2b : w1.heap.size < w2.heap.size := by omega
  go_wp2_with fail
  refine (updated25 _ _ _ _ _ _ _ _ _ u_3.1 u_3.2.1 u_3.2.2.1 u_3.2.2.2).mono ?_
  rintro e w4 ⟨rfl, hb4⟩
  have hc4 := (bcell hb4).1
  have hz3 : w1.heap.size + 2 < w3.heap.size := by have := hb3.size; omega
  have hz3a : w1.heap.size + 1 < w3.heap.size := by omega
  have hz3b : w1.heap.size < w3.heap.size := by omega
  go_wp2_with fail
  refine (closes30 _ _ _ _ _ _ _ c_1.1 c_1.2.1 c_1.2.2).mono ?_
  rintro e w5 ⟨rfl, hb5⟩
  have hc5 := (bcell hb5).1
  have hz4 : w1.heap.size + 2 < w4.heap.size := by have := hb4.size; omega
  have hz4a : w1.heap.size + 1 < w4.heap.size := by omega
  have hz4b : w1.heap.size < w4.heap.size := by omega
  go_wp2_with fail
  refine (closes30 _ _ _ _ _ _ _ c_2.1 c_2.2.1 c_2.2.2).mono ?_
  rintro e w6 ⟨rfl, hb6⟩
  have hz5 : w1.heap.size + 2 < w5.heap.size := by have := hb5.size; omega
  go_wp2_with fail
  go_ret
  exact ⟨rfl, (((((((hb1.alloc hz1 _).alloc (by simp; omega) _).alloc (by simp; omega) _).trans (hb2.mono (by simp; omega))).trans (hb3.mono (by omega))).trans (hb4.mono (by omega))).trans (hb5.mono (by omega))).trans (hb6.mono (by omega))⟩
end Go.Proofs.Ytephkhaebkajkaa
