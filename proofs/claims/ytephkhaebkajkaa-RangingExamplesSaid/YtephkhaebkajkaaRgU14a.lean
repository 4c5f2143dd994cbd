/- The reference of package ranging: one case of Update. -/
import Derived.Test.YtephkhaebkajkaaRows
import Derived.WalkKit
import Derived.WalkLawsBesides
import Derived.WalkSpells
import Derived.ProofKit
import Derived.Below
import Derived.Outline
import Derived.Lib.Hide
import Derived.Deep.RegionWith
import Derived.Deep.RegionHeld3
import Derived.Deep.DrawnRows
import Derived.StillTailTactics
import Derived.BigQuiet
import Derived.Deep.QuietTactic
import Derived.Deep.LoopGhost
import Derived.IntWalk
import Derived.Test.YtephkhaebkajkaaRgA
namespace Go.Proofs.Ytephkhaebkajkaa
open Go.RowKit
attribute [local go_sem ↓] Go.wp_at_zero Go.wp_at_succ
attribute [local go_sem] wrap_lit

set_option maxHeartbeats 1000000 in
theorem upd14a (R V N r c : Int) (w : World) (h : okU R V N r c) (hN : N ≤ 7) : Calls Try.prog 14 #[.agg #[.int .i64 R, .int .i64 V, .int .i64 N], .int .i64 r, .int .i64 c] w fun e w' => e = .returned (.tuple #[.agg #[.int .i64 (upR R V N r c), .int .i64 (upV R V N r c), .int .i64 (upN N)], .int .i64 0]) ∧ Below w.heap.size w w' := by
  have H1 : upR R V N r c = lim (R + c * V + rnd (2 * (2 * (N + 1) - 1) * (256 * r - (R + c * V))) ((N + 1) * (N + 1 + 1))) 0 2097152 := by
    have : gn N = N + 1 := by unfold gn; omega
    unfold upR; rw [this]
  have H2 : upV R V N r c = lim (V + rnd (6 * (256 * r - (R + c * V))) ((N + 1) * (N + 1 + 1) * c)) (-16384) 16384 := by
    have : gn N = N + 1 := by unfold gn; omega
    unfold upV; rw [this]
  have H3 : upN N = N + 1 := by unfold upN; obtain ⟨hx, _⟩ := h; unfold okX at hx; omega
  rw [H1, H2, H3]; clear H1 H2 H3
  obtain ⟨hx, h7, h8, h9, h10⟩ := h
  have HC := chk18 R V N
  rw [show chk R V N = 0 by unfold chk; rw [if_pos hx]] at HC
  obtain ⟨h1, h2, h3, h4, h5, h6⟩ := hx
  obtain ⟨a1, a2⟩ := mul_bd (a := c) (b := V) (A := 16) (B := 16384) (by omega) (by omega) (by omega) (by omega)
  have hN' : N = 1 ∨ N = 2 ∨ N = 3 ∨ N = 4 ∨ N = 5 ∨ N = 6 ∨ N = 7 := by omega
  have f1 : 6 ≤ (N + 1) * (N + 1 + 1) := by rcases hN' with rfl | rfl | rfl | rfl | rfl | rfl | rfl <;> omega
  have f1' : (N + 1) * (N + 1 + 1) ≤ 72 := by rcases hN' with rfl | rfl | rfl | rfl | rfl | rfl | rfl <;> omega
  have f2 : -1000000000 ≤ 2 * (2 * (N + 1) - 1) * (256 * r - (R + c * V)) := by rcases hN' with rfl | rfl | rfl | rfl | rfl | rfl | rfl <;> omega
  have f2' : 2 * (2 * (N + 1) - 1) * (256 * r - (R + c * V)) ≤ 1000000000 := by rcases hN' with rfl | rfl | rfl | rfl | rfl | rfl | rfl <;> omega
  have f3 : 1 ≤ (N + 1) * (N + 1 + 1) * c := by rcases hN' with rfl | rfl | rfl | rfl | rfl | rfl | rfl <;> omega
  have f3' : (N + 1) * (N + 1 + 1) * c ≤ 10000 := by rcases hN' with rfl | rfl | rfl | rfl | rfl | rfl | rfl <;> omega
  have hn8 : N + 1 < 9 := by omega
  clear hN'
  obtain ⟨g1, g1'⟩ := rnd_bd (2 * (2 * (N + 1) - 1) * (256 * r - (R + c * V))) ((N + 1) * (N + 1 + 1)) (by omega) 1000000000 (by omega) (by omega) (by omega)
  obtain ⟨g2, g2'⟩ := rnd_bd (6 * (256 * r - (R + c * V))) ((N + 1) * (N + 1 + 1) * c) (by omega) 1000000000 (by omega) (by omega) (by omega)
  have q0 : IntKind.i64.wrap (6 * (256 * r - (R + c * V))) = 6 * (256 * r - (R + c * V)) := IntWalk.i64_in _ (by omega)
  have q1 : IntKind.i64.wrap (N + 1 + 1) = N + 1 + 1 := IntWalk.i64_in _ (by omega)
  have q2 : IntKind.i64.wrap ((N + 1) * (N + 1 + 1)) = (N + 1) * (N + 1 + 1) := IntWalk.i64_in _ (by omega)
  have q3 : IntKind.i64.wrap ((N + 1) * (N + 1 + 1) * c) = (N + 1) * (N + 1 + 1) * c := IntWalk.i64_in _ (by omega)
  have q4 : IntKind.i64.wrap (V + rnd (6 * (256 * r - (R + c * V))) ((N + 1) * (N + 1 + 1) * c)) = V + rnd (6 * (256 * r - (R + c * V))) ((N + 1) * (N + 1 + 1) * c) := IntWalk.i64_in _ (by omega)
  have q5 : IntKind.i64.wrap (2 * (2 * (N + 1) - 1) * (256 * r - (R + c * V))) = 2 * (2 * (N + 1) - 1) * (256 * r - (R + c * V)) := IntWalk.i64_in _ (by omega)
  have q6 : IntKind.i64.wrap (2 * (N + 1)) = 2 * (N + 1) := IntWalk.i64_in _ (by omega)
  have q7 : IntKind.i64.wrap (2 * (N + 1) - 1) = 2 * (N + 1) - 1 := IntWalk.i64_in _ (by omega)
  have q8 : IntKind.i64.wrap (2 * (2 * (N + 1) - 1)) = 2 * (2 * (N + 1) - 1) := IntWalk.i64_in _ (by omega)
  have q9 : IntKind.i64.wrap (R + c * V + rnd (2 * (2 * (N + 1) - 1) * (256 * r - (R + c * V))) ((N + 1) * (N + 1 + 1))) = R + c * V + rnd (2 * (2 * (N + 1) - 1) * (256 * r - (R + c * V))) ((N + 1) * (N + 1 + 1)) := IntWalk.i64_in _ (by omega)
  have q10 : IntKind.i64.wrap (N + 1) = N + 1 := IntWalk.i64_in _ (by omega)
  have Q0 := Lib.hid q0; clear q0
  have Q1 := Lib.hid q1; clear q1
  have Q2 := Lib.hid q2; clear q2
  have Q3 := Lib.hid q3; clear q3
  have Q4 := Lib.hid q4; clear q4
  have Q5 := Lib.hid q5; clear q5
  have Q6 := Lib.hid q6; clear q6
  have Q7 := Lib.hid q7; clear q7
  have Q8 := Lib.hid q8; clear q8
  have Q9 := Lib.hid q9; clear q9
  have Q10 := Lib.hid q10; clear q10
  have HC' := Lib.hid HC; clear HC
  go_enter Try.func14, Try.ntmps14
  go_wp2_with (go_at_call 18; refine (HC'.out _).mono ?_; rintro e w1 ⟨rfl, rfl⟩)
  have q0 := Q0.out
  have q1 := Q1.out
  have q2 := Q2.out
  have q3 := Q3.out
  have q4 := Q4.out
  have q5 := Q5.out
  have q6 := Q6.out
  have q7 := Q7.out
  have q8 := Q8.out
  have q9 := Q9.out
  have q10 := Q10.out
  refine still_drew 32 (by kernel_rfl) (by kernel_rfl) ?_
  simp only [List.take_succ_cons, List.take_zero, List.drop_succ_cons, List.drop_zero]
  repeat still_step
  still_call (flipc (rnd29 _ _ _ (by omega) (by omega) (by omega) (by omega)))
  repeat still_step
  still_call (flipc (lim27 _ _ _ _))
  repeat still_step
  still_call (flipc (rnd29 _ _ _ (by omega) (by omega) (by omega) (by omega)))
  repeat still_step
  still_call (flipc (lim27 _ _ _ _))
  repeat still_step
  refine wpStill_nil ?_
  all_goals go_wp2_with fail
  all_goals exact bodyPost_ret (v := .tuple #[.agg #[.int .i64 (lim (R + c * V + rnd (2 * (2 * (N + 1) - 1) * (256 * r - (R + c * V))) ((N + 1) * (N + 1 + 1))) 0 2097152), .int .i64 (lim (V + rnd (6 * (256 * r - (R + c * V))) ((N + 1) * (N + 1 + 1) * c)) (-16384) 16384), .int .i64 (N + 1)], .int .i64 0]) (by simp [results, Try.results14, go_sem]) rfl ⟨rfl, by repeat' (first | exact Below.refl _ _ | refine Below.drew ?_ | refine Below.alloc ?_ ?_ _ | (simp <;> omega))⟩

end Go.Proofs.Ytephkhaebkajkaa
