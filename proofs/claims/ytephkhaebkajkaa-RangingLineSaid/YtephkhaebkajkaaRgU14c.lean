/- The reference of package ranging: one case of Update. -/
import Derived.Test.YtephkhaebkajkaaRows
import Derived.WalkKit
import Derived.WalkLawsBesides
import Derived.WalkSpells
import Derived.ProofKit
import Derived.Below
import Derived.Outline
import Derived.Lib.Hide
import Derived.Deep.RegionWith
import Derived.Deep.RegionHeld3
import Derived.Deep.DrawnRows
import Derived.StillTailTactics
import Derived.BigQuiet
import Derived.Deep.QuietTactic
import Derived.Deep.LoopGhost
import Derived.IntWalk
import Derived.Test.YtephkhaebkajkaaRgA
namespace Go.Proofs.Ytephkhaebkajkaa
open Go.RowKit
attribute [local go_sem ↓] Go.wp_at_zero Go.wp_at_succ
attribute [local go_sem] wrap_lit

set_option maxHeartbeats 1000000 in
theorem upd14c (R V r c : Int) (w : World) (h : okU R V 1000 r c)  : Calls Try.prog 14 #[.agg #[.int .i64 R, .int .i64 V, .int .i64 1000], .int .i64 r, .int .i64 c] w fun e w' => e = .returned (.tuple #[.agg #[.int .i64 (upR R V 1000 r c), .int .i64 (upV R V 1000 r c), .int .i64 (upN 1000)], .int .i64 0]) ∧ Below w.heap.size w w' := by
  have H1 : upR R V 1000 r c = lim (R + c * V + rnd (30 * (256 * r - (R + c * V))) (72)) 0 2097152 := by
    have : gn 1000 = 8 := by unfold gn; omega
    unfold upR; rw [this]; rfl
  have H2 : upV R V 1000 r c = lim (V + rnd (6 * (256 * r - (R + c * V))) (72 * c)) (-16384) 16384 := by
    have : gn 1000 = 8 := by unfold gn; omega
    unfold upV; rw [this]; rfl
  have H3 : upN 1000 = 1000 := by unfold upN; omega
  rw [H1, H2, H3]; clear H1 H2 H3
  obtain ⟨hx, h7, h8, h9, h10⟩ := h
  have HC := chk18 R V 1000
  rw [show chk R V 1000 = 0 by unfold chk; rw [if_pos hx]] at HC
  obtain ⟨h1, h2, h3, h4, h5, h6⟩ := hx
  obtain ⟨a1, a2⟩ := mul_bd (a := c) (b := V) (A := 16) (B := 16384) (by omega) (by omega) (by omega) (by omega)
  obtain ⟨g1, g1'⟩ := rnd_bd (30 * (256 * r - (R + c * V))) (72) (by omega) 1000000000 (by omega) (by omega) (by omega)
  obtain ⟨g2, g2'⟩ := rnd_bd (6 * (256 * r - (R + c * V))) (72 * c) (by omega) 1000000000 (by omega) (by omega) (by omega)
  have q0 : IntKind.i64.wrap (6 * (256 * r - (R + c * V))) = 6 * (256 * r - (R + c * V)) := IntWalk.i64_in _ (by omega)
  have q1 : IntKind.i64.wrap (72 * c) = 72 * c := IntWalk.i64_in _ (by omega)
  have q2 : IntKind.i64.wrap (V + rnd (6 * (256 * r - (R + c * V))) (72 * c)) = V + rnd (6 * (256 * r - (R + c * V))) (72 * c) := IntWalk.i64_in _ (by omega)
  have q3 : IntKind.i64.wrap (30 * (256 * r - (R + c * V))) = 30 * (256 * r - (R + c * V)) := IntWalk.i64_in _ (by omega)
  have q4 : IntKind.i64.wrap (R + c * V + rnd (30 * (256 * r - (R + c * V))) (72)) = R + c * V + rnd (30 * (256 * r - (R + c * V))) (72) := IntWalk.i64_in _ (by omega)
  have Q0 := Lib.hid q0; clear q0
  have Q1 := Lib.hid q1; clear q1
  have Q2 := Lib.hid q2; clear q2
  have Q3 := Lib.hid q3; clear q3
  have Q4 := Lib.hid q4; clear q4
  have HC' := Lib.hid HC; clear HC
  go_enter Try.func14, Try.ntmps14
  go_wp2_with (go_at_call 18; refine (HC'.out _).mono ?_; rintro e w1 ⟨rfl, rfl⟩)
  have q0 := Q0.out
  have q1 := Q1.out
  have q2 := Q2.out
  have q3 := Q3.out
  have q4 := Q4.out
  refine still_drew 32 (by kernel_rfl) (by kernel_rfl) ?_
  simp only [List.take_succ_cons, List.take_zero, List.drop_succ_cons, List.drop_zero]
  repeat still_step
  still_call (flipc (rnd29 _ _ _ (by omega) (by omega) (by omega) (by omega)))
  repeat still_step
  still_call (flipc (lim27 _ _ _ _))
  repeat still_step
  still_call (flipc (rnd29 _ _ _ (by omega) (by omega) (by omega) (by omega)))
  repeat still_step
  still_call (flipc (lim27 _ _ _ _))
  repeat still_step
  refine wpStill_nil ?_
  all_goals go_wp2_with fail
  all_goals exact bodyPost_ret (v := .tuple #[.agg #[.int .i64 (lim (R + c * V + rnd (30 * (256 * r - (R + c * V))) (72)) 0 2097152), .int .i64 (lim (V + rnd (6 * (256 * r - (R + c * V))) (72 * c)) (-16384) 16384), .int .i64 (1000)], .int .i64 0]) (by simp [results, Try.results14, go_sem]) rfl ⟨rfl, by repeat' (first | exact Below.refl _ _ | refine Below.drew ?_ | refine Below.alloc ?_ ?_ _ | (simp <;> omega))⟩

end Go.Proofs.Ytephkhaebkajkaa
