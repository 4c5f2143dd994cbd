/- Package ranging: one case of Update. -/
import Derived.Test.YtephkhaebkajkaaRows
import Derived.WalkKit
import Derived.WalkLawsBesides
import Derived.WalkSpells
import Derived.ProofKit
import Derived.Below
import Derived.Outline
import Derived.Lib.Hide
import Derived.Deep.RegionWith
import Derived.Deep.RegionHeld3
import Derived.Deep.DrawnRows
import Derived.StillTailTactics
import Derived.BigQuiet
import Derived.Deep.QuietTactic
import Derived.Deep.LoopGhost
import Derived.IntWalk
import Derived.Test.YtephkhaebkajkaaRgA
namespace Go.Proofs.Ytephkhaebkajkaa
open Go.RowKit
attribute [local go_sem ↓] Go.wp_at_zero Go.wp_at_succ
attribute [local go_sem] wrap_lit

set_option maxHeartbeats 1000000 in
theorem upd13c (R V r c : Int) (w : World) (h : okU R V 1000 r c)  : Calls Try.prog 13 #[.agg #[.int .i64 R, .int .i64 V, .int .i64 1000], .int .i64 r, .int .i64 c] w fun e w' => e = .returned (.tuple #[.agg #[.int .i64 (upR R V 1000 r c), .int .i64 (upV R V 1000 r c), .int .i64 (upN 1000)], .int .i64 0]) ∧ Below w.heap.size w w' := by
  have H1 : upR R V 1000 r c = lim (R + c * V + rnd (30 * (256 * r - (R + c * V))) (72)) 0 2097152 := by
    have : gn 1000 = 8 := by unfold gn; omega
    unfold upR; rw [this]; rfl
  have H2 : upV R V 1000 r c = lim (V + rnd (6 * (256 * r - (R + c * V))) (72 * c)) (-16384) 16384 := by
    have : gn 1000 = 8 := by unfold gn; omega
    unfold upV; rw [this]; rfl
  have H3 : upN 1000 = 1000 := by unfold upN; omega
  rw [H1, H2, H3]; clear H1 H2 H3
  obtain ⟨hx, h7, h8, h9, h10⟩ := h
  have HC := chk17 R V 1000
  rw [show chk R V 1000 = 0 by unfold chk; rw [if_pos hx]] at HC
  obtain ⟨h1, h2, h3, h4, h5, h6⟩ := hx
  obtain ⟨a1, a2⟩ := mul_bd (a := c) (b := V) (A := 16) (B := 16384) (by omega) (by omega) (by omega) (by omega)
  obtain ⟨g1, g1'⟩ := rnd_bd (30 * (256 * r - (R + c * V))) (72) (by omega) 1000000000 (by omega) (by omega) (by omega)
  obtain ⟨g2, g2'⟩ := rnd_bd (6 * (256 * r - (R + c * V))) (72 * c) (by omega) 1000000000 (by omega) (by omega) (by omega)
  have q0 : IntKind.i64.wrap (6 * (256 * r - (R + c * V))) = 6 * (256 * r - (R + c * V)) := IntWalk.i64_in _ (by omega)
  have q1 : IntKind.i64.wrap (72 * c) = 72 * c := IntWalk.i64_in _ (by omega)
  have q2 : IntKind.i64.wrap (V + rnd (6 * (256 * r - (R + c * V))) (72 * c)) = V + rnd (6 * (256 * r - (R + c * V))) (72 * c) := IntWalk.i64_in _ (by omega)
  have Q0 := Lib.hid q0; clear q0
  have Q1 := Lib.hid q1; clear q1
  have Q2 := Lib.hid q2; clear q2
  have HC' := Lib.hid HC; clear HC
  go_enter Try.func13, Try.ntmps13
  go_wp2_with (go_at_call 17; refine (HC'.out _).mono ?_; rintro e w1 ⟨rfl, rfl⟩)
  refine (lim26 _ _ _).mono ?_
  rintro e w2 ⟨rfl, rfl⟩
  go_wp2_with fail
  refine (rnd28 _ _ _ (by omega) (by omega) (by omega) (by omega)).mono ?_
  rintro e w2 ⟨rfl, rfl⟩
  go_wp2_with fail
  refine (clo31 _ 0 2097152 _ _ _ ?_ ?_).mono ?_
  · go_simp
  · go_simp
  rintro e w2 ⟨rfl, rfl⟩
  go_wp2_with fail
  have q0 := Q0.out
  have q1 := Q1.out
  have q2 := Q2.out
  go_region_with (first | (go_at_call 26; refine (lim26 _ _ _).mono ?_; rintro e w2 ⟨rfl, rfl⟩) | (go_at_call 28; refine (rnd28 _ _ _ (by omega) (by omega) (by omega) (by omega)).mono ?_; rintro e w2 ⟨rfl, rfl⟩) | (go_at_call 31; refine (clo31 _ (-16384) 16384 _ _ _ ?_ ?_).mono ?_; (focus (go_simp; done)); (focus (go_simp; done)); rintro e w2 ⟨rfl, rfl⟩))
  all_goals clear q0
  all_goals clear q1
  all_goals clear q2
  all_goals go_wp2_with fail
  all_goals exact bodyPost_ret (v := .tuple #[.agg #[.int .i64 (lim (R + c * V + rnd (30 * (256 * r - (R + c * V))) (72)) 0 2097152), .int .i64 (lim (V + rnd (6 * (256 * r - (R + c * V))) (72 * c)) (-16384) 16384), .int .i64 (1000)], .int .i64 0]) (by simp [results, Try.results13, go_sem]) rfl ⟨rfl, by repeat' (first | exact Below.refl _ _ | refine Below.drew ?_ | refine Below.alloc ?_ ?_ _ | (simp <;> omega))⟩

end Go.Proofs.Ytephkhaebkajkaa
