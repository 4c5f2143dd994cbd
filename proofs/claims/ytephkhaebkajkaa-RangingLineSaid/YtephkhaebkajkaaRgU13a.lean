/- Package ranging: one case of Update. -/
import Derived.Test.YtephkhaebkajkaaRows
import Derived.WalkKit
import Derived.WalkLawsBesides
import Derived.WalkSpells
import Derived.ProofKit
import Derived.Below
import Derived.Outline
import Derived.Lib.Hide
import Derived.Deep.RegionWith
import Derived.Deep.RegionHeld3
import Derived.Deep.DrawnRows
import Derived.StillTailTactics
import Derived.BigQuiet
import Derived.Deep.QuietTactic
import Derived.Deep.LoopGhost
import Derived.IntWalk
import Derived.Test.YtephkhaebkajkaaRgA
namespace Go.Proofs.Ytephkhaebkajkaa
open Go.RowKit
attribute [local go_sem ↓] Go.wp_at_zero Go.wp_at_succ
attribute [local go_sem] wrap_lit

set_option maxHeartbeats 1000000 in
theorem upd13a (R V N r c : Int) (w : World) (h : okU R V N r c) (hN : N ≤ 7) : Calls Try.prog 13 #[.agg #[.int .i64 R, .int .i64 V, .int .i64 N], .int .i64 r, .int .i64 c] w fun e w' => e = .returned (.tuple #[.agg #[.int .i64 (upR R V N r c), .int .i64 (upV R V N r c), .int .i64 (upN N)], .int .i64 0]) ∧ Below w.heap.size w w' := by
  have H1 : upR R V N r c = lim (R + c * V + rnd (2 * (2 * (N + 1) - 1) * (256 * r - (R + c * V))) ((N + 1) * (N + 1 + 1))) 0 2097152 := by
    have : gn N = N + 1 := by unfold gn; omega
    unfold upR; rw [this]
  have H2 : upV R V N r c = lim (V + rnd (6 * (256 * r - (R + c * V))) ((N + 1) * (N + 1 + 1) * c)) (-16384) 16384 := by
    have : gn N = N + 1 := by unfold gn; omega
    unfold upV; rw [this]
  have H3 : upN N = N + 1 := by unfold upN; obtain ⟨hx, _⟩ := h; unfold okX at hx; omega
  rw [H1, H2, H3]; clear H1 H2 H3
  obtain ⟨hx, h7, h8, h9, h10⟩ := h
  have HC := chk17 R V N
  rw [show chk R V N = 0 by unfold chk; rw [if_pos hx]] at HC
  obtain ⟨h1, h2, h3, h4, h5, h6⟩ := hx
  obtain ⟨a1, a2⟩ := mul_bd (a := c) (b := V) (A := 16) (B := 16384) (by omega) (by omega) (by omega) (by omega)
  have hN' : N = 1 ∨ N = 2 ∨ N = 3 ∨ N = 4 ∨ N = 5 ∨ N = 6 ∨ N = 7 := by omega
  have f1 : 6 ≤ (N + 1) * (N + 1 + 1) := by rcases hN' with rfl | rfl | rfl | rfl | rfl | rfl | rfl <;> omega
  have f1' : (N + 1) * (N + 1 + 1) ≤ 72 := by rcases hN' with rfl | rfl | rfl | rfl | rfl | rfl | rfl <;> omega
  have f2 : -1000000000 ≤ 2 * (2 * (N + 1) - 1) * (256 * r - (R + c * V)) := by rcases hN' with rfl | rfl | rfl | rfl | rfl | rfl | rfl <;> omega
  have f2' : 2 * (2 * (N + 1) - 1) * (256 * r - (R + c * V)) ≤ 1000000000 := by rcases hN' with rfl | rfl | rfl | rfl | rfl | rfl | rfl <;> omega
  have f3 : 1 ≤ (N + 1) * (N + 1 + 1) * c := by rcases hN' with rfl | rfl | rfl | rfl | rfl | rfl | rfl <;> omega
  have f3' : (N + 1) * (N + 1 + 1) * c ≤ 10000 := by rcases hN' with rfl | rfl | rfl | rfl | rfl | rfl | rfl <;> omega
  have hn8 : N + 1 < 9 := by omega
  clear hN'
  obtain ⟨g1, g1'⟩ := rnd_bd (2 * (2 * (N + 1) - 1) * (256 * r - (R + c * V))) ((N + 1) * (N + 1 + 1)) (by omega) 1000000000 (by omega) (by omega) (by omega)
  obtain ⟨g2, g2'⟩ := rnd_bd (6 * (256 * r - (R + c * V))) ((N + 1) * (N + 1 + 1) * c) (by omega) 1000000000 (by omega) (by omega) (by omega)
  have q0 : IntKind.i64.wrap (6 * (256 * r - (R + c * V))) = 6 * (256 * r - (R + c * V)) := IntWalk.i64_in _ (by omega)
  have q1 : IntKind.i64.wrap (N + 1 + 1) = N + 1 + 1 := IntWalk.i64_in _ (by omega)
  have q2 : IntKind.i64.wrap ((N + 1) * (N + 1 + 1)) = (N + 1) * (N + 1 + 1) := IntWalk.i64_in _ (by omega)
  have q3 : IntKind.i64.wrap ((N + 1) * (N + 1 + 1) * c) = (N + 1) * (N + 1 + 1) * c := IntWalk.i64_in _ (by omega)
  have q4 : IntKind.i64.wrap (V + rnd (6 * (256 * r - (R + c * V))) ((N + 1) * (N + 1 + 1) * c)) = V + rnd (6 * (256 * r - (R + c * V))) ((N + 1) * (N + 1 + 1) * c) := IntWalk.i64_in _ (by omega)
  have Q0 := Lib.hid q0; clear q0
  have Q1 := Lib.hid q1; clear q1
  have Q2 := Lib.hid q2; clear q2
  have Q3 := Lib.hid q3; clear q3
  have Q4 := Lib.hid q4; clear q4
  have HC' := Lib.hid HC; clear HC
  go_enter Try.func13, Try.ntmps13
  go_wp2_with (go_at_call 17; refine (HC'.out _).mono ?_; rintro e w1 ⟨rfl, rfl⟩)
  refine (lim26 _ _ _).mono ?_
  rintro e w2 ⟨rfl, rfl⟩
  go_wp2_with fail
  refine (rnd28 _ _ _ (by omega) (by omega) (by omega) (by omega)).mono ?_
  rintro e w2 ⟨rfl, rfl⟩
  go_wp2_with fail
  refine (clo31 _ 0 2097152 _ _ _ ?_ ?_).mono ?_
  · go_simp
  · go_simp
  rintro e w2 ⟨rfl, rfl⟩
  go_wp2_with fail
  have q0 := Q0.out
  have q1 := Q1.out
  have q2 := Q2.out
  have q3 := Q3.out
  have q4 := Q4.out
  go_region_with (first | (go_at_call 26; refine (lim26 _ _ _).mono ?_; rintro e w2 ⟨rfl, rfl⟩) | (go_at_call 28; refine (rnd28 _ _ _ (by omega) (by omega) (by omega) (by omega)).mono ?_; rintro e w2 ⟨rfl, rfl⟩) | (go_at_call 31; refine (clo31 _ (-16384) 16384 _ _ _ ?_ ?_).mono ?_; (focus (go_simp; done)); (focus (go_simp; done)); rintro e w2 ⟨rfl, rfl⟩))
  all_goals clear q0
  all_goals clear q1
  all_goals clear q2
  all_goals clear q3
  all_goals clear q4
  all_goals go_wp2_with fail
  all_goals exact bodyPost_ret (v := .tuple #[.agg #[.int .i64 (lim (R + c * V + rnd (2 * (2 * (N + 1) - 1) * (256 * r - (R + c * V))) ((N + 1) * (N + 1 + 1))) 0 2097152), .int .i64 (lim (V + rnd (6 * (256 * r - (R + c * V))) ((N + 1) * (N + 1 + 1) * c)) (-16384) 16384), .int .i64 (N + 1)], .int .i64 0]) (by simp [results, Try.results13, go_sem]) rfl ⟨rfl, by repeat' (first | exact Below.refl _ _ | refine Below.drew ?_ | refine Below.alloc ?_ ?_ _ | (simp <;> omega))⟩

end Go.Proofs.Ytephkhaebkajkaa
