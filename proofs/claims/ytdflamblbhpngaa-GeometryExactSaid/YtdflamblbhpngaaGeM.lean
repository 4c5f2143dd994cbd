/- Laws of chapter 16: less, and the closures of GeometryExact. -/
import Derived.Test.YtdflamblbhpngaaRows
import Derived.WalkKit
import Derived.WalkLawsBesides
import Derived.WalkSpells
import Derived.ProofKit
import Derived.Below
import Derived.Outline
import Derived.Lib.Hide
import Derived.Deep.RegionWith
import Derived.Deep.RegionHeld3
import Derived.Deep.DrawnRows
import Derived.StillTailTactics
import Derived.BigQuiet
import Derived.Deep.QuietTactic
import Derived.Deep.LoopGhost
import Derived.IntWalk
import Derived.Test.YtdflamblbhpngaaGeZ
namespace Go.Proofs.Ytdflamblbhpngaa
open Go.RowKit
attribute [local go_sem ↓] Go.wp_at_zero Go.wp_at_succ
attribute [local go_sem] wrap_lit

theorem sq_le3 (a b c : Int) (h : a * a + b * b + c * c ≤ 1000000000000000000) : a * a ≤ 1000000000000000000 ∧ 0 ≤ a * a ∧ b * b ≤ 1000000000000000000 ∧ 0 ≤ b * b ∧ c * c ≤ 1000000000000000000 ∧ 0 ≤ c * c := by
  have n1 := sq_nn a; have n2 := sq_nn b; have n3 := sq_nn c
  omega
theorem bd4 (b d : Int) (b0 : 0 ≤ b) (b1 : b ≤ 19) (d0 : 0 ≤ d) (d1 : d ≤ 300000) : (0 ≤ 9025 * b * b ∧ 9025 * b * b ≤ 3258025) ∧ (0 ≤ 9025 * b * b * d ∧ 9025 * b * b * d ≤ 977407500000) ∧ (0 ≤ 9025 * b * b * d * d ∧ 9025 * b * b * d * d ≤ 293222250000000000) := by
  have x1 : 0 ≤ 9025 * b * b := Int.mul_nonneg (by omega) b0
  have x2 : 9025 * b * b ≤ 9025 * 19 * 19 := Int.mul_le_mul (by omega) b1 b0 (by omega)
  have y1 : 0 ≤ 9025 * b * b * d := Int.mul_nonneg x1 d0
  have y2 : 9025 * b * b * d ≤ 3258025 * 300000 := Int.mul_le_mul (by omega) d1 d0 (by omega)
  have z1 : 0 ≤ 9025 * b * b * d * d := Int.mul_nonneg y1 d0
  have z2 : 9025 * b * b * d * d ≤ 977407500000 * 300000 := Int.mul_le_mul (by omega) d1 d0 (by omega)
  omega
set_option maxRecDepth 100000 in
set_option maxHeartbeats 4000000 in
theorem less24 (p q v u : V3) (n d b : Int) (w : World) (hp : smP p) (hq : smP q) (hv : smV v) (hu : smV u) (n0 : 0 ≤ n) (n1 : n ≤ 6000000) (d0 : 1 ≤ d) (d1 : d ≤ 300000) (b0 : 0 ≤ b) (b1 : b ≤ 19) (hdot : dot (scG p q v u n d) (scG p q v u n d) ≤ 1000000000000000000) :
    Calls Try.prog 24 #[.agg #[.int .i64 p.x, .int .i64 p.y, .int .i64 p.z, .int .i64 q.x, .int .i64 q.y, .int .i64 q.z, .int .i64 v.x, .int .i64 v.y, .int .i64 v.z, .int .i64 u.x, .int .i64 u.y, .int .i64 u.z], .int .i64 n, .int .i64 d, .int .i64 b] w fun e w' => e = .returned (.bool (leB p q v u n d b)) ∧ Below w.heap.size w w' := by
  obtain ⟨hp1, hp2, hp3, hp4, hp5, hp6⟩ := hp
  obtain ⟨hq1, hq2, hq3, hq4, hq5, hq6⟩ := hq
  obtain ⟨hv1, hv2, hv3, hv4, hv5, hv6⟩ := hv
  obtain ⟨hu1, hu2, hu3, hu4, hu5, hu6⟩ := hu
  obtain ⟨ma1, ma2⟩ := mul_bd (a := q.x - p.x) (b := d) (A := 14) (B := 300000) (by omega) (by omega) (by omega) (by omega)
  obtain ⟨mb1, mb2⟩ := mul_bd (a := q.y - p.y) (b := d) (A := 14) (B := 300000) (by omega) (by omega) (by omega) (by omega)
  obtain ⟨mc1, mc2⟩ := mul_bd (a := q.z - p.z) (b := d) (A := 598) (B := 300000) (by omega) (by omega) (by omega) (by omega)
  obtain ⟨mx1, mx2⟩ := mul_bd (a := u.x - v.x) (b := n) (A := 4) (B := 6000000) (by omega) (by omega) (by omega) (by omega)
  obtain ⟨my1, my2⟩ := mul_bd (a := u.y - v.y) (b := n) (A := 4) (B := 6000000) (by omega) (by omega) (by omega) (by omega)
  obtain ⟨mz1, mz2⟩ := mul_bd (a := u.z - v.z) (b := n) (A := 18) (B := 6000000) (by omega) (by omega) (by omega) (by omega)
  obtain ⟨s1, s2, s3, s4, s5, s6⟩ := sq_le3 (95 * ((q.x - p.x) * d + (u.x - v.x) * n)) (95 * ((q.y - p.y) * d + (u.y - v.y) * n)) ((q.z - p.z) * d + (u.z - v.z) * n) hdot
  have h0 : 95 * ((q.x - p.x) * d + (u.x - v.x) * n) * (95 * ((q.x - p.x) * d + (u.x - v.x) * n)) + 95 * ((q.y - p.y) * d + (u.y - v.y) * n) * (95 * ((q.y - p.y) * d + (u.y - v.y) * n)) + ((q.z - p.z) * d + (u.z - v.z) * n) * ((q.z - p.z) * d + (u.z - v.z) * n) ≤ 1000000000000000000 := hdot
  obtain ⟨⟨r1, r2⟩, ⟨r3, r4⟩, r5, r6⟩ := bd4 b d b0 b1 (by omega) d1
  have H : Hid (leB p q v u n d b = decide (95 * ((q.x - p.x) * d + (u.x - v.x) * n) * (95 * ((q.x - p.x) * d + (u.x - v.x) * n)) + 95 * ((q.y - p.y) * d + (u.y - v.y) * n) * (95 * ((q.y - p.y) * d + (u.y - v.y) * n)) + ((q.z - p.z) * d + (u.z - v.z) * n) * ((q.z - p.z) * d + (u.z - v.z) * n) < 9025 * b * b * d * d)) := Lib.hid rfl
  have w0 : IntKind.i64.wrap ((q.x - p.x) * d) = (q.x - p.x) * d := IntWalk.i64_in _ (by omega)
  have w1 : IntKind.i64.wrap ((q.y - p.y) * d) = (q.y - p.y) * d := IntWalk.i64_in _ (by omega)
  have w2 : IntKind.i64.wrap ((q.z - p.z) * d) = (q.z - p.z) * d := IntWalk.i64_in _ (by omega)
  have w3 : IntKind.i64.wrap ((u.x - v.x) * n) = (u.x - v.x) * n := IntWalk.i64_in _ (by omega)
  have w4 : IntKind.i64.wrap ((u.y - v.y) * n) = (u.y - v.y) * n := IntWalk.i64_in _ (by omega)
  have w5 : IntKind.i64.wrap ((u.z - v.z) * n) = (u.z - v.z) * n := IntWalk.i64_in _ (by omega)
  have w6 : IntKind.i64.wrap (95 * ((q.x - p.x) * d + (u.x - v.x) * n) * (95 * ((q.x - p.x) * d + (u.x - v.x) * n))) = 95 * ((q.x - p.x) * d + (u.x - v.x) * n) * (95 * ((q.x - p.x) * d + (u.x - v.x) * n)) := IntWalk.i64_in _ (by omega)
  have w7 : IntKind.i64.wrap (95 * ((q.y - p.y) * d + (u.y - v.y) * n) * (95 * ((q.y - p.y) * d + (u.y - v.y) * n))) = 95 * ((q.y - p.y) * d + (u.y - v.y) * n) * (95 * ((q.y - p.y) * d + (u.y - v.y) * n)) := IntWalk.i64_in _ (by omega)
  have w8 : IntKind.i64.wrap (((q.z - p.z) * d + (u.z - v.z) * n) * ((q.z - p.z) * d + (u.z - v.z) * n)) = ((q.z - p.z) * d + (u.z - v.z) * n) * ((q.z - p.z) * d + (u.z - v.z) * n) := IntWalk.i64_in _ (by omega)
  have w9 : IntKind.i64.wrap (9025 * b * b) = 9025 * b * b := IntWalk.i64_in _ (by omega)
  have w10 : IntKind.i64.wrap (9025 * b * b * d) = 9025 * b * b * d := IntWalk.i64_in _ (by omega)
  have w11 : IntKind.i64.wrap (9025 * b * b * d * d) = 9025 * b * b * d * d := IntWalk.i64_in _ (by omega)
  clear hdot
  go_enter Try.func24, Try.ntmps24
  go_wp2_with fail
  go_ret
  exact ⟨by rw [H.out]; rfl, (Below.refl _ _).alloc (Nat.le_refl _) _⟩

theorem clo22 (n : Int) (w : World) : Calls Try.prog 22 #[.int .i64 n] w fun e w' => e = .returned (.int .i64 (n.tmod 8)) ∧ w = w' := by
  go_enter Try.func22, Try.ntmps22
  go_wp2_with fail
  go_ret
  exact ⟨rfl, rfl⟩
theorem clo23 (n : Int) (w : World) : Calls Try.prog 23 #[.int .i64 n] w fun e w' => e = .returned (.int .i64 (n.tmod 3)) ∧ w = w' := by
  go_enter Try.func23, Try.ntmps23
  go_wp2_with fail
  go_ret
  exact ⟨rfl, rfl⟩
theorem tmod_bd (n m : Int) (h : 0 < m) : -(m - 1) ≤ n.tmod m ∧ n.tmod m ≤ m - 1 := by
  have a := Int.tmod_lt_of_pos n h
  have b := Int.lt_tmod_of_pos n h
  omega
end Go.Proofs.Ytdflamblbhpngaa
