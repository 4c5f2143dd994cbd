/- Package ranging: Close, the way through the loop. -/
import Derived.Test.YtephkhaebkajkaaRows
import Derived.WalkKit
import Derived.WalkLawsBesides
import Derived.WalkSpells
import Derived.ProofKit
import Derived.Below
import Derived.Outline
import Derived.Lib.Hide
import Derived.Deep.RegionWith
import Derived.Deep.RegionHeld3
import Derived.Deep.DrawnRows
import Derived.StillTailTactics
import Derived.BigQuiet
import Derived.Deep.QuietTactic
import Derived.Deep.LoopGhost
import Derived.IntWalk
import Derived.Test.YtephkhaebkajkaaRgA
namespace Go.Proofs.Ytephkhaebkajkaa
open Go.RowKit
attribute [local go_sem ↓] Go.wp_at_zero Go.wp_at_succ
attribute [local go_sem] wrap_lit

set_option maxHeartbeats 1000000 in
theorem clo15g (R V N k : Int) (w : World) (p q : Nat) (hx : okX R V N) (hk0 : 0 ≤ k) (hk1 : k ≤ 8192) (hp : R - 256 * k = p) (hq : -V = q) (hp0 : 0 < p) (hq0 : 0 < q) : Calls Try.prog 15 #[.agg #[.int .i64 R, .int .i64 V, .int .i64 N], .int .i64 k] w fun e w' => e = .returned (.tuple #[.int .i64 ((p : Int) / (Nat.gcd p q : Nat)), .int .i64 ((q : Int) / (Nat.gcd p q : Nat)), .int .i64 0]) ∧ Below w.heap.size w w' := by
  have HC := chk17 R V N
  rw [show chk R V N = 0 by unfold chk; rw [if_pos hx]] at HC
  have HC' := Lib.hid HC; clear HC
  obtain ⟨x1, x2, x3, x4, x5, x6⟩ := hx
  have hR : R = (p : Int) + 256 * k := by omega
  have hV : V = -(q : Int) := by omega
  subst hV
  have hR1 : 256 * k < R := by omega
  have hp1 : (p : Int) ≤ 2097152 := by omega
  obtain ⟨G, hG⟩ : ∃ G, Nat.gcd p q = G := ⟨_, rfl⟩
  have hG1 : 1 ≤ G := by rw [← hG]; exact Nat.gcd_pos_of_pos_left _ hp0
  have hG2 : G ≤ p := by rw [← hG]; exact Nat.gcd_le_left _ hp0
  rw [hG]
  have HG := Lib.hid hG; clear hG
  have HR := Lib.hid hp; clear hp hq hR
  go_enter Try.func15, Try.ntmps15
  go_wp2_with (go_at_call 17; refine (HC'.out _).mono ?_; rintro e w1 ⟨rfl, rfl⟩)
  go_quiet (fail)
  go_wp2_with fail
  go_loopw [9, 10] (fun a b wr => ∃ x y n : Nat, a = .int .i64 x ∧ b = .int .i64 y ∧ Nat.gcd x y = G ∧ x ≤ 3000000 ∧ y ≤ 3000000 ∧ 0 < x ∧ wr = ((w.alloc (.cells #[.int .i64 R, .int .i64 (-(q : Int)), .int .i64 N] 23)).alloc (.cells #[.int .i64 R, .int .i64 (-(q : Int)), .int .i64 N] 23)).drewN n) (fun _ b _ => (intOf b).toNat)
  case atStart => exact ⟨p, q, nq, by rw [← HR.out], rfl, HG.out, by omega, by omega, hp0, rfl⟩
  case round =>
    obtain ⟨x, y, n, rfl, rfl, hgc, hx3, hy3, hx0, rfl⟩ := hrel
    by_cases hy : y = 0
    · subst hy
      have hxG : x = G := by simpa using hgc
      subst hxG
      clear hgc
      have hxi : (1 : Int) ≤ (x : Int) := by omega
      have hd0 : 0 ≤ R - 256 * k := by omega
      have hxb : ((x : Int) == 0) = false := by simp; omega
      have hxb2 : ¬ (x : Int) = 0 := by omega
      have hv1 : 0 ≤ (R - 256 * k) / (x : Int) := Int.ediv_nonneg hd0 (by omega)
      have hv2 : (R - 256 * k) / (x : Int) ≤ R - 256 * k := Int.ediv_le_self _ hd0
      have hv3 : 0 ≤ (q : Int) / (x : Int) := Int.ediv_nonneg (by omega) (by omega)
      have hv4 : (q : Int) / (x : Int) ≤ q := Int.ediv_le_self _ (by omega)
      have e1 : (R - 256 * k).tdiv (x : Int) = (R - 256 * k) / (x : Int) := Int.tdiv_eq_ediv_of_nonneg hd0
      have e2 : (q : Int).tdiv (x : Int) = (q : Int) / (x : Int) := Int.tdiv_eq_ediv_of_nonneg (by omega)
      have e3 : IntKind.i64.wrap ((R - 256 * k) / (x : Int)) = (R - 256 * k) / (x : Int) := IntWalk.i64_in _ (by omega)
      have e4 : IntKind.i64.wrap ((q : Int) / (x : Int)) = (q : Int) / (x : Int) := IntWalk.i64_in _ (by omega)
      go_wp2_with fail
      go_quiet (fail)
      go_wp2_with fail
      go_ret3
      rw [← HR.out]
      exact ⟨rfl, by repeat' (first | exact Below.refl _ _ | refine below_drewN ?_ _ | refine Below.alloc ?_ ?_ _ | (simp <;> omega))⟩
    · have hyb : ((y : Int) != 0) = true := by simp; omega
      have hy1 : (1 : Int) ≤ (y : Int) := by omega
      have hgc' := Lib.hid hgc; clear hgc
      have hmy : x % y ≤ 3000000 := by have := Nat.mod_lt x (show 0 < y by omega); omega
      go_wp2_with fail
      go_quiet (fail)
      go_wp2_with fail
      refine ⟨⟨y, x % y, n + nq, rfl, rfl, ?_, by omega, hmy, by omega, by rw [World.drewN_drewN]⟩, ?_⟩
      · rw [← hgc'.out, Nat.gcd_comm x y, Nat.gcd_comm y (x % y), ← Nat.gcd_rec]
      · have := Nat.mod_lt x (show 0 < y by omega)
        simp only [intOf]; omega
end Go.Proofs.Ytephkhaebkajkaa
