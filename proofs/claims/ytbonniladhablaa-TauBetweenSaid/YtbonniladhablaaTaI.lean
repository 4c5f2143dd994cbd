/- Close of package ranging, in the seat of package tau. -/
import Derived.Test.YtbonniladhablaaRows
import Derived.WalkKit
import Derived.WalkLawsBesides
import Derived.WalkSpells
import Derived.ProofKit
import Derived.Below
import Derived.Outline
import Derived.Lib.Hide
import Derived.Deep.RegionWith
import Derived.Deep.RegionHeld3
import Derived.Deep.DrawnRows
import Derived.StillTailTactics
import Derived.BigQuiet
import Derived.Deep.QuietTactic
import Derived.Deep.LoopGhost
import Derived.IntWalk
import Derived.Test.YtbonniladhablaaTaG
namespace Go.Proofs.Ytbonniladhablaa
open Go.RowKit
attribute [local go_sem ↓] Go.wp_at_zero Go.wp_at_succ
attribute [local go_sem] wrap_lit

theorem clo15n (R V N k : Int) (w : World) (h : ¬ (okX R V N ∧ 0 ≤ k ∧ k ≤ 8192)) : Calls Try.prog 17 #[.agg #[.int .i64 R, .int .i64 V, .int .i64 N], .int .i64 k] w fun e w' => e = .returned (.tuple #[.int .i64 0, .int .i64 0, .int .i64 1]) ∧ Below w.heap.size w w' := by
  by_cases hx : okX R V N
  · have h' : ¬ (0 ≤ k ∧ k ≤ 8192) := fun h2 => h ⟨hx, h2⟩
    have HC := chk17 R V N
    rw [show chk R V N = 0 by unfold chk; rw [if_pos hx]] at HC
    have HC' := Lib.hid HC; clear HC hx h
    by_cases hc : k < 0
    all_goals
      go_enter Try.func17, Try.ntmps17
      go_wp2_with (go_at_call 31; refine (HC'.out _).mono ?_; rintro e w1 ⟨rfl, rfl⟩)
      go_ret3
      exact ⟨rfl, by repeat' (first | exact Below.refl _ _ | refine Below.drew ?_ | refine Below.alloc ?_ ?_ _ | (simp <;> omega))⟩
  · have HC := chk17 R V N
    rw [show chk R V N = 1 by unfold chk; rw [if_neg hx]] at HC
    have HC' := Lib.hid HC; clear HC hx h
    go_enter Try.func17, Try.ntmps17
    go_wp2_with (go_at_call 31; refine (HC'.out _).mono ?_; rintro e w1 ⟨rfl, rfl⟩)
    go_ret3
    exact ⟨rfl, by repeat' (first | exact Below.refl _ _ | refine Below.drew ?_ | refine Below.alloc ?_ ?_ _ | (simp <;> omega))⟩

theorem clo15s (R V N k : Int) (w : World) (hx : okX R V N) (hk0 : 0 ≤ k) (hk1 : k ≤ 8192) (hd : R ≤ 256 * k) : Calls Try.prog 17 #[.agg #[.int .i64 R, .int .i64 V, .int .i64 N], .int .i64 k] w fun e w' => e = .returned (.tuple #[.int .i64 0, .int .i64 1, .int .i64 0]) ∧ Below w.heap.size w w' := by
  have HC := chk17 R V N
  rw [show chk R V N = 0 by unfold chk; rw [if_pos hx]] at HC
  have HC' := Lib.hid HC; clear HC
  obtain ⟨x1, x2, x3, x4, x5, x6⟩ := hx
  go_enter Try.func17, Try.ntmps17
  go_wp2_with (go_at_call 31; refine (HC'.out _).mono ?_; rintro e w1 ⟨rfl, rfl⟩)
  go_ret3
  exact ⟨rfl, by repeat' (first | exact Below.refl _ _ | refine Below.drew ?_ | refine Below.alloc ?_ ?_ _ | (simp <;> omega))⟩

theorem clo15v (R V N k : Int) (w : World) (hx : okX R V N) (hk0 : 0 ≤ k) (hk1 : k ≤ 8192) (hd : 256 * k < R) (hv : 0 ≤ V) : Calls Try.prog 17 #[.agg #[.int .i64 R, .int .i64 V, .int .i64 N], .int .i64 k] w fun e w' => e = .returned (.tuple #[.int .i64 0, .int .i64 0, .int .i64 9]) ∧ Below w.heap.size w w' := by
  have HC := chk17 R V N
  rw [show chk R V N = 0 by unfold chk; rw [if_pos hx]] at HC
  have HC' := Lib.hid HC; clear HC
  obtain ⟨x1, x2, x3, x4, x5, x6⟩ := hx
  go_enter Try.func17, Try.ntmps17
  go_wp2_with (go_at_call 31; refine (HC'.out _).mono ?_; rintro e w1 ⟨rfl, rfl⟩)
  go_ret3
  exact ⟨rfl, by repeat' (first | exact Below.refl _ _ | refine Below.drew ?_ | refine Below.alloc ?_ ?_ _ | (simp <;> omega))⟩


set_option maxHeartbeats 1000000 in
theorem clo15g (R V N k : Int) (w : World) (p q : Nat) (hx : okX R V N) (hk0 : 0 ≤ k) (hk1 : k ≤ 8192) (hp : R - 256 * k = p) (hq : -V = q) (hp0 : 0 < p) (hq0 : 0 < q) : Calls Try.prog 17 #[.agg #[.int .i64 R, .int .i64 V, .int .i64 N], .int .i64 k] w fun e w' => e = .returned (.tuple #[.int .i64 ((p : Int) / (Nat.gcd p q : Nat)), .int .i64 ((q : Int) / (Nat.gcd p q : Nat)), .int .i64 0]) ∧ Below w.heap.size w w' := by
  have HC := chk17 R V N
  rw [show chk R V N = 0 by unfold chk; rw [if_pos hx]] at HC
  have HC' := Lib.hid HC; clear HC
  obtain ⟨x1, x2, x3, x4, x5, x6⟩ := hx
  have hR : R = (p : Int) + 256 * k := by omega
  have hV : V = -(q : Int) := by omega
  subst hV
  have hR1 : 256 * k < R := by omega
  have hp1 : (p : Int) ≤ 2097152 := by omega
  obtain ⟨G, hG⟩ : ∃ G, Nat.gcd p q = G := ⟨_, rfl⟩
  have hG1 : 1 ≤ G := by rw [← hG]; exact Nat.gcd_pos_of_pos_left _ hp0
  have hG2 : G ≤ p := by rw [← hG]; exact Nat.gcd_le_left _ hp0
  rw [hG]
  have HG := Lib.hid hG; clear hG
  have HR := Lib.hid hp; clear hp hq hR
  go_enter Try.func17, Try.ntmps17
  go_wp2_with (go_at_call 31; refine (HC'.out _).mono ?_; rintro e w1 ⟨rfl, rfl⟩)
  go_quiet (fail)
  go_wp2_with fail
  go_loopw [9, 10] (fun a b wr => ∃ x y n : Nat, a = .int .i64 x ∧ b = .int .i64 y ∧ Nat.gcd x y = G ∧ x ≤ 3000000 ∧ y ≤ 3000000 ∧ 0 < x ∧ wr = ((w.alloc (.cells #[.int .i64 R, .int .i64 (-(q : Int)), .int .i64 N] 23)).alloc (.cells #[.int .i64 R, .int .i64 (-(q : Int)), .int .i64 N] 23)).drewN n) (fun _ b _ => (intOf b).toNat)
  case atStart => exact ⟨p, q, nq, by rw [← HR.out], rfl, HG.out, by omega, by omega, hp0, rfl⟩
  case round =>
    obtain ⟨x, y, n, rfl, rfl, hgc, hx3, hy3, hx0, rfl⟩ := hrel
    by_cases hy : y = 0
    · subst hy
      have hxG : x = G := by simpa using hgc
      subst hxG
      clear hgc
      have hxi : (1 : Int) ≤ (x : Int) := by omega
      have hd0 : 0 ≤ R - 256 * k := by omega
      have hxb : ((x : Int) == 0) = false := by simp; omega
      have hxb2 : ¬ (x : Int) = 0 := by omega
      have hv1 : 0 ≤ (R - 256 * k) / (x : Int) := Int.ediv_nonneg hd0 (by omega)
      have hv2 : (R - 256 * k) / (x : Int) ≤ R - 256 * k := Int.ediv_le_self _ hd0
      have hv3 : 0 ≤ (q : Int) / (x : Int) := Int.ediv_nonneg (by omega) (by omega)
      have hv4 : (q : Int) / (x : Int) ≤ q := Int.ediv_le_self _ (by omega)
      have e1 : (R - 256 * k).tdiv (x : Int) = (R - 256 * k) / (x : Int) := Int.tdiv_eq_ediv_of_nonneg hd0
      have e2 : (q : Int).tdiv (x : Int) = (q : Int) / (x : Int) := Int.tdiv_eq_ediv_of_nonneg (by omega)
      have e3 : IntKind.i64.wrap ((R - 256 * k) / (x : Int)) = (R - 256 * k) / (x : Int) := IntWalk.i64_in _ (by omega)
      have e4 : IntKind.i64.wrap ((q : Int) / (x : Int)) = (q : Int) / (x : Int) := IntWalk.i64_in _ (by omega)
      go_wp2_with fail
      go_quiet (fail)
      go_wp2_with fail
      go_ret3
      rw [← HR.out]
      exact ⟨rfl, by repeat' (first | exact Below.refl _ _ | refine below_drewN ?_ _ | refine Below.alloc ?_ ?_ _ | (simp <;> omega))⟩
    · have hyb : ((y : Int) != 0) = true := by simp; omega
      have hy1 : (1 : Int) ≤ (y : Int) := by omega
      have hgc' := Lib.hid hgc; clear hgc
      have hmy : x % y ≤ 3000000 := by have := Nat.mod_lt x (show 0 < y by omega); omega
      go_wp2_with fail
      go_quiet (fail)
      go_wp2_with fail
      refine ⟨⟨y, x % y, n + nq, rfl, rfl, ?_, by omega, hmy, by omega, by rw [World.drewN_drewN]⟩, ?_⟩
      · rw [← hgc'.out, Nat.gcd_comm x y, Nat.gcd_comm y (x % y), ← Nat.gcd_rec]
      · have := Nat.mod_lt x (show 0 < y by omega)
        simp only [intOf]; omega

def okK (R V N k : Int) : Prop := okX R V N ∧ 0 ≤ k ∧ k ≤ 8192
instance (R V N k : Int) : Decidable (okK R V N k) := by unfold okK; infer_instance
def gK (R V k : Int) : Int := ((Nat.gcd (R - 256 * k).toNat (-V).toNat : Nat) : Int)
def cN (R V N k : Int) : Int := if okK R V N k then (if R ≤ 256 * k then 0 else if 0 ≤ V then 0 else (R - 256 * k) / gK R V k) else 0
def cD (R V N k : Int) : Int := if okK R V N k then (if R ≤ 256 * k then 1 else if 0 ≤ V then 0 else -V / gK R V k) else 0
def cE (R V N k : Int) : Int := if okK R V N k then (if R ≤ 256 * k then 0 else if 0 ≤ V then 9 else 0) else 1

theorem clo15 (R V N k : Int) (w : World) : Calls Try.prog 17 #[.agg #[.int .i64 R, .int .i64 V, .int .i64 N], .int .i64 k] w fun e w' => e = .returned (.tuple #[.int .i64 (cN R V N k), .int .i64 (cD R V N k), .int .i64 (cE R V N k)]) ∧ Below w.heap.size w w' := by
  unfold cN cD cE
  by_cases h : okK R V N k
  · simp only [if_pos h]
    obtain ⟨hx, h1, h2⟩ := h
    by_cases hd : R ≤ 256 * k
    · simp only [if_pos hd]; exact clo15s R V N k w hx h1 h2 hd
    · simp only [if_neg hd]
      by_cases hv : 0 ≤ V
      · simp only [if_pos hv]; exact clo15v R V N k w hx h1 h2 (by omega) hv
      · simp only [if_neg hv]
        have := clo15g R V N k w (R - 256 * k).toNat (-V).toNat hx h1 h2 (by omega) (by omega) (by omega) (by omega)
        rw [Int.toNat_of_nonneg (by omega), Int.toNat_of_nonneg (by omega)] at this
        exact this
  · simp only [if_neg h]
    exact clo15n R V N k w h

theorem less18 (a b c d : Int) (w : World) (h1 : -4611686018427387904 ≤ a * d) (h2 : a * d ≤ 4611686018427387904) (h3 : -4611686018427387904 ≤ c * b) (h4 : c * b ≤ 4611686018427387904) : Calls Try.prog 18 #[.int .i64 a, .int .i64 b, .int .i64 c, .int .i64 d] w fun e w' => e = .returned (.bool (decide (a * d ≤ c * b))) ∧ w = w' := by
  go_enter Try.func18, Try.ntmps18
  go_wp2_with fail
  go_ret
  exact ⟨rfl, rfl⟩
end Go.Proofs.Ytbonniladhablaa
