/- Package tau and its reference: Time. -/
import Derived.Test.YtbonniladhablaaRows
import Derived.WalkKit
import Derived.WalkLawsBesides
import Derived.WalkSpells
import Derived.ProofKit
import Derived.Below
import Derived.Outline
import Derived.Lib.Hide
import Derived.Deep.RegionWith
import Derived.Deep.RegionHeld3
import Derived.Deep.DrawnRows
import Derived.StillTailTactics
import Derived.BigQuiet
import Derived.Deep.QuietTactic
import Derived.Deep.LoopGhost
import Derived.IntWalk
import Derived.Test.YtbonniladhablaaTaA
namespace Go.Proofs.Ytbonniladhablaa
open Go.RowKit
attribute [local go_sem ↓] Go.wp_at_zero Go.wp_at_succ
attribute [local go_sem] wrap_lit

theorem tim9n (R V N k : Int) (w : World) (h : ¬ (okX R V N ∧ 0 ≤ k ∧ k ≤ 8192)) : Calls Try.prog 9 #[.agg #[.int .i64 R, .int .i64 V, .int .i64 N], .int .i64 k] w fun e w' => e = .returned (.tuple #[.int .i64 0, .int .i64 0, .int .i64 1]) ∧ Below w.heap.size w w' := by
  by_cases hx : okX R V N
  · have hk : ¬ (0 ≤ k ∧ k ≤ 8192) := fun h2 => h ⟨hx, h2⟩
    have HC := chk17 R V N
    rw [show chk R V N = 0 by unfold chk; rw [if_pos hx]] at HC
    have HC' := Lib.hid HC; clear HC; clear hx h
    have hr : (1 : Int) = if wOk [k, 0, 8192] 1 then 0 else 1 := by simp only [wOk1]; rw [if_neg hk]
    have HR0 := Lib.hid hr; clear hr
    go_enter Try.func9, Try.ntmps9
    go_wp2_with (go_at_call 31; refine (HC'.out _).mono ?_; rintro e w1 ⟨rfl, rfl⟩)
    go_wp2_with fail
    refine (within32 _ 1 1 [k, 0, 8192] _ 1 _ (fresh3 _ _ _ _ _ _ (by simp)) (by simp) rfl (by omega) HR0.out).mono ?_
    rintro e w1 ⟨rfl, hb1⟩
    have hb : Below w.heap.size w w1 := ((((Below.refl _ _).alloc (Nat.le_refl _) _).alloc (by simp) _).alloc (by simp; omega) _).trans (hb1.mono (by simp; omega))
    have hsz := hb1.size
    have hbb : Below (w.alloc (.cells #[.int .i64 R, .int .i64 V, .int .i64 N] 23)).heap.size (w.alloc (.cells #[.int .i64 R, .int .i64 V, .int .i64 N] 23)) w1 := (((Below.refl _ _).alloc (Nat.le_refl _) _).alloc (by simp) _).trans (hb1.mono (by simp))
    have hcR : w1.cell? ⟨w.heap.size, 0, none⟩ = some (.int .i64 R) := (hbb.cell (p := ⟨w.heap.size, 0, none⟩) (by simp)).trans (World.cell?_alloc_at _ _ _ _ rfl)
    have hcV : w1.cell? ⟨w.heap.size, 1, none⟩ = some (.int .i64 V) := (hbb.cell (p := ⟨w.heap.size, 1, none⟩) (by simp)).trans (World.cell?_alloc_at _ _ _ _ rfl)
    clear hbb
    clear hb1
    go_wp2_with fail
    go_ret3
    exact ⟨rfl, hb⟩
  · have HC := chk17 R V N
    rw [show chk R V N = 1 by unfold chk; rw [if_neg hx]] at HC
    have HC' := Lib.hid HC; clear HC; clear hx h
    go_enter Try.func9, Try.ntmps9
    go_wp2_with (go_at_call 31; refine (HC'.out _).mono ?_; rintro e w1 ⟨rfl, rfl⟩)
    go_ret3
    exact ⟨rfl, by repeat' (first | exact Below.refl _ _ | assumption | refine Below.drew ?_ | refine below_drewN ?_ _ | refine Below.alloc ?_ ?_ _ | (simp <;> omega))⟩

theorem tim9s (R V N k : Int) (w : World) (hx : okX R V N) (hk0 : 0 ≤ k) (hk1 : k ≤ 8192) (hd : R ≤ 256 * k) : Calls Try.prog 9 #[.agg #[.int .i64 R, .int .i64 V, .int .i64 N], .int .i64 k] w fun e w' => e = .returned (.tuple #[.int .i64 0, .int .i64 1, .int .i64 0]) ∧ Below w.heap.size w w' := by
  have HC := chk17 R V N
  rw [show chk R V N = 0 by unfold chk; rw [if_pos hx]] at HC
  have HC' := Lib.hid HC; clear HC
  obtain ⟨x1, x2, x3, x4, x5, x6⟩ := hx
  have hr : (0 : Int) = if wOk [k, 0, 8192] 1 then 0 else 1 := by simp only [wOk1]; rw [if_pos ⟨hk0, hk1⟩]
  have HR0 := Lib.hid hr; clear hr
  go_enter Try.func9, Try.ntmps9
  go_wp2_with (go_at_call 31; refine (HC'.out _).mono ?_; rintro e w1 ⟨rfl, rfl⟩)
  go_wp2_with fail
  refine (within32 _ 1 1 [k, 0, 8192] _ 0 _ (fresh3 _ _ _ _ _ _ (by simp)) (by simp) rfl (by omega) HR0.out).mono ?_
  rintro e w1 ⟨rfl, hb1⟩
  have hb : Below w.heap.size w w1 := ((((Below.refl _ _).alloc (Nat.le_refl _) _).alloc (by simp) _).alloc (by simp; omega) _).trans (hb1.mono (by simp; omega))
  have hsz := hb1.size
  have hbb : Below (w.alloc (.cells #[.int .i64 R, .int .i64 V, .int .i64 N] 23)).heap.size (w.alloc (.cells #[.int .i64 R, .int .i64 V, .int .i64 N] 23)) w1 := (((Below.refl _ _).alloc (Nat.le_refl _) _).alloc (by simp) _).trans (hb1.mono (by simp))
  have hcR : w1.cell? ⟨w.heap.size, 0, none⟩ = some (.int .i64 R) := (hbb.cell (p := ⟨w.heap.size, 0, none⟩) (by simp)).trans (World.cell?_alloc_at _ _ _ _ rfl)
  have hcV : w1.cell? ⟨w.heap.size, 1, none⟩ = some (.int .i64 V) := (hbb.cell (p := ⟨w.heap.size, 1, none⟩) (by simp)).trans (World.cell?_alloc_at _ _ _ _ rfl)
  clear hbb
  clear hb1
  go_wp2_with fail
  go_ret3
  exact ⟨rfl, hb⟩

theorem tim9v (R V N k : Int) (w : World) (hx : okX R V N) (hk0 : 0 ≤ k) (hk1 : k ≤ 8192) (hd : 256 * k < R) (hv : 0 ≤ V) : Calls Try.prog 9 #[.agg #[.int .i64 R, .int .i64 V, .int .i64 N], .int .i64 k] w fun e w' => e = .returned (.tuple #[.int .i64 0, .int .i64 0, .int .i64 9]) ∧ Below w.heap.size w w' := by
  have HC := chk17 R V N
  rw [show chk R V N = 0 by unfold chk; rw [if_pos hx]] at HC
  have HC' := Lib.hid HC; clear HC
  obtain ⟨x1, x2, x3, x4, x5, x6⟩ := hx
  have hr : (0 : Int) = if wOk [k, 0, 8192] 1 then 0 else 1 := by simp only [wOk1]; rw [if_pos ⟨hk0, hk1⟩]
  have HR0 := Lib.hid hr; clear hr
  go_enter Try.func9, Try.ntmps9
  go_wp2_with (go_at_call 31; refine (HC'.out _).mono ?_; rintro e w1 ⟨rfl, rfl⟩)
  go_wp2_with fail
  refine (within32 _ 1 1 [k, 0, 8192] _ 0 _ (fresh3 _ _ _ _ _ _ (by simp)) (by simp) rfl (by omega) HR0.out).mono ?_
  rintro e w1 ⟨rfl, hb1⟩
  have hb : Below w.heap.size w w1 := ((((Below.refl _ _).alloc (Nat.le_refl _) _).alloc (by simp) _).alloc (by simp; omega) _).trans (hb1.mono (by simp; omega))
  have hsz := hb1.size
  have hbb : Below (w.alloc (.cells #[.int .i64 R, .int .i64 V, .int .i64 N] 23)).heap.size (w.alloc (.cells #[.int .i64 R, .int .i64 V, .int .i64 N] 23)) w1 := (((Below.refl _ _).alloc (Nat.le_refl _) _).alloc (by simp) _).trans (hb1.mono (by simp))
  have hcR : w1.cell? ⟨w.heap.size, 0, none⟩ = some (.int .i64 R) := (hbb.cell (p := ⟨w.heap.size, 0, none⟩) (by simp)).trans (World.cell?_alloc_at _ _ _ _ rfl)
  have hcV : w1.cell? ⟨w.heap.size, 1, none⟩ = some (.int .i64 V) := (hbb.cell (p := ⟨w.heap.size, 1, none⟩) (by simp)).trans (World.cell?_alloc_at _ _ _ _ rfl)
  clear hbb
  clear hb1
  go_wp2_with fail
  go_ret3
  exact ⟨rfl, hb⟩

set_option maxHeartbeats 1000000 in
theorem tim9g (R V N k : Int) (w : World) (p q : Nat) (hx : okX R V N) (hk0 : 0 ≤ k) (hk1 : k ≤ 8192) (hR1 : 256 * k < R) (hV : V < 0) (hp : R * R - 256 * k * (256 * k) = p) (hq : R * -V = q) (hp0 : 0 < p) : Calls Try.prog 9 #[.agg #[.int .i64 R, .int .i64 V, .int .i64 N], .int .i64 k] w fun e w' => e = .returned (.tuple #[.int .i64 ((p : Int) / (Nat.gcd p q : Nat)), .int .i64 ((q : Int) / (Nat.gcd p q : Nat)), .int .i64 0]) ∧ Below w.heap.size w w' := by
  have HC := chk17 R V N
  rw [show chk R V N = 0 by unfold chk; rw [if_pos hx]] at HC
  have HC' := Lib.hid HC; clear HC
  obtain ⟨x1, x2, x3, x4, x5, x6⟩ := hx
  have hr : (0 : Int) = if wOk [k, 0, 8192] 1 then 0 else 1 := by simp only [wOk1]; rw [if_pos ⟨hk0, hk1⟩]
  have HR0 := Lib.hid hr; clear hr
  obtain ⟨m1, m2⟩ := mul_bd (a := R) (A := 2097152) (b := R) (B := 2097152) (by omega) (by omega) (by omega) (by omega)
  obtain ⟨m3, m4⟩ := mul_bd (a := 256 * k) (A := 2097152) (b := 256 * k) (B := 2097152) (by omega) (by omega) (by omega) (by omega)
  obtain ⟨m5, m6⟩ := mul_bd (a := R) (A := 2097152) (b := -V) (B := 16384) (by omega) (by omega) (by omega) (by omega)
  have k1 : IntKind.i64.wrap (R * R) = R * R := IntWalk.i64_in _ (by omega)
  have k2 : IntKind.i64.wrap (256 * k * (256 * k)) = 256 * k * (256 * k) := IntWalk.i64_in _ (by omega)
  have k3 : IntKind.i64.wrap (R * R - 256 * k * (256 * k)) = (p : Int) := by rw [hp]; exact IntWalk.i64_in _ (by omega)
  have k4 : IntKind.i64.wrap (R * -V) = (q : Int) := by rw [show R * -V = R * -V by rfl, hq]; exact IntWalk.i64_in _ (by omega)
  have k5 : IntKind.i64.wrap (256 * k) = 256 * k := IntWalk.i64_in _ (by omega)
  have hp1 : (p : Int) ≤ 8796093022208 := by omega
  have hq1 : (q : Int) ≤ 4398046511104 := by omega
  obtain ⟨G, hG⟩ : ∃ G, Nat.gcd p q = G := ⟨_, rfl⟩
  have hG1 : 1 ≤ G := by rw [← hG]; exact Nat.gcd_pos_of_pos_left _ hp0
  rw [hG]
  have HG := Lib.hid hG; clear hG
  clear hp hq m1 m2 m3 m4 m5 m6
  go_enter Try.func9, Try.ntmps9
  go_wp2_with (go_at_call 31; refine (HC'.out _).mono ?_; rintro e w1 ⟨rfl, rfl⟩)
  go_wp2_with fail
  refine (within32 _ 1 1 [k, 0, 8192] _ 0 _ (fresh3 _ _ _ _ _ _ (by simp)) (by simp) rfl (by omega) HR0.out).mono ?_
  rintro e w1 ⟨rfl, hb1⟩
  have hb : Below w.heap.size w w1 := ((((Below.refl _ _).alloc (Nat.le_refl _) _).alloc (by simp) _).alloc (by simp; omega) _).trans (hb1.mono (by simp; omega))
  have hsz := hb1.size
  have hbb : Below (w.alloc (.cells #[.int .i64 R, .int .i64 V, .int .i64 N] 23)).heap.size (w.alloc (.cells #[.int .i64 R, .int .i64 V, .int .i64 N] 23)) w1 := (((Below.refl _ _).alloc (Nat.le_refl _) _).alloc (by simp) _).trans (hb1.mono (by simp))
  have hcR : w1.cell? ⟨w.heap.size, 0, none⟩ = some (.int .i64 R) := (hbb.cell (p := ⟨w.heap.size, 0, none⟩) (by simp)).trans (World.cell?_alloc_at _ _ _ _ rfl)
  have hcV : w1.cell? ⟨w.heap.size, 1, none⟩ = some (.int .i64 V) := (hbb.cell (p := ⟨w.heap.size, 1, none⟩) (by simp)).trans (World.cell?_alloc_at _ _ _ _ rfl)
  clear hbb
  clear hb1
  go_wp2_with fail
  go_quiet (fail)
  clear k1 k2 k3 k4 k5
  go_wp2_with fail
  go_loopw [10, 11] (fun a b wr => ∃ x y : Nat, a = .int .i64 x ∧ b = .int .i64 y ∧ Nat.gcd x y = G ∧ x ≤ 10000000000000 ∧ y ≤ 10000000000000 ∧ 0 < x ∧ Below w.heap.size w wr) (fun _ b _ => (intOf b).toNat)
  case atStart => exact ⟨p, q, rfl, rfl, HG.out, by omega, by omega, hp0, by repeat' (first | exact Below.refl _ _ | assumption | refine Below.drew ?_ | refine below_drewN ?_ _ | refine Below.alloc ?_ ?_ _ | (simp <;> omega))⟩
  case round =>
    obtain ⟨x, y, rfl, rfl, hgc, hx3, hy3, hx0, hbw⟩ := hrel
    by_cases hy : y = 0
    · subst hy
      have hxG : x = G := by simpa using hgc
      subst hxG
      clear hgc
      have hxi : (1 : Int) ≤ (x : Int) := by omega
      have hxb : ((x : Int) == 0) = false := by simp; omega
      have hxb2 : ¬ (x : Int) = 0 := by omega
      have hv1 : 0 ≤ (p : Int) / (x : Int) := Int.ediv_nonneg (by omega) (by omega)
      have hv2 : (p : Int) / (x : Int) ≤ p := Int.ediv_le_self _ (by omega)
      have hv3 : 0 ≤ (q : Int) / (x : Int) := Int.ediv_nonneg (by omega) (by omega)
      have hv4 : (q : Int) / (x : Int) ≤ q := Int.ediv_le_self _ (by omega)
      have e1 : (p : Int).tdiv (x : Int) = (p : Int) / (x : Int) := Int.tdiv_eq_ediv_of_nonneg (by omega)
      have e2 : (q : Int).tdiv (x : Int) = (q : Int) / (x : Int) := Int.tdiv_eq_ediv_of_nonneg (by omega)
      have e3 : IntKind.i64.wrap ((p : Int) / (x : Int)) = (p : Int) / (x : Int) := IntWalk.i64_in _ (by omega)
      have e4 : IntKind.i64.wrap ((q : Int) / (x : Int)) = (q : Int) / (x : Int) := IntWalk.i64_in _ (by omega)
      go_wp2_with fail
      go_quiet (fail)
      go_wp2_with fail
      go_ret3
      exact ⟨rfl, by repeat' (first | exact Below.refl _ _ | assumption | refine Below.drew ?_ | refine below_drewN ?_ _ | refine Below.alloc ?_ ?_ _ | (simp <;> omega))⟩
    · have hyb : ((y : Int) != 0) = true := by simp; omega
      have hy1 : (1 : Int) ≤ (y : Int) := by omega
      have hgc' := Lib.hid hgc; clear hgc
      have hmy : x % y ≤ 10000000000000 := by have := Nat.mod_lt x (show 0 < y by omega); omega
      go_wp2_with fail
      go_quiet (fail)
      go_wp2_with fail
      refine ⟨⟨y, x % y, rfl, rfl, ?_, by omega, hmy, by omega, by repeat' (first | exact Below.refl _ _ | assumption | refine Below.drew ?_ | refine below_drewN ?_ _ | refine Below.alloc ?_ ?_ _ | (simp <;> omega))⟩, ?_⟩
      · rw [← hgc'.out, Nat.gcd_comm x y, Nat.gcd_comm y (x % y), ← Nat.gcd_rec]
      · have := Nat.mod_lt x (show 0 < y by omega)
        simp only [intOf]; omega

theorem tim10n (R V N k : Int) (w : World) (h : ¬ (okX R V N ∧ 0 ≤ k ∧ k ≤ 8192)) : Calls Try.prog 10 #[.agg #[.int .i64 R, .int .i64 V, .int .i64 N], .int .i64 k] w fun e w' => e = .returned (.tuple #[.int .i64 0, .int .i64 0, .int .i64 1]) ∧ Below w.heap.size w w' := by
  by_cases hx : okX R V N
  · have h' : ¬ (0 ≤ k ∧ k ≤ 8192) := fun h2 => h ⟨hx, h2⟩
    have HC := chk18 R V N
    rw [show chk R V N = 0 by unfold chk; rw [if_pos hx]] at HC
    have HC' := Lib.hid HC; clear HC; clear hx h
    by_cases hc : k < 0
    all_goals
      go_enter Try.func10, Try.ntmps10
      go_wp2_with (go_at_call 33; refine (HC'.out _).mono ?_; rintro e w1 ⟨rfl, rfl⟩)
      go_ret3
      exact ⟨rfl, by repeat' (first | exact Below.refl _ _ | assumption | refine Below.drew ?_ | refine below_drewN ?_ _ | refine Below.alloc ?_ ?_ _ | (simp <;> omega))⟩
  · have HC := chk18 R V N
    rw [show chk R V N = 1 by unfold chk; rw [if_neg hx]] at HC
    have HC' := Lib.hid HC; clear HC; clear hx h
    go_enter Try.func10, Try.ntmps10
    go_wp2_with (go_at_call 33; refine (HC'.out _).mono ?_; rintro e w1 ⟨rfl, rfl⟩)
    go_ret3
    exact ⟨rfl, by repeat' (first | exact Below.refl _ _ | assumption | refine Below.drew ?_ | refine below_drewN ?_ _ | refine Below.alloc ?_ ?_ _ | (simp <;> omega))⟩

theorem tim10s (R V N k : Int) (w : World) (hx : okX R V N) (hk0 : 0 ≤ k) (hk1 : k ≤ 8192) (hd : R ≤ 256 * k) : Calls Try.prog 10 #[.agg #[.int .i64 R, .int .i64 V, .int .i64 N], .int .i64 k] w fun e w' => e = .returned (.tuple #[.int .i64 0, .int .i64 1, .int .i64 0]) ∧ Below w.heap.size w w' := by
  have HC := chk18 R V N
  rw [show chk R V N = 0 by unfold chk; rw [if_pos hx]] at HC
  have HC' := Lib.hid HC; clear HC
  obtain ⟨x1, x2, x3, x4, x5, x6⟩ := hx
  go_enter Try.func10, Try.ntmps10
  go_wp2_with (go_at_call 33; refine (HC'.out _).mono ?_; rintro e w1 ⟨rfl, rfl⟩)
  go_ret3
  exact ⟨rfl, by repeat' (first | exact Below.refl _ _ | assumption | refine Below.drew ?_ | refine below_drewN ?_ _ | refine Below.alloc ?_ ?_ _ | (simp <;> omega))⟩

theorem tim10v (R V N k : Int) (w : World) (hx : okX R V N) (hk0 : 0 ≤ k) (hk1 : k ≤ 8192) (hd : 256 * k < R) (hv : 0 ≤ V) : Calls Try.prog 10 #[.agg #[.int .i64 R, .int .i64 V, .int .i64 N], .int .i64 k] w fun e w' => e = .returned (.tuple #[.int .i64 0, .int .i64 0, .int .i64 9]) ∧ Below w.heap.size w w' := by
  have HC := chk18 R V N
  rw [show chk R V N = 0 by unfold chk; rw [if_pos hx]] at HC
  have HC' := Lib.hid HC; clear HC
  obtain ⟨x1, x2, x3, x4, x5, x6⟩ := hx
  go_enter Try.func10, Try.ntmps10
  go_wp2_with (go_at_call 33; refine (HC'.out _).mono ?_; rintro e w1 ⟨rfl, rfl⟩)
  go_ret3
  exact ⟨rfl, by repeat' (first | exact Below.refl _ _ | assumption | refine Below.drew ?_ | refine below_drewN ?_ _ | refine Below.alloc ?_ ?_ _ | (simp <;> omega))⟩

set_option maxHeartbeats 1000000 in
theorem tim10g (R V N k : Int) (w : World) (p q : Nat) (hx : okX R V N) (hk0 : 0 ≤ k) (hk1 : k ≤ 8192) (hR1 : 256 * k < R) (hV : V < 0) (hp : R * R - 256 * k * (256 * k) = p) (hq : R * -V = q) (hp0 : 0 < p) : Calls Try.prog 10 #[.agg #[.int .i64 R, .int .i64 V, .int .i64 N], .int .i64 k] w fun e w' => e = .returned (.tuple #[.int .i64 ((p : Int) / (Nat.gcd p q : Nat)), .int .i64 ((q : Int) / (Nat.gcd p q : Nat)), .int .i64 0]) ∧ Below w.heap.size w w' := by
  have HC := chk18 R V N
  rw [show chk R V N = 0 by unfold chk; rw [if_pos hx]] at HC
  have HC' := Lib.hid HC; clear HC
  obtain ⟨x1, x2, x3, x4, x5, x6⟩ := hx
  obtain ⟨m1, m2⟩ := mul_bd (a := R) (A := 2097152) (b := R) (B := 2097152) (by omega) (by omega) (by omega) (by omega)
  obtain ⟨m3, m4⟩ := mul_bd (a := 256 * k) (A := 2097152) (b := 256 * k) (B := 2097152) (by omega) (by omega) (by omega) (by omega)
  obtain ⟨m5, m6⟩ := mul_bd (a := R) (A := 2097152) (b := -V) (B := 16384) (by omega) (by omega) (by omega) (by omega)
  have k1 : IntKind.i64.wrap (R * R) = R * R := IntWalk.i64_in _ (by omega)
  have k2 : IntKind.i64.wrap (256 * k * (256 * k)) = 256 * k * (256 * k) := IntWalk.i64_in _ (by omega)
  have k3 : IntKind.i64.wrap (R * R - 256 * k * (256 * k)) = (p : Int) := by rw [hp]; exact IntWalk.i64_in _ (by omega)
  have k4 : IntKind.i64.wrap (-R * V) = (q : Int) := by rw [show -R * V = R * -V by rw [Int.neg_mul, Int.mul_neg], hq]; exact IntWalk.i64_in _ (by omega)
  have k5 : IntKind.i64.wrap (256 * k) = 256 * k := IntWalk.i64_in _ (by omega)
  have hp1 : (p : Int) ≤ 8796093022208 := by omega
  have hq1 : (q : Int) ≤ 4398046511104 := by omega
  obtain ⟨G, hG⟩ : ∃ G, Nat.gcd p q = G := ⟨_, rfl⟩
  have hG1 : 1 ≤ G := by rw [← hG]; exact Nat.gcd_pos_of_pos_left _ hp0
  rw [hG]
  have HG := Lib.hid hG; clear hG
  clear hp hq m1 m2 m3 m4 m5 m6
  go_enter Try.func10, Try.ntmps10
  go_wp2_with (go_at_call 33; refine (HC'.out _).mono ?_; rintro e w1 ⟨rfl, rfl⟩)
  go_quiet (fail)
  clear k1 k2 k3 k4 k5
  go_wp2_with fail
  go_loopw [11, 12] (fun a b wr => ∃ x y : Nat, a = .int .i64 x ∧ b = .int .i64 y ∧ Nat.gcd x y = G ∧ x ≤ 10000000000000 ∧ y ≤ 10000000000000 ∧ 0 < x ∧ Below w.heap.size w wr) (fun _ b _ => (intOf b).toNat)
  case atStart => exact ⟨p, q, rfl, rfl, HG.out, by omega, by omega, hp0, by repeat' (first | exact Below.refl _ _ | assumption | refine Below.drew ?_ | refine below_drewN ?_ _ | refine Below.alloc ?_ ?_ _ | (simp <;> omega))⟩
  case round =>
    obtain ⟨x, y, rfl, rfl, hgc, hx3, hy3, hx0, hbw⟩ := hrel
    by_cases hy : y = 0
    · subst hy
      have hxG : x = G := by simpa using hgc
      subst hxG
      clear hgc
      have hxi : (1 : Int) ≤ (x : Int) := by omega
      have hxb : ((x : Int) == 0) = false := by simp; omega
      have hxb2 : ¬ (x : Int) = 0 := by omega
      have hv1 : 0 ≤ (p : Int) / (x : Int) := Int.ediv_nonneg (by omega) (by omega)
      have hv2 : (p : Int) / (x : Int) ≤ p := Int.ediv_le_self _ (by omega)
      have hv3 : 0 ≤ (q : Int) / (x : Int) := Int.ediv_nonneg (by omega) (by omega)
      have hv4 : (q : Int) / (x : Int) ≤ q := Int.ediv_le_self _ (by omega)
      have e1 : (p : Int).tdiv (x : Int) = (p : Int) / (x : Int) := Int.tdiv_eq_ediv_of_nonneg (by omega)
      have e2 : (q : Int).tdiv (x : Int) = (q : Int) / (x : Int) := Int.tdiv_eq_ediv_of_nonneg (by omega)
      have e3 : IntKind.i64.wrap ((p : Int) / (x : Int)) = (p : Int) / (x : Int) := IntWalk.i64_in _ (by omega)
      have e4 : IntKind.i64.wrap ((q : Int) / (x : Int)) = (q : Int) / (x : Int) := IntWalk.i64_in _ (by omega)
      go_wp2_with fail
      go_quiet (fail)
      go_wp2_with fail
      go_ret3
      exact ⟨rfl, by repeat' (first | exact Below.refl _ _ | assumption | refine Below.drew ?_ | refine below_drewN ?_ _ | refine Below.alloc ?_ ?_ _ | (simp <;> omega))⟩
    · have hyb : ((y : Int) != 0) = true := by simp; omega
      have hy1 : (1 : Int) ≤ (y : Int) := by omega
      have hgc' := Lib.hid hgc; clear hgc
      have hmy : x % y ≤ 10000000000000 := by have := Nat.mod_lt x (show 0 < y by omega); omega
      go_wp2_with fail
      go_quiet (fail)
      go_wp2_with fail
      refine ⟨⟨y, x % y, rfl, rfl, ?_, by omega, hmy, by omega, by repeat' (first | exact Below.refl _ _ | assumption | refine Below.drew ?_ | refine below_drewN ?_ _ | refine Below.alloc ?_ ?_ _ | (simp <;> omega))⟩, ?_⟩
      · rw [← hgc'.out, Nat.gcd_comm x y, Nat.gcd_comm y (x % y), ← Nat.gcd_rec]
      · have := Nat.mod_lt x (show 0 < y by omega)
        simp only [intOf]; omega

end Go.Proofs.Ytbonniladhablaa
