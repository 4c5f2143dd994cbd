/- Contracts of small functions of package ranging and of its reference. -/
import Derived.Test.YtephkhaebkajkaaRows
import Derived.WalkKit
import Derived.WalkLawsBesides
import Derived.WalkSpells
import Derived.ProofKit
import Derived.Below
import Derived.Outline
import Derived.Lib.Hide
import Derived.Deep.RegionWith
import Derived.Deep.RegionHeld3
import Derived.Deep.DrawnRows
import Derived.StillTailTactics
import Derived.BigQuiet
import Derived.Deep.QuietTactic
import Derived.Deep.LoopGhost
import Derived.IntWalk
import Derived.Test.YtephkhaebkajkaaK
namespace Go.Proofs.Ytephkhaebkajkaa
open Go.RowKit

def lim (n lo hi : Int) : Int := min (max n lo) hi
def rnd (p q : Int) : Int := (2 * p + (if p < 0 then -q else q)).tdiv (2 * q)

theorem lim27 (n lo hi : Int) (w : World) : Calls Try.prog 27 #[.int .i64 n, .int .i64 lo, .int .i64 hi] w fun e w' => e = .returned (.int .i64 (lim n lo hi)) ∧ w = w' := by
  unfold lim
  go_enter Try.func27, Try.ntmps27
  go_wp2
  all_goals (go_ret; exact ⟨ret_int (by omega), rfl⟩)

theorem clo31 (n lo hi : Int) (w : World) (a b : Addr) (ha : w.cell? a = some (.int .i64 lo)) (hb : w.cell? b = some (.int .i64 hi)) : Calls Try.prog 31 #[.int .i64 n, .pointer (some a), .pointer (some b)] w fun e w' => e = .returned (.int .i64 (lim n lo hi)) ∧ w = w' := by
  unfold lim
  go_enter Try.func31, Try.ntmps31
  go_wp2
  all_goals (go_ret; exact ⟨ret_int (by omega), rfl⟩)

theorem rnd28 (p q : Int) (w : World) (hp : -1000000000000 ≤ p) (hp' : p ≤ 1000000000000) (hq : 1 ≤ q) (hq' : q ≤ 1000000000000) : Calls Try.prog 28 #[.int .i64 p, .int .i64 q] w fun e w' => e = .returned (.int .i64 (rnd p q)) ∧ w = w' := by
  by_cases h : p < 0
  · have H : rnd p q = (2 * p + -q).tdiv (2 * q) := by unfold rnd; rw [if_pos h]
    rw [H]; clear H
    go_enter Try.func28, Try.ntmps28
    go_wp2
    go_ret
    exact ⟨rfl, rfl⟩
  · have H : rnd p q = (2 * p + q) / (2 * q) := by unfold rnd; rw [if_neg h]; exact Int.tdiv_eq_ediv_of_nonneg (by omega)
    rw [H]; clear H
    go_enter Try.func28, Try.ntmps28
    go_wp2
    go_ret
    exact ⟨rfl, rfl⟩

theorem rnd29p (p q : Int) (w : World) (hp : 0 ≤ p) (hp' : p ≤ 1000000000000) (hq : 1 ≤ q) (hq' : q ≤ 1000000000000) : Calls Try.prog 29 #[.int .i64 p, .int .i64 q] w fun e w' => e = .returned (.int .i64 ((2 * p + q) / (2 * q))) ∧ w = w' := by
  go_enter Try.func29, Try.ntmps29
  go_wp2_with fail
  go_ret
  exact ⟨rfl, rfl⟩
theorem rnd29 (p q : Int) (w : World) (hp : -1000000000000 ≤ p) (hp' : p ≤ 1000000000000) (hq : 1 ≤ q) (hq' : q ≤ 1000000000000) : Calls Try.prog 29 #[.int .i64 p, .int .i64 q] w fun e w' => e = .returned (.int .i64 (rnd p q)) ∧ w = w' := by
  by_cases h : p < 0
  · have H : rnd p q = -((2 * (-p) + q) / (2 * q)) := by
      unfold rnd; rw [if_pos h]
      rw [show 2 * p + -q = -(2 * (-p) + q) by omega, Int.neg_tdiv, Int.tdiv_eq_ediv_of_nonneg (by omega)]
    have hb : 0 ≤ (2 * (-p) + q) / (2 * q) := Int.ediv_nonneg (by omega) (by omega)
    have hb' : (2 * (-p) + q) / (2 * q) ≤ 2 * (-p) + q := Int.ediv_le_self _ (by omega)
    rw [H]; clear H
    go_enter Try.func29, Try.ntmps29
    go_wp2_with (go_at_call 29; refine (rnd29p (-p) q _ (by omega) (by omega) hq hq').mono ?_; rintro e w' ⟨rfl, rfl⟩)
    go_ret
    exact ⟨rfl, rfl⟩
  · have H : rnd p q = (2 * p + q) / (2 * q) := by unfold rnd; rw [if_neg h]; exact Int.tdiv_eq_ediv_of_nonneg (by omega)
    rw [H]; clear H
    exact rnd29p p q w (by omega) hp' hq hq'

def okX (R V N : Int) : Prop := 0 ≤ R ∧ R ≤ 2097152 ∧ -16384 ≤ V ∧ V ≤ 16384 ∧ 1 ≤ N ∧ N ≤ 1000
instance (R V N : Int) : Decidable (okX R V N) := by unfold okX; infer_instance
def chk (R V N : Int) : Int := if okX R V N then 0 else 1

theorem chk17 (R V N : Int) (w : World) : Calls Try.prog 17 #[.agg #[.int .i64 R, .int .i64 V, .int .i64 N]] w fun e w' => e = .returned (.int .i64 (chk R V N)) ∧ w.alloc (.cells #[.int .i64 R, .int .i64 V, .int .i64 N] 23) = w' := by
  by_cases h : okX R V N
  · have H : chk R V N = 0 := by unfold chk; rw [if_pos h]
    rw [H]; clear H
    obtain ⟨h1, h2, h3, h4, h5, h6⟩ := h
    go_enter Try.func17, Try.ntmps17
    go_wp2
    go_ret
    exact ⟨rfl, rfl⟩
  · have H : chk R V N = 1 := by unfold chk; rw [if_neg h]
    rw [H]; clear H
    unfold okX at h
    go_enter Try.func17, Try.ntmps17
    go_wp2
    all_goals first | omega | (go_ret; exact ⟨rfl, rfl⟩)

theorem chk18 (R V N : Int) (w : World) : Calls Try.prog 18 #[.agg #[.int .i64 R, .int .i64 V, .int .i64 N]] w fun e w' => e = .returned (.int .i64 (chk R V N)) ∧ w.alloc (.cells #[.int .i64 R, .int .i64 V, .int .i64 N] 23) = w' := by
  by_cases h : okX R V N
  · have H : chk R V N = 0 := by unfold chk; rw [if_pos h]
    rw [H]; clear H
    obtain ⟨h1, h2, h3, h4, h5, h6⟩ := h
    go_enter Try.func18, Try.ntmps18
    go_wp2
    go_ret
    exact ⟨rfl, rfl⟩
  · have H : chk R V N = 1 := by unfold chk; rw [if_neg h]
    rw [H]; clear H
    unfold okX at h
    go_enter Try.func18, Try.ntmps18
    go_wp2
    all_goals first | omega | (go_ret; exact ⟨rfl, rfl⟩)

theorem lim26 (lo hi : Int) (w : World) : Calls Try.prog 26 #[.int .i64 lo, .int .i64 hi] w fun e w' => e = .returned (.func (.func 31) #[] #[.pointer (some ⟨w.heap.size, 0, none⟩), .pointer (some ⟨w.heap.size + 1, 0, none⟩)]) ∧ (w.alloc (.cells #[.int .i64 lo] 3)).alloc (.cells #[.int .i64 hi] 3) = w' := by
  go_enter Try.func26, Try.ntmps26
  go_wp2
  go_ret
  exact ⟨rfl, rfl⟩

def okr (r : Int) : Prop := 0 ≤ r ∧ r ≤ 8192
instance (r : Int) : Decidable (okr r) := by unfold okr; infer_instance
def okU (R V N r c : Int) : Prop := okX R V N ∧ 0 ≤ r ∧ r ≤ 8192 ∧ 1 ≤ c ∧ c ≤ 16
instance (R V N r c : Int) : Decidable (okU R V N r c) := by unfold okU; infer_instance
def gn (N : Int) : Int := min (N + 1) 8
def upR (R V N r c : Int) : Int := lim (R + c * V + rnd (2 * (2 * gn N - 1) * (256 * r - (R + c * V))) (gn N * (gn N + 1))) 0 2097152
def upV (R V N r c : Int) : Int := lim (V + rnd (6 * (256 * r - (R + c * V))) (gn N * (gn N + 1) * c)) (-16384) 16384
def upN (N : Int) : Int := min (N + 1) 1000

theorem rnd_bd (p q : Int) (hq : 1 ≤ q) (b : Int) (h1 : -b ≤ p) (h2 : p ≤ b) (h3 : q ≤ b) : -(3 * b) ≤ rnd p q ∧ rnd p q ≤ 3 * b := by
  by_cases h : p < 0
  · have H : rnd p q = -((2 * (-p) + q) / (2 * q)) := by
      unfold rnd; rw [if_pos h]
      rw [show 2 * p + -q = -(2 * (-p) + q) by omega, Int.neg_tdiv, Int.tdiv_eq_ediv_of_nonneg (by omega)]
    have hb : 0 ≤ (2 * (-p) + q) / (2 * q) := Int.ediv_nonneg (by omega) (by omega)
    have hb' : (2 * (-p) + q) / (2 * q) ≤ 2 * (-p) + q := Int.ediv_le_self _ (by omega)
    omega
  · have H : rnd p q = (2 * p + q) / (2 * q) := by unfold rnd; rw [if_neg h]; exact Int.tdiv_eq_ediv_of_nonneg (by omega)
    have hb : 0 ≤ (2 * p + q) / (2 * q) := Int.ediv_nonneg (by omega) (by omega)
    have hb' : (2 * p + q) / (2 * q) ≤ 2 * p + q := Int.ediv_le_self _ (by omega)
    omega


end Go.Proofs.Ytephkhaebkajkaa
