/- squitter's reference: digits, Wrong. -/
import Derived.Test.YtkikokldijccnaaDoorRows
import Derived.WalkKit
import Derived.WalkLawsBesides
import Derived.WalkSpells
import Derived.ProofKit
import Derived.Below
import Derived.Outline
import Derived.Lib.Hide
import Derived.Deep.RegionWith
import Derived.Deep.RegionHeld3
import Derived.Deep.DrawnRows
import Derived.StillTailTactics
import Derived.BigQuiet
import Derived.Deep.QuietTactic
import Derived.Deep.LoopGhost
import Derived.IntWalk
import Derived.BigQuiet
import Derived.Lib.ItoaMem
import Derived.Test.YtkikokldijccnaaDoorSrD
namespace Go.Proofs.YtkikokldijccnaaDoor
open Go.RowKit Go.Maps
attribute [local go_sem ↓] Go.wp_at_zero Go.wp_at_succ
attribute [local go_sem] wrap_lit
def dg (n : Nat) : UInt8 := UInt8.ofNat (48 + n)
theorem dd_1 {k : Nat} (h : k < 10) : Lib.decDigits k = [dg k] := by rw [Lib.decDigits, dif_pos h]; rfl
theorem dd_2 {k : Nat} (h : ¬ k < 10) : Lib.decDigits k = Lib.decDigits (k / 10) ++ [dg (k % 10)] := by rw [Lib.decDigits, dif_neg h]; rfl
attribute [local go_sem] S_app S_size
theorem dd_len : ∀ (m k : Nat), k < 10 ^ m → (Lib.decDigits k).length ≤ m + 1
  | 0, k, h => by rw [dd_1 (by simpa using Nat.lt_of_lt_of_le h (by decide))]; simp
  | m + 1, k, h => by
    by_cases g : k < 10
    · rw [dd_1 g]; simp
    · have h10 : k < 10 ^ m * 10 := by rw [Nat.pow_succ] at h; exact h
      have := dd_len m (k / 10) (by omega)
      rw [dd_2 g, List.length_append, List.length_singleton]
      omega
set_option maxRecDepth 100000 in
set_option maxHeartbeats 4000000 in
theorem dig_small (n : Int) (w : World) (h0 : 0 ≤ n) (h1 : n < 10) : Calls Tryd.prog 42 #[.int .i64 n] w fun e w' => e = .returned (.string (S [dg n.toNat])) ∧ w' = w := by
  rcases (show n = 0 ∨ n = 1 ∨ n = 2 ∨ n = 3 ∨ n = 4 ∨ n = 5 ∨ n = 6 ∨ n = 7 ∨ n = 8 ∨ n = 9 by omega) with rfl | rfl | rfl | rfl | rfl | rfl | rfl | rfl | rfl | rfl
  all_goals
    clear h0 h1
    go_enter Tryd.func42, Tryd.ntmps42
    go_wp2_with fail
    go_ret
    exact ⟨by kernel_rfl, rfl⟩
set_option maxRecDepth 100000 in
set_option maxHeartbeats 4000000 in
theorem dig_nn : ∀ (k : Nat) (n : Int) (w : World), n = k → k < 1000000000000 → Calls Tryd.prog 42 #[.int .i64 n] w fun e w' => e = .returned (.string (S (Lib.decDigits k))) ∧ w' = w := by
  intro k
  induction k using Nat.strongRecOn with
  | _ k ih =>
    intro n w hn hk
    have n0 : 0 ≤ n := by omega
    have n1 : n < 1000000000000 := by omega
    by_cases h10 : n < 10
    · rw [dd_1 (by omega), show k = n.toNat by omega]
      exact dig_small n w n0 h10
    · have HD : Hid (Lib.decDigits k = Lib.decDigits (k / 10) ++ [dg (n % 10).toNat]) := Lib.hid (by
        rw [show (n % 10).toNat = k % 10 by omega]; exact dd_2 (by omega))
      have r0 : 0 ≤ n % 10 := by omega
      have r9 : n % 10 < 10 := by omega
      have IH := Lib.hid (fun w' => ih (k / 10) (by omega) (n / 10) w' (by omega) (by omega))
      have e1 : IntKind.i64.wrap (n.tdiv 10) = n / 10 := IntWalk.i64_quo _ _ (by omega)
      have e2 : n.tmod 10 = n % 10 := IntWalk.rem_in _ _ n0
      have hL : (Lib.decDigits (k / 10)).length ≤ 13 := dd_len 12 _ (by omega)
      clear hn ih
      go_enter Tryd.func42, Tryd.ntmps42
      go_wp2_with fail
      refine (IH.out _).mono ?_
      rintro e w1 ⟨rfl, hw⟩
      rw [hw]
      clear hw w1
      go_wp2_with fail
      refine (dig_small (n % 10) _ r0 r9).mono ?_
      rintro e w1 ⟨rfl, hw⟩
      rw [hw]
      clear hw w1
      go_wp2_with fail
      go_ret
      exact ⟨by rw [HD.out]; rfl, rfl⟩
theorem digits42 (n : Int) (w : World) (h0 : 0 ≤ n) (h1 : n < 1000000000000) : Calls Tryd.prog 42 #[.int .i64 n] w fun e w' => e = .returned (.string (S (Lib.itoa n))) ∧ w' = w := by
  obtain ⟨k, rfl⟩ : ∃ k : Nat, n = k := ⟨n.toNat, by omega⟩
  rw [Lib.itoa_nonneg]
  exact dig_nn k k w rfl (by omega)
set_option maxHeartbeats 1000000 in
theorem wrong9 (need win keep : Int) (w : World) : Calls Tryd.prog 9 #[.int .i64 need, .int .i64 win, .int .i64 keep] w fun e w' => e = .returned (.int .i64 (newE need win keep)) ∧ w' = w := by
  have key : newE need win keep = if (decide (need < 1) || decide (8 < need) || decide (win < need) || decide (64 < win) || decide (keep < win) || decide (1024 < keep)) then 1 else 0 := by
    unfold newE
    simp only [Bool.or_eq_true, decide_eq_true_eq, or_assoc]
  have HK := Lib.hid key
  clear key
  go_enter Tryd.func9, Tryd.ntmps9
  cases q1 : decide (need < 1) with
  | true =>
    go_wp2_with fail
    go_ret
    exact ⟨by rw [HK.out, q1]; rfl, rfl⟩
  | false =>
    cases q2 : decide (8 < need) with
    | true =>
      go_wp2_with fail
      go_ret
      exact ⟨by rw [HK.out, q1, q2]; rfl, rfl⟩
    | false =>
      cases q3 : decide (win < need) with
      | true =>
        go_wp2_with fail
        go_ret
        exact ⟨by rw [HK.out, q1, q2, q3]; rfl, rfl⟩
      | false =>
        cases q4 : decide (64 < win) with
        | true =>
          go_wp2_with fail
          go_ret
          exact ⟨by rw [HK.out, q1, q2, q3, q4]; rfl, rfl⟩
        | false =>
          cases q5 : decide (keep < win) with
          | true =>
            go_wp2_with fail
            go_ret
            exact ⟨by rw [HK.out, q1, q2, q3, q4, q5]; rfl, rfl⟩
          | false =>
            cases q6 : decide (1024 < keep) with
            | true =>
              go_wp2_with fail
              go_ret
              exact ⟨by rw [HK.out, q1, q2, q3, q4, q5, q6]; rfl, rfl⟩
            | false =>
              go_wp2_with fail
              go_ret
              exact ⟨by rw [HK.out, q1, q2, q3, q4, q5, q6]; rfl, rfl⟩
end Go.Proofs.YtkikokldijccnaaDoor
