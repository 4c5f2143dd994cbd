/- Rounded quotients; the closures of Mul and divide. -/
import Derived.Test.YtmalpalepaomdaaDoorRows
import Derived.WalkKit
import Derived.WalkLawsBesides
import Derived.WalkSpells
import Derived.ProofKit
import Derived.Below
import Derived.Outline
import Derived.Lib.Hide
import Derived.Deep.RegionWith
import Derived.Deep.RegionHeld3
import Derived.Deep.DrawnRows
import Derived.StillTailTactics
import Derived.BigQuiet
import Derived.Deep.QuietTactic
import Derived.Deep.LoopGhost
import Derived.IntWalk
import Derived.Laws.BitsAllLaws
import Derived.Test.YtmalpalepaomdaaDoorFxA
import Derived.Test.YtmalpalepaomdaaDoorSh
namespace Go.Proofs.YtmalpalepaomdaaDoor
open Go.RowKit
attribute [local go_sem ↓] Go.wp_at_zero Go.wp_at_succ
attribute [local go_sem] wrap_lit

def DrN (w w' : World) : Prop := ∃ n, w.drewN n = w'
theorem or48 (a b : Int) (h0 : 0 ≤ a) (h1 : a ≤ 4096) (h2 : 0 ≤ b) (h3 : b < 281474976710656) : bits .or .u64 (a * 281474976710656) b = a * 281474976710656 + b := by
  obtain ⟨m, rfl⟩ := Int.eq_ofNat_of_zero_le h0
  obtain ⟨n, rfl⟩ := Int.eq_ofNat_of_zero_le h2
  have e : ((m : Int) * 281474976710656) = ((m * 281474976710656 : Nat) : Int) := by omega
  rw [e, u64_or_nat _ _ (by omega) (by omega), nat_join 48 _ _ (by omega) (by omega)]
  omega
theorem ret_intk {k : IntKind} {a b : Int} (h : a = b) : Ending.returned (.int k a) = .returned (.int k b) := by rw [h]
set_option maxHeartbeats 1000000 in
theorem rounded53 (p q : Int) (w : World) (h0 : 0 ≤ p) (h1 : p ≤ 288230376151711744) (hq : 0 < q) (hq1 : q ≤ 288230376151711744) :
    Calls Tryd.prog 53 #[.int .u64 p, .int .u64 q] w fun e w' => e = .returned (.int .u64 (rdN p q)) ∧ DrN w w' := by
  have m0 := Int.emod_nonneg p (show q ≠ 0 by omega)
  have m1 := Int.emod_lt_of_pos p hq
  have d0 := Int.ediv_nonneg h0 (show 0 ≤ q by omega)
  have d1 : p / q ≤ p := Int.ediv_le_self q h0
  have hq0 : q ≠ 0 := by omega
  have hb : decide (q = 0) = false := by simp [hq0]
  by_cases hc : q - p % q ≤ p % q
  all_goals
    first
    | (have HR : Hid (rdN p q = p / q + 1) := Lib.hid (if_pos (by omega)))
    | (have HR : Hid (rdN p q = p / q) := Lib.hid (if_neg (by omega)))
    go_enter Tryd.func53, Tryd.ntmps53
    go_wp2_with fail
    go_quiet (fail)
    go_wp2_with fail
    go_ret
    exact ⟨ret_intk (by rw [HR.out]), _, rfl⟩
set_option maxHeartbeats 1000000 in
theorem rounded40 (p q : Int) (w : World) (h0 : 0 ≤ p) (h1 : p ≤ 288230376151711744) (hq : 0 < q) (hq1 : q ≤ 288230376151711744) :
    Calls Tryd.prog 40 #[.int .i64 p, .int .i64 q] w fun e w' => e = .returned (.int .i64 (rdN p q)) ∧ DrN w w' := by
  have m0 := Int.emod_nonneg p (show q ≠ 0 by omega)
  have m1 := Int.emod_lt_of_pos p hq
  have d0 := Int.ediv_nonneg h0 (show 0 ≤ q by omega)
  have d1 : p / q ≤ p := Int.ediv_le_self q h0
  have hq0 : q ≠ 0 := by omega
  have hb : decide (q = 0) = false := by simp [hq0]
  by_cases hc : q - p % q ≤ p % q
  all_goals
    first
    | (have HR : Hid (rdN p q = p / q + 1) := Lib.hid (if_pos (by omega)))
    | (have HR : Hid (rdN p q = p / q) := Lib.hid (if_neg (by omega)))
    go_enter Tryd.func40, Tryd.ntmps40
    go_wp2_with fail
    go_quiet (fail)
    go_wp2_with fail
    go_ret
    exact ⟨ret_intk (by rw [HR.out]), _, rfl⟩

set_option maxHeartbeats 1000000 in
theorem mul35 (p q : Nat) (w : World) (hp : p ≤ 274877906944) (hq : q ≤ 274877906944) :
    Calls Tryd.prog 35 #[.int .u64 p, .int .u64 q] w fun e w' => e = .returned (.int .u64 (rdN ((p * q : Nat) : Int) 65536)) ∧ w = w' := by
  obtain ⟨X, hX⟩ : ∃ X : Nat, X = p * q := ⟨_, rfl⟩
  rw [← hX]
  have HX := Lib.hid hX
  clear hX
  go_enter Tryd.func35, Tryd.ntmps35
  go_wp2_with fail
  refine (Tryd.bits_Mul64 p q (by omega) (by omega) _).mono ?_
  rintro e w' ⟨rfl, rfl⟩
  obtain ⟨hi, hh⟩ : ∃ hi : Int, hi = ((p * q / 18446744073709551616 : Nat) : Int) := ⟨_, rfl⟩
  obtain ⟨lo, hl⟩ : ∃ lo : Int, lo = ((p * q % 18446744073709551616 : Nat) : Int) := ⟨_, rfl⟩
  rw [← hh, ← hl]
  have hpq : p * q ≤ 274877906944 * 274877906944 := Nat.mul_le_mul hp hq
  rw [← HX.out] at hh hl hpq
  have b0 : 0 ≤ hi := by omega
  have b1 : hi ≤ 4096 := by omega
  have b2 : 0 ≤ lo := by omega
  have b3 : lo ≤ 18446744073709551615 := by omega
  obtain ⟨n0, hn⟩ : ∃ n0 : Int, n0 = (X : Int) / 65536 := ⟨_, rfl⟩
  have hor : bits .or .u64 (hi * 281474976710656) (lo / 65536) = n0 := by
    rw [or48 hi (lo / 65536) b0 b1 (by omega) (by omega)]; omega
  have b4 : 0 ≤ n0 := by omega
  have b5 : n0 ≤ 2305843009213693952 := by omega
  have hm : lo % 65536 = (X : Int) % 65536 := by omega
  by_cases hc : 32768 ≤ lo % 65536
  all_goals
    first
    | (have HR : Hid (rdN (X : Int) 65536 = n0 + 1) := Lib.hid (by unfold rdN; rw [if_pos (by omega)]; omega))
    | (have HR : Hid (rdN (X : Int) 65536 = n0) := Lib.hid (by unfold rdN; rw [if_neg (by omega)]; omega))
    clear hh hl hpq hm hn
    go_wp2_with fail
    go_ret
    exact ⟨ret_intk (by rw [HR.out]), rfl⟩
theorem mul35' (p q : Int) (w : World) (h0 : 0 ≤ p) (hp : p ≤ 274877906944) (h1 : 0 ≤ q) (hq : q ≤ 274877906944) :
    Calls Tryd.prog 35 #[.int .u64 p, .int .u64 q] w fun e w' => e = .returned (.int .u64 (rdN (p * q) 65536)) ∧ w = w' := by
  obtain ⟨a, rfl⟩ := Int.eq_ofNat_of_zero_le h0
  obtain ⟨b, rfl⟩ := Int.eq_ofNat_of_zero_le h1
  have := mul35 a b w (by omega) (by omega)
  rw [Int.natCast_mul] at this
  exact this
theorem div52 (p q : Int) (w : World) (h0 : 0 ≤ p) (hp : p ≤ 1099511627776) (h1 : 0 < q) (hq : q ≤ 1099511627776) :
    Calls Tryd.prog 52 #[.int .u64 p, .int .u64 q] w fun e w' => e = .returned (.int .u64 (rdN (p * 65536) q)) ∧ DrN w w' := by
  go_enter Tryd.func52, Tryd.ntmps52
  go_wp2_with fail
  refine (rounded53 (p * 65536) q _ (by omega) (by omega) h1 (by omega)).mono ?_
  rintro e w' ⟨rfl, hd⟩
  go_wp2_with fail
  go_ret
  exact ⟨rfl, hd⟩
theorem abs50 (x : Int) (w : World) (h0 : -4611686018427387904 ≤ x) (h1 : x ≤ 4611686018427387904) : Calls Tryd.prog 50 #[.int .i64 x] w fun e w' => e = .returned (.int .u64 (absI x)) ∧ w = w' := by
  by_cases h : x < 0
  · have HE := Lib.hid (absI_n h)
    go_enter Tryd.func50, Tryd.ntmps50
    go_wp2_with fail
    go_ret
    exact ⟨ret_intk HE.out.symm, rfl⟩
  · have HE := Lib.hid (absI_p (x := x) (by omega))
    go_enter Tryd.func50, Tryd.ntmps50
    go_wp2_with fail
    go_ret
    exact ⟨ret_intk HE.out.symm, rfl⟩
theorem signed38 (f : Nat) (w : World) : Calls Tryd.prog 38 #[.func (.func f) #[] #[]] w fun e w' => e = .returned (.func (.func 51) #[] #[.pointer (some ⟨w.heap.size, 0, none⟩), .pointer (some ⟨w.heap.size + 1, 0, none⟩)]) ∧ (w.alloc (.cells #[.func (.func f) #[] #[]] 46)).alloc (.cells #[.func (.func 50) #[] #[]] 66) = w' := by
  have hsf : ∀ (w : World) (a : Addr) (k : Nat), _ := fun w a k => run_store Tryd.prog w a (.func (.func k) #[] #[]) .plain rfl
  go_enter Tryd.func38, Tryd.ntmps38
  go_wp2_with fail
  go_ret
  exact ⟨rfl, rfl⟩
/-- n, with the sign of a product of numbers of the signs of a and b. -/
def sg (a b n : Int) : Int := if decide (a < 0) = decide (b < 0) then n else -n
theorem flipd {P : Program} {f : FuncId} {args : Array Value} {w : World} {v : Value} (h : Calls P f args w fun e w' => e = .returned v ∧ DrN w w') : Calls P f args w fun e w'' => e = .returned v ∧ ∃ m, w'' = w.drewN m := h.mono fun _ _ ⟨a, m, b⟩ => ⟨a, m, b.symm⟩
set_option maxHeartbeats 2000000 in
theorem signed51 (f : Nat) (a b n : Int) (g1 g2 : Nat) (w : World) (c1 : w.cell? ⟨g1, 0, none⟩ = some (.func (.func f) #[] #[])) (c2 : w.cell? ⟨g2, 0, none⟩ = some (.func (.func 50) #[] #[]))
    (hen : ∀ args w, (callFunc f args).run Tryd.prog w = .ok (.enter f args) w) (hf : ∀ w, Calls Tryd.prog f #[.int .u64 (absI a), .int .u64 (absI b)] w fun e w' => e = .returned (.int .u64 n) ∧ DrN w w') (ha0 : -1099511627776 ≤ a) (ha1 : a ≤ 1099511627776) (hb0 : -1099511627776 ≤ b) (hb1 : b ≤ 1099511627776) (n0 : 0 ≤ n) (n1 : n ≤ 2305843009213693952) :
    Calls Tryd.prog 51 #[.int .i64 a, .int .i64 b, .pointer (some ⟨g1, 0, none⟩), .pointer (some ⟨g2, 0, none⟩)] w fun e w' => e = .returned (.int .i64 (sg a b n)) ∧ DrN w w' := by
  have HF := Lib.hid hf
  clear hf
  obtain ⟨x, hx⟩ : ∃ x, decide (a < 0) = x := ⟨_, rfl⟩
  obtain ⟨y, hy⟩ : ∃ y, decide (b < 0) = y := ⟨_, rfl⟩
  have HR : Hid (sg a b n = if x = y then n else -n) := Lib.hid (by unfold sg; rw [hx, hy])
  go_enter Tryd.func51, Tryd.ntmps51
  go_wp2_with fail
  go_quiet ((first | (go_at_call 50; with_reducible exact Calls.quiet_of_same (flipc (abs50 _ _ (by omega) (by omega)))) | (with_reducible exact Calls.quiet_of (flipd (HF.out _)))))
  cases x <;> cases y
  · have HS : Hid (sg a b n = n) := Lib.hid (by rw [HR.out]; rfl)
    go_wp2_with fail
    go_ret
    exact ⟨ret_intk (by rw [HS.out]), _, rfl⟩
  · have HS : Hid (sg a b n = -n) := Lib.hid (by rw [HR.out]; rfl)
    go_wp2_with fail
    go_ret
    exact ⟨ret_intk (by rw [HS.out]), _, rfl⟩
  · have HS : Hid (sg a b n = -n) := Lib.hid (by rw [HR.out]; rfl)
    go_wp2_with fail
    go_ret
    exact ⟨ret_intk (by rw [HS.out]), _, rfl⟩
  · have HS : Hid (sg a b n = n) := Lib.hid (by rw [HR.out]; rfl)
    go_wp2_with fail
    go_ret
    exact ⟨ret_intk (by rw [HS.out]), _, rfl⟩
end Go.Proofs.YtmalpalepaomdaaDoor
