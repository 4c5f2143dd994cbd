/- Package geometry: near. -/
import Derived.Test.YtdflamblbhpngaaRows
import Derived.WalkKit
import Derived.WalkLawsBesides
import Derived.WalkSpells
import Derived.ProofKit
import Derived.Below
import Derived.Outline
import Derived.Lib.Hide
import Derived.Deep.RegionWith
import Derived.Deep.RegionHeld3
import Derived.Deep.DrawnRows
import Derived.StillTailTactics
import Derived.BigQuiet
import Derived.Deep.QuietTactic
import Derived.Deep.LoopGhost
import Derived.IntWalk
import Derived.Test.YtdflamblbhpngaaGeA
import Derived.ChangeKeysEq
namespace Go.Proofs.Ytdflamblbhpngaa
open Go.RowKit
attribute [local go_sem ↓] Go.wp_at_zero Go.wp_at_succ
attribute [local go_sem] wrap_lit

def hiZ (x y : Int) : Int := hiW x.toNat y.toNat
def loZ (x y : Int) : Int := loW x.toNat y.toNat
theorem multI (x y : Int) (w : World) (hx : 0 ≤ x) (hx' : x ≤ 4611686018427387904) (hy : 0 ≤ y) (hy' : y ≤ 4611686018427387904) : Calls Try.prog 48 #[.int .i64 x, .int .i64 y] w fun e w' => e = .returned (.agg #[.int .u64 (hiZ x y), .int .u64 (loZ x y)]) ∧ Below w.heap.size w w' := by
  have h := mult48 x.toNat y.toNat w (by omega) (by omega)
  rw [Int.toNat_of_nonneg hx, Int.toNat_of_nonneg hy] at h
  exact h
theorem ltZ (a b c d : Int) (ha : 0 ≤ a) (hb : 0 ≤ b) (hc : 0 ≤ c) (hd : 0 ≤ d) : ltW (hiZ a b) (loZ a b) (hiZ c d) (loZ c d) ↔ a * b < c * d := by
  unfold hiZ loZ
  rw [ltW_mul]
  have e1 : ((a.toNat * b.toNat : Nat) : Int) = a * b := by rw [Int.natCast_mul, Int.toNat_of_nonneg ha, Int.toNat_of_nonneg hb]
  have e2 : ((c.toNat * d.toNat : Nat) : Int) = c * d := by rw [Int.natCast_mul, Int.toNat_of_nonneg hc, Int.toNat_of_nonneg hd]
  omega

/-- The distance at the time of closest approach is less than d range units. -/
def nearB (pp pv vv d : Int) : Bool := decide (pp < 9025 * d * d ∨ (pv < 0 ∧ (pp - 9025 * d * d) * vv < -pv * -pv))
def okM (pp pv vv d : Int) : Prop := 0 ≤ pp ∧ pp ≤ 10000000000000 ∧ -10000000000000 ≤ pv ∧ pv ≤ 10000000000000 ∧ 0 ≤ vv ∧ vv ≤ 10000000000000 ∧ 0 ≤ d ∧ d ≤ 100000

set_option maxHeartbeats 1000000 in
theorem near41 (p v : V3) (pp pv vv d : Int) (w : World) (h : okM pp pv vv d) : Calls Try.prog 41 #[.agg #[.int .i64 p.x, .int .i64 p.y, .int .i64 p.z, .int .i64 v.x, .int .i64 v.y, .int .i64 v.z, .int .i64 pp, .int .i64 pv, .int .i64 vv], .int .i64 d] w fun e w' => e = .returned (.bool (nearB pp pv vv d)) ∧ Below w.heap.size w w' := by
  obtain ⟨h1, h2, h3, h4, h5, h6, h7, h8⟩ := h
  obtain ⟨m1, m2⟩ := mul_bd (a := d) (A := 100000) (b := d) (B := 100000) (by omega) (by omega) (by omega) (by omega)
  have m3 : 0 ≤ d * d := Int.mul_nonneg h7 h7
  have e9 : 9025 * d * d = 9025 * (d * d) := Int.mul_assoc ..
  have m4 : 0 ≤ 9025 * d * d := by omega
  have m5 : 9025 * d * d ≤ 90250000000000 := by omega
  have hq : IntKind.i64.wrap (9025 * d) = 9025 * d := IntWalk.i64_in _ (by omega)
  have hq2 : IntKind.i64.wrap (9025 * d * d) = 9025 * d * d := IntWalk.i64_in _ (by omega)
  clear m1 m2 m3 e9
  by_cases c1 : pp < 9025 * d * d
  · have hr : nearB pp pv vv d = true := decide_eq_true (.inl c1)
    rw [hr]; clear hr
    go_enter Try.func41, Try.ntmps41
    go_wp2_with fail
    go_ret
    exact ⟨rfl, (Below.refl _ _).alloc (Nat.le_refl _) _⟩
  · have c1' : 9025 * d * d ≤ pp := by omega
    by_cases c2 : pv < 0
    · have hr : nearB pp pv vv d = decide (ltW (hiZ (pp - 9025 * d * d) vv) (loZ (pp - 9025 * d * d) vv) (hiZ (-pv) (-pv)) (loZ (-pv) (-pv))) := by
        unfold nearB
        rw [decide_eq_decide, ltZ _ _ _ _ (by omega) h5 (by omega) (by omega)]
        constructor
        · rintro (h | h)
          · exact absurd h c1
          · exact h.2
        · exact fun h => .inr ⟨c2, h⟩
      rw [hr]; clear hr c1
      have hd : decide (pv < 0) = true := by simpa using c2
      have a1 : 0 ≤ pp - 9025 * d * d := by omega
      have a2 : pp - 9025 * d * d ≤ 10000000000000 := by omega
      have T1 := Lib.hid (fun w => multI (pp - 9025 * d * d) vv w a1 (by omega) h5 (by omega))
      have T2 := Lib.hid (fun w => multI (-pv) (-pv) w (by omega) (by omega) (by omega) (by omega))
      have q1 : IntKind.i64.wrap (pp - 9025 * d * d) = pp - 9025 * d * d := IntWalk.i64_in _ (by omega)
      have q2 : IntKind.i64.wrap (-pv) = -pv := IntWalk.i64_in _ (by omega)
      go_enter Try.func41, Try.ntmps41
      go_wp2_with fail
      go_region_held3 (fun w' => w'.cell? ⟨w.heap.size, 6, none⟩ = some (.int .i64 pp) ∧ w'.cell? ⟨w.heap.size, 7, none⟩ = some (.int .i64 pv) ∧ w'.cell? ⟨w.heap.size, 8, none⟩ = some (.int .i64 vv)) (go_keep) (first
        | ((with_reducible refine (T1.out _).mono ?_); rintro e w1 ⟨rfl, hb1⟩; have hc1 := (bcell hb1).1; have hs1 := hb1.size; (try simp at hs1); have z1 : w.heap.size < w1.heap.size := (by omega))
        | ((with_reducible refine (T2.out _).mono ?_); rintro e w2 ⟨rfl, hb2⟩; have hc2 := (bcell hb2).1; have hs2 := hb2.size; (try simp at hs2); have z2 : w.heap.size < w2.heap.size := (by omega))
        | (go_at_call 47; refine (less47 _ _ _ _ _).mono ?_; rintro e w3 ⟨rfl, hb3⟩; have hc3 := (bcell hb3).1; have hs3 := hb3.size; (try simp at hs3); have z3 : w.heap.size < w3.heap.size := (by omega)))
      all_goals
        go_wp2_with fail
        go_ret
        exact ⟨rfl, (((((Below.refl _ _).alloc (Nat.le_refl _) _).drew).trans (hb1.mono (by simp))).trans (hb2.mono (by omega))).trans (hb3.mono (by omega))⟩
    · have hr : nearB pp pv vv d = false := decide_eq_false (by rintro (h | h); exact c1 h; exact c2 h.1)
      rw [hr]; clear hr c1
      have hd : decide (pv < 0) = false := by simpa using c2
      have c2' : 0 ≤ pv := by omega
      clear c2
      go_enter Try.func41, Try.ntmps41
      go_wp2_with fail
      go_quiet (fail)
      go_wp2_with fail
      go_ret
      exact ⟨rfl, below_drewN ((Below.refl _ _).alloc (Nat.le_refl _) _) _⟩
end Go.Proofs.Ytdflamblbhpngaa
